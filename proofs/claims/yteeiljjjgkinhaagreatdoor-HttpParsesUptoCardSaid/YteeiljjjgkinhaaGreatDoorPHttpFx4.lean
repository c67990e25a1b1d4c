-- Written by a program of this session on top of the print: some functions by hand.
import Derived.Test.YteeiljjjgkinhaaGreatDoorPHttpFx0
namespace Go.Proofs.YteeiljjjgkinhaaGreatDoor.PHttpF
open Go.RowKit Go.Proofs.YteeiljjjgkinhaaGreatDoorW.PrintWords Go.Proofs.YteeiljjjgkinhaaGreatDoorW.PrintLast Go.Proofs.YteeiljjjgkinhaaGreatDoorW.PrintMore
attribute [local go_sem] max2_int min2_int max_two min_two max_three min_three max_four min_four   -- for this text's walks alone
set_option linter.unusedVariables false
set_option linter.unusedSimpArgs false

/-! ### strings_ContainsAny: function 33 -/
def strings_ContainsAny.f (a0 : ByteArray) (a1 : ByteArray) : Option Bool := if a0.size < 4294967281 ∧ a1.data.toList = [10, 13, 0] then some (Lib.containsAny a0.data.toList [10, 13, 0]) else none
theorem strings_ContainsAny.calls (a0 : ByteArray) (a1 : ByteArray) (r : Bool) (w : World) (h : strings_ContainsAny.f a0 a1 = some r) :
  Calls Tryz.prog 33 #[.string a0, .string a1] w fun e w' => e = .returned (.bool r) ∧ Below w.heap.size w w' := by
 unfold strings_ContainsAny.f at h
 split at h
 ·rename_i hs
  obtain rfl := Option.some.inj h
  obtain rfl : a1 = HtIx.c3 := ByteArray.ext (Array.toList_inj.1 hs.2)
  exact HtIx.contains_any Tryz.lays150 kr a0 w hs.1
 ·cases h

-- NOT PRINTED: function 94 (abi_NoEscape)

-- NOT PRINTED: function 74 (strings_Builder_copyCheck)

-- NOT PRINTED: function 95 (bytealg_MakeNoZero)

-- NOT PRINTED: function 75 (strings_Builder_grow)

-- NOT PRINTED: function 50 (strings_Builder_Grow)

-- NOT PRINTED: function 51 (strings_Builder_WriteString)

-- NOT PRINTED: function 52 (strings_Builder_WriteByte)

-- NOT PRINTED: function 53 (strings_Builder_String)

/-! ### strings_ToLower: function 34 -/
def strings_ToLower.f (a0 : ByteArray) : Option ByteArray := if (decide (a0.size ≤ 140737488355328) && asciiB a0) = true then some (⟨(Lib.toLowerA a0.data.toList).toArray⟩) else none
theorem strings_ToLower.calls (a0 : ByteArray) (r : ByteArray) (w : World) (h : strings_ToLower.f a0 = some r) :
  Calls Tryz.prog 34 #[.string a0] w fun e w' => e = .returned (.string r) ∧ Below w.heap.size w w' := by
 unfold strings_ToLower.f at h
 split at h
 ·rename_i hs
  obtain rfl := Option.some.inj h
  simp only [Bool.and_eq_true, decide_eq_true_eq] at hs
  exact Tryz.strings_ToLower_ascii a0 w hs.1 (ascii_of hs.2)
 ·cases h

/-! ### strings_Trim: function 35 -/
def strings_Trim.f (a0 : ByteArray) (a1 : ByteArray) : Option ByteArray := if (decide (a0.size ≤ 9223372036854775807) && (decide (a1.size < 4294967281) && asciiB a1)) = true then some (⟨(Lib.trimS a0.data.toList a1.data.toList).toArray⟩) else none
theorem strings_Trim.calls (a0 : ByteArray) (a1 : ByteArray) (r : ByteArray) (w : World) (h : strings_Trim.f a0 a1 = some r) :
  Calls Tryz.prog 35 #[.string a0, .string a1] w fun e w' => e = .returned (.string r) ∧ Below w.heap.size w w' := by
 unfold strings_Trim.f at h
 split at h
 ·rename_i hs
  obtain rfl := Option.some.inj h
  simp only [Bool.and_eq_true, decide_eq_true_eq] at hs
  exact Any.strings_Trim_laid Tryz.lays160 kr a0 a1 w hs.1 hs.2.1 (ascii_of hs.2.2)
 ·cases h

end Go.Proofs.YteeiljjjgkinhaaGreatDoor.PHttpF
