-- Written by a program of this session on top of the print: some functions by hand.
import Derived.Test.YteeiljjjgkinhaaDoorPHttpEx0
import Derived.Test.YteeiljjjgkinhaaDoorPHttpEx4
import Derived.Test.YteeiljjjgkinhaaDoorPHttpEx5
namespace Go.Proofs.YteeiljjjgkinhaaDoor.PHttpE
open Go.RowKit Go.Proofs.YteeiljjjgkinhaaDoorW.PrintWords Go.Proofs.YteeiljjjgkinhaaDoorW.PrintLast Go.Proofs.YteeiljjjgkinhaaDoorW.PrintMore
attribute [local go_sem] max2_int min2_int max_two min_two max_three min_three max_four min_four   -- for this text's walks alone
set_option linter.unusedVariables false
set_option linter.unusedSimpArgs false

/-! ### strings_ToLower: function 26 -/
def strings_ToLower.f (a0 : ByteArray) : Option ByteArray := if (decide (a0.size ≤ 140737488355328) && asciiB a0) = true then some (⟨(Lib.toLowerA a0.data.toList).toArray⟩) else none
theorem strings_ToLower.calls (a0 : ByteArray) (r : ByteArray) (w : World) (h : strings_ToLower.f a0 = some r) :
  Calls Tryd.prog 26 #[.string a0] w fun e w' => e = .returned (.string r) ∧ Below w.heap.size w w' := by
 unfold strings_ToLower.f at h
 split at h
 ·rename_i hs
  obtain rfl := Option.some.inj h
  simp only [Bool.and_eq_true, decide_eq_true_eq] at hs
  exact Tryd.strings_ToLower_ascii a0 w hs.1 (ascii_of hs.2)
 ·cases h

/-! ### strings_Trim: function 27 -/
def strings_Trim.f (a0 : ByteArray) (a1 : ByteArray) : Option ByteArray := if (decide (a0.size ≤ 9223372036854775807) && (decide (a1.size < 4294967281) && asciiB a1)) = true then some (⟨(Lib.trimS a0.data.toList a1.data.toList).toArray⟩) else none
theorem strings_Trim.calls (a0 : ByteArray) (a1 : ByteArray) (r : ByteArray) (w : World) (h : strings_Trim.f a0 a1 = some r) :
  Calls Tryd.prog 27 #[.string a0, .string a1] w fun e w' => e = .returned (.string r) ∧ Below w.heap.size w w' := by
 unfold strings_Trim.f at h
 split at h
 ·rename_i hs
  obtain rfl := Option.some.inj h
  simp only [Bool.and_eq_true, decide_eq_true_eq] at hs
  exact Any.strings_Trim_laid Tryd.lays160 kr a0 a1 w hs.1 hs.2.1 (ascii_of hs.2.2)
 ·cases h

/-! ### http_field: function 18 -/
def http_field.j0 : Nat → ByteArray → ByteArray → Bool → Option (ByteArray × ByteArray × Bool)
 | 0, _, _, _ => none
 | k + 1, x5, x6, x24 => if x24 = true then (some ((⟨#[]⟩ : ByteArray), (⟨#[]⟩ : ByteArray), false)) else ((strings_ToLower.f x5).bind fun t179 => ((strings_Trim.f x6 (⟨#[32, 9]⟩ : ByteArray)).bind fun t180 => (some (t179, t180, true))))
def http_field.f (k : Nat) (a0 : ByteArray) : Option (ByteArray × ByteArray × Bool) := (strings_Cut.f a0 (⟨#[58]⟩ : ByteArray)).bind fun bt174 => (if bt174.2.2 = true then ((http_name.f k bt174.1).bind fun t177 => (if t177 = true then ((strings_ContainsAny.f bt174.2.1 (⟨#[10, 13, 0]⟩ : ByteArray)).bind fun t178 => (http_field.j0 k bt174.1 bt174.2.1 t178)) else (http_field.j0 k bt174.1 bt174.2.1 true))) else (http_field.j0 k bt174.1 bt174.2.1 true))
theorem http_field.mono_l : ∀ k, (∀ y0 y1 y2, LeO (http_field.j0 k y0 y1 y2) (http_field.j0 (k + 1) y0 y1 y2))
 | 0 => fun _ _ _ r h => by simp [http_field.j0] at h
 | k + 1 => by
  have ih0 := http_field.mono_l k
  ·intro y0 y1 y2
   unfold http_field.j0
   repeat' first
   | (with_reducible exact ih0 _ _ _)
   | (with_reducible exact http_name.mono _ _)
   | (with_reducible exact LeO.refl _)
   | (with_reducible exact LeO.none _)
   | (with_reducible refine LeO.ite ?_ ?_)
   | (with_reducible refine LeO.bind ?_ (fun _ => ?_))
   | exact ih0 _ _ _
   | exact http_name.mono _ _
   | exact LeO.none _
   | refine LeO.ite ?_ ?_
   | refine LeO.bind ?_ (fun _ => ?_)
theorem http_field.mono : ∀ a0 k, LeO (http_field.f k a0) (http_field.f (k + 1) a0) := by
 intro a0 k
 have ih0 := http_field.mono_l k
 unfold http_field.f
 repeat' first
   | (with_reducible exact ih0 _ _ _)
   | (with_reducible exact http_name.mono _ _)
   | (with_reducible exact LeO.refl _)
   | (with_reducible exact LeO.none _)
   | (with_reducible refine LeO.ite ?_ ?_)
   | (with_reducible refine LeO.bind ?_ (fun _ => ?_))
   | exact ih0 _ _ _
   | exact http_name.mono _ _
   | exact LeO.none _
   | refine LeO.ite ?_ ?_
   | refine LeO.bind ?_ (fun _ => ?_)
set_option maxHeartbeats 8000000 in
set_option maxRecDepth 100000 in
theorem http_field.calls (k : Nat) (a0 : ByteArray) (r1 : ByteArray) (r2 : ByteArray) (r3 : Bool) (w : World) (hU : LaidU w) (h : http_field.f k a0 = some (r1, r2, r3)) :
  Calls Tryd.prog 18 #[.string a0] w fun e w' => e = .returned (.tuple #[.string r1, .string r2, .bool r3]) ∧ Below w.heap.size w w' := by
 have HU := Aside0.mk hU
 clear hU
 have HB := Aside0.mk (Below.refl w.heap.size w)
 have H : ((strings_Cut.f a0 (⟨#[58]⟩ : ByteArray)).bind fun bt174 => (if bt174.2.2 = true then ((http_name.f k bt174.1).bind fun t177 => (if t177 = true then ((strings_ContainsAny.f bt174.2.1 (⟨#[10, 13, 0]⟩ : ByteArray)).bind fun t178 => (http_field.j0 k bt174.1 bt174.2.1 t178)) else (http_field.j0 k bt174.1 bt174.2.1 true))) else (http_field.j0 k bt174.1 bt174.2.1 true))) = some (r1, r2, r3) := h
 clear h
 replace H := Option.bind_eq_some_iff.mp H
 obtain ⟨⟨t174, t175, t176⟩, A20, H⟩ := H
 replace H : (if t176 = true then ((http_name.f k t174).bind fun t177 => (if t177 = true then ((strings_ContainsAny.f t175 (⟨#[10, 13, 0]⟩ : ByteArray)).bind fun t178 => (http_field.j0 k t174 t175 t178)) else (http_field.j0 k t174 t175 true))) else (http_field.j0 k t174 t175 true)) = some (r1, r2, r3) := H
 have A2 := Aside0.mk A20
 clear A20
 have HC3 := Aside0.mk H
 clear H
 go_enter Tryd.func18, Tryd.ntmps18
 go_upto_region 2 with (first | ((with_reducible refine gate_callee (f := 23) rfl ?_); refine goesL_ (some 10) rfl rfl Tryd.func23 kr rfl #[.string a0, .string (⟨#[58]⟩ : ByteArray)] rfl ga ?_; (with_reducible refine (strings_Cut.calls a0 (⟨#[58]⟩ : ByteArray) t174 t175 t176 _ ?side1 A2.out).mono ?_); (case side1 => exact LaidU.below HU.out (bl HB.out)); rintro e w4 ⟨rfl, hb⟩; refine ⟨_, rfl, ?_⟩; replace HB := Aside0.mk (below_step (bl HB.out) hb); (try clear hb); (try clear hb2); (try clear hk); (try clear hi)))
 (try simp only [Act.put, List.setIfInBounds_toArray, List.set_cons_zero, List.set_cons_succ])
 go_cut [24] (fun v24 wc => ∃ (kq : Nat) (x24_2 : Bool), v24 = .bool x24_2 ∧ Aside0 (http_field.j0 kq t174 t175 x24_2 = some (r1, r2, r3)) ∧ Aside0 (kq ≤ k) ∧ Aside0 (Below w.heap.size w wc))
 case first =>
  have H := HC3.out
  clear HC3
  by_cases c5 : t176 = true
  ·subst c5
   have H1 : ((http_name.f k t174).bind fun t177 => (if t177 = true then ((strings_ContainsAny.f t175 (⟨#[10, 13, 0]⟩ : ByteArray)).bind fun t178 => (http_field.j0 k t174 t175 t178)) else (http_field.j0 k t174 t175 true))) = some (r1, r2, r3) := by rw [if_pos rfl] at H; exact H
   clear H
   have H := H1
   clear H1
   replace H := Option.bind_eq_some_iff.mp H
   obtain ⟨t177, A60, H⟩ := H
   replace H : (if t177 = true then ((strings_ContainsAny.f t175 (⟨#[10, 13, 0]⟩ : ByteArray)).bind fun t178 => (http_field.j0 k t174 t175 t178)) else (http_field.j0 k t174 t175 true)) = some (r1, r2, r3) := H
   have A6 := Aside0.mk A60
   clear A60
   by_cases c7 : t177 = true
   ·subst c7
    have H1 : ((strings_ContainsAny.f t175 (⟨#[10, 13, 0]⟩ : ByteArray)).bind fun t178 => (http_field.j0 k t174 t175 t178)) = some (r1, r2, r3) := by rw [if_pos rfl] at H; exact H
    clear H
    have H := H1
    clear H1
    replace H := Option.bind_eq_some_iff.mp H
    obtain ⟨t178, A80, H⟩ := H
    replace H : (http_field.j0 k t174 t175 t178) = some (r1, r2, r3) := H
    have A8 := Aside0.mk A80
    clear A80
    have H' := Aside0.mk H
    clear H
    go_wp2_with (first | (go_at_call 24; (with_reducible refine (http_name.calls k t174 true _ A6.out).mono ?_); rintro e w' ⟨rfl, ⟨nd, rfl⟩⟩) | (go_at_call 25; (with_reducible refine (strings_ContainsAny.calls t175 (⟨#[10, 13, 0]⟩ : ByteArray) t178 _ A8.out).mono ?_); rintro e w9 ⟨rfl, hb⟩; replace HB := Aside0.mk (below_step (bl HB.out) hb); (try clear hb); (try clear hb2); (try clear hk); (try clear hi)))
    go_meet
    case rel => exact ⟨_, (t178), hsr, H', ⟨by first | omega | exact Nat.le_refl _⟩, ⟨bl HB.out⟩⟩
   ·replace c7 := Bool.eq_false_iff.mpr c7
    subst c7
    have H1 : (http_field.j0 k t174 t175 true) = some (r1, r2, r3) := by rw [if_neg (show ¬ (false = true) by decide)] at H; exact H
    clear H
    have H := H1
    clear H1
    have H' := Aside0.mk H
    clear H
    go_wp2_with (first | (go_at_call 24; (with_reducible refine (http_name.calls k t174 false _ A6.out).mono ?_); rintro e w' ⟨rfl, ⟨nd, rfl⟩⟩))
    go_meet
    case rel => exact ⟨_, (true), hsr, H', ⟨by first | omega | exact Nat.le_refl _⟩, ⟨bl HB.out⟩⟩
  ·replace c5 := Bool.eq_false_iff.mpr c5
   subst c5
   have H1 : (http_field.j0 k t174 t175 true) = some (r1, r2, r3) := by rw [if_neg (show ¬ (false = true) by decide)] at H; exact H
   clear H
   have H := H1
   clear H1
   have H' := Aside0.mk H
   clear H
   go_wp2
   go_meet
   case rel => exact ⟨_, (true), hsr, H', ⟨by first | omega | exact Nat.le_refl _⟩, ⟨bl HB.out⟩⟩
 case rest =>
  clear HC3
  try clear c1
  try clear c2
  try clear p2
  try clear c5
  try clear p6
  try clear c7
  obtain ⟨kq, x24_2, rfl, HA, HJ2, HB⟩ := hcut
  cases kq with
  | zero => exact absurd HA.out (by simp [http_field.j0])
  | succ kj2 =>
   have H := HA.out
   clear HA
   simp only [http_field.j0] at H
   by_cases c10 : x24_2 = true
   ·subst c10
    have H1 : (some ((⟨#[]⟩ : ByteArray), (⟨#[]⟩ : ByteArray), false)) = some (r1, r2, r3) := by rw [if_pos rfl] at H; exact H
    clear H
    have H := H1
    clear H1
    simp only [Option.some.injEq, Prod.mk.injEq] at H
    obtain ⟨rfl, rfl, rfl⟩ := H
    go_wp2
    go_ret3
    exact ⟨er0, bl HB.out⟩
   ·replace c10 := Bool.eq_false_iff.mpr c10
    subst c10
    have H1 : ((strings_ToLower.f t174).bind fun t179 => ((strings_Trim.f t175 (⟨#[32, 9]⟩ : ByteArray)).bind fun t180 => (some (t179, t180, true)))) = some (r1, r2, r3) := by rw [if_neg (show ¬ (false = true) by decide)] at H; exact H
    clear H
    have H := H1
    clear H1
    replace H := Option.bind_eq_some_iff.mp H
    obtain ⟨t179, A110, H⟩ := H
    replace H : ((strings_Trim.f t175 (⟨#[32, 9]⟩ : ByteArray)).bind fun t180 => (some (t179, t180, true))) = some (r1, r2, r3) := H
    have A11 := Aside0.mk A110
    clear A110
    replace H := Option.bind_eq_some_iff.mp H
    obtain ⟨t180, A120, H⟩ := H
    replace H : (some (t179, t180, true)) = some (r1, r2, r3) := H
    have A12 := Aside0.mk A120
    clear A120
    simp only [Option.some.injEq, Prod.mk.injEq] at H
    obtain ⟨rfl, rfl, rfl⟩ := H
    go_wp2_with (first | ((with_reducible refine gate_callee (f := 26) rfl ?_); refine goesL_ (some 26) rfl rfl Tryd.func26 kr rfl #[.string t174] rfl ga ?_; (with_reducible refine (strings_ToLower.calls t174 t179 _ A11.out).mono ?_); rintro e w13 ⟨rfl, hb⟩; refine ⟨_, rfl, ?_⟩; replace HB := Aside0.mk (below_step (bl HB.out) hb); (try clear hb); (try clear hb2); (try clear hk); (try clear hi)) | ((with_reducible refine gate_callee (f := 27) rfl ?_); refine goesL_ (some 28) rfl rfl Tryd.func27 kr rfl #[.string t175, .string (⟨#[32, 9]⟩ : ByteArray)] rfl ga ?_; (with_reducible refine (strings_Trim.calls t175 (⟨#[32, 9]⟩ : ByteArray) t180 _ A12.out).mono ?_); rintro e w14 ⟨rfl, hb⟩; refine ⟨_, rfl, ?_⟩; replace HB := Aside0.mk (below_step (bl HB.out) hb); (try clear hb); (try clear hb2); (try clear hk); (try clear hi)))
    go_ret3
    exact ⟨er0, bl HB.out⟩

end Go.Proofs.YteeiljjjgkinhaaDoor.PHttpE
