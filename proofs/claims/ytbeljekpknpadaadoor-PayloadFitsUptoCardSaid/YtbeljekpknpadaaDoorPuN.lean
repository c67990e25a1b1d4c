/- Numbers as bytes and bytes as numbers, by the document's functions; what a reader takes from the front. -/
import Derived.Test.YtbeljekpknpadaaDoorPuD
namespace Go.Proofs.YtbeljekpknpadaaDoor.PPayUL
open Go.RowKit Go.Proofs.YtbeljekpknpadaaDoor.PPayU Go.Proofs.YtbeljekpknpadaaDoorW.PrintWords Go.Proofs.YtbeljekpknpadaaDoorW.PrintLast Go.Proofs.YtbeljekpknpadaaDoorW.PrintMore
set_option linter.unusedVariables false
set_option linter.unusedSimpArgs false

theorem bt_getD (s : ByteArray) (i : Nat) (h : i < s.size) : bt s (i : Int) = ((s.data.toList[i]'(by simpa using h)).toNat : Int) := by
  unfold bt
  rw [Int.toNat_natCast, dif_pos h]
  rfl
def unle : List UInt8 → Nat
  | [] => 0
  | x :: l => x.toNat + 256 * unle l
theorem unle_lt : ∀ l : List UInt8, unle l < 256 ^ l.length
  | [] => by simp [unle]
  | x :: l => by
    have h := unle_lt l
    have hx := x.toNat_lt
    rw [unle, List.length_cons, Nat.pow_succ']
    omega
theorem u64_bits_or (a b : Nat) (ha : a < 18446744073709551616) (hb : b < 18446744073709551616) : bits .or .u64 (a : Int) (b : Int) = ((a ||| b : Nat) : Int) := by
  have hx : a ||| b < 2 ^ 64 := Nat.or_lt_two_pow (by omega) (by omega)
  show IntKind.u64.wrap ((BitVec.ofInt 64 (a : Int) ||| BitVec.ofInt 64 (b : Int)).toNat : Int) = _
  rw [BitVec.toNat_or, BitVec.ofInt_natCast, BitVec.ofInt_natCast, BitVec.toNat_ofNat, BitVec.toNat_ofNat, Nat.mod_eq_of_lt (by omega), Nat.mod_eq_of_lt (by omega), IntKind.wrap_u64]
  omega
theorem unle_drop (s : ByteArray) (i : Nat) (h : i < s.size) : unle (s.data.toList.drop i) = (s.data.toList[i]'(by simpa using h)).toNat + 256 * unle (s.data.toList.drop (i + 1)) := by
  rw [List.drop_eq_getElem_cons (by simpa using h), unle]
theorem unle_drop_lt (s : ByteArray) (i : Nat) (h8 : s.size ≤ 8) : unle (s.data.toList.drop (i + 1)) < 256 ^ 7 := by
  refine Nat.lt_of_lt_of_le (unle_lt _) (Nat.pow_le_pow_right (by omega) ?_)
  have : s.data.toList.length = s.size := by simp
  rw [List.length_drop]
  omega
def UNFIX (s : ByteArray) : Nat := unle s.data.toList
theorem UNFIX_lt (s : ByteArray) : UNFIX s < 256 ^ s.size := by
  have h := unle_lt s.data.toList
  rwa [show s.data.toList.length = s.size by simp] at h
theorem FIX_data (n w : Nat) : (FIX n w).data.toList = (leB w n).map fun x => UInt8.ofNat x.toNat := strOfNums_data _
theorem unle_FIX : ∀ (w n : Nat), n < 256 ^ w → unle ((leB w n).map fun x => UInt8.ofNat x.toNat) = n
  | 0, n, h => by simp at h; simp [leB, unle, h]
  | w + 1, n, h => by
    have hd : n / 256 < 256 ^ w := by rw [Nat.div_lt_iff_lt_mul (by omega), ← Nat.pow_succ]; exact h
    simp only [leB, List.map_cons, unle]
    rw [unle_FIX w (n / 256) hd]
    simp
    omega
theorem UNFIX_FIX (n w : Nat) (h : n < 256 ^ w) : UNFIX (FIX n w) = n := by
  unfold UNFIX
  rw [FIX_data, unle_FIX w n h]

/-! ### a reader -/
def TXT (s : ByteArray) (a : Nat) (bad : Bool) (n : Int) : ByteArray × Nat × Bool :=
  if bad = true ∨ n < 0 ∨ n > (s.size : Int) - a then (⟨#[]⟩, a, true) else (s.extract a (a + n.toNat), a + n.toNat, false)
theorem TXT_bad (s : ByteArray) (a : Nat) (n : Int) : TXT s a true n = (⟨#[]⟩, a, true) := by unfold TXT; rw [if_pos (Or.inl rfl)]
theorem TXT_le (s : ByteArray) (a : Nat) (bad : Bool) (n : Int) (ha : a ≤ s.size) : (TXT s a bad n).2.1 ≤ s.size := by
  unfold TXT
  split
  · exact ha
  · rename_i h
    simp only [not_or] at h
    show a + n.toNat ≤ s.size
    omega
theorem ext_size (s : ByteArray) (a n : Nat) (h : a + n ≤ s.size) : (s.extract a (a + n)).size = n := by
  rw [ByteArray.size_extract]
  omega
theorem TXT_size (s : ByteArray) (a : Nat) (bad : Bool) (n : Int) (ha : a ≤ s.size) : (TXT s a bad n).1.size ≤ s.size := by
  unfold TXT
  split
  · exact Nat.zero_le _
  · rename_i h
    simp only [not_or] at h
    show (s.extract a (a + n.toNat)).size ≤ s.size
    rw [ext_size s a n.toNat (by omega)]
    omega
def NUM (s : ByteArray) (a : Nat) (bad : Bool) (w : Nat) : Nat × Nat × Bool :=
  ((if (TXT s a bad w).1.size = 0 then 0 else UNFIX (TXT s a bad w).1), (TXT s a bad w).2)
theorem NUM_le (s : ByteArray) (a : Nat) (bad : Bool) (w : Nat) (ha : a ≤ s.size) : (NUM s a bad w).2.1 ≤ s.size := TXT_le s a bad w ha
theorem TXT_w (s : ByteArray) (a w : Nat) (bad : Bool) (ha : a ≤ s.size) (h : (TXT s a bad w).1.size ≠ 0) : (TXT s a bad w).1.size = w := by
  unfold TXT at h ⊢
  split at h
  · exact absurd rfl h
  · rename_i c
    rw [if_neg c]
    simp only [not_or] at c
    show (s.extract a (a + (w : Int).toNat)).size = w
    rw [ext_size s a (w : Int).toNat (by omega)]
    omega
theorem NUM_lt (s : ByteArray) (a : Nat) (bad : Bool) (w : Nat) (ha : a ≤ s.size) : (NUM s a bad w).1 < 256 ^ w := by
  show (if (TXT s a bad w).1.size = 0 then 0 else UNFIX (TXT s a bad w).1) < 256 ^ w
  split
  · exact Nat.pow_pos (by omega)
  · rename_i c
    have h := UNFIX_lt (TXT s a bad w).1
    rwa [TXT_w s a w bad ha c] at h
end Go.Proofs.YtbeljekpknpadaaDoor.PPayUL
