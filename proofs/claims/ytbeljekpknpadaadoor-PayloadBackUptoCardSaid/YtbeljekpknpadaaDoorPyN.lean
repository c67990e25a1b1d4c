/- Numbers as bytes and bytes as numbers, by the document's functions; what a reader takes from the front. -/
import Derived.Test.YtbeljekpknpadaaDoorPPayYx7
import Derived.Test.YtbeljekpknpadaaDoorPyD
namespace Go.Proofs.YtbeljekpknpadaaDoor.PPayYL
open Go.RowKit Go.Proofs.YtbeljekpknpadaaDoor.PPayY Go.Proofs.YtbeljekpknpadaaDoorW.PrintWords Go.Proofs.YtbeljekpknpadaaDoorW.PrintLast Go.Proofs.YtbeljekpknpadaaDoorW.PrintMore
set_option linter.unusedVariables false
set_option linter.unusedSimpArgs false

theorem bt_getD (s : ByteArray) (i : Nat) (h : i < s.size) : bt s (i : Int) = ((s.data.toList[i]'(by simpa using h)).toNat : Int) := by
  unfold bt
  rw [Int.toNat_natCast, dif_pos h]
  rfl
def unle : List UInt8 → Nat
  | [] => 0
  | x :: l => x.toNat + 256 * unle l
theorem unle_lt : ∀ l : List UInt8, unle l < 256 ^ l.length
  | [] => by simp [unle]
  | x :: l => by
    have h := unle_lt l
    have hx := x.toNat_lt
    rw [unle, List.length_cons, Nat.pow_succ']
    omega
theorem u64_bits_or (a b : Nat) (ha : a < 18446744073709551616) (hb : b < 18446744073709551616) : bits .or .u64 (a : Int) (b : Int) = ((a ||| b : Nat) : Int) := by
  have hx : a ||| b < 2 ^ 64 := Nat.or_lt_two_pow (by omega) (by omega)
  show IntKind.u64.wrap ((BitVec.ofInt 64 (a : Int) ||| BitVec.ofInt 64 (b : Int)).toNat : Int) = _
  rw [BitVec.toNat_or, BitVec.ofInt_natCast, BitVec.ofInt_natCast, BitVec.toNat_ofNat, BitVec.toNat_ofNat, Nat.mod_eq_of_lt (by omega), Nat.mod_eq_of_lt (by omega), IntKind.wrap_u64]
  omega
theorem unle_drop (s : ByteArray) (i : Nat) (h : i < s.size) : unle (s.data.toList.drop i) = (s.data.toList[i]'(by simpa using h)).toNat + 256 * unle (s.data.toList.drop (i + 1)) := by
  rw [List.drop_eq_getElem_cons (by simpa using h), unle]
theorem unle_drop_lt (s : ByteArray) (i : Nat) (h8 : s.size ≤ 8) : unle (s.data.toList.drop (i + 1)) < 256 ^ 7 := by
  refine Nat.lt_of_lt_of_le (unle_lt _) (Nat.pow_le_pow_right (by omega) ?_)
  have : s.data.toList.length = s.size := by simp
  rw [List.length_drop]
  omega
theorem numUnfix_l0 (s : ByteArray) (h8 : s.size ≤ 8) : ∀ (d k : Nat), d ≤ s.size → d < k →
    num_Unfix.l0 k s ((unle (s.data.toList.drop d) : Nat) : Int) ((d : Int) - 1) = some (((unle s.data.toList : Nat) : Int), 0) := by
  intro d
  induction d with
  | zero =>
    intro k _ hk
    obtain ⟨k, rfl⟩ : ∃ m, k = m + 1 := ⟨k - 1, by omega⟩
    simp only [num_Unfix.l0]
    rw [if_neg (by omega)]
    simp
  | succ d ih =>
    intro k hd hk
    obtain ⟨k, rfl⟩ : ∃ m, k = m + 1 := ⟨k - 1, by omega⟩
    have hlt : d < s.size := by omega
    have hu := unle_drop_lt s d h8
    have hx := (s.data.toList[d]'(by simpa using hlt)).toNat_lt
    have ed : ((d + 1 : Nat) : Int) - 1 = (d : Int) := by omega
    simp only [num_Unfix.l0]
    rw [ed, if_pos (by omega), if_pos (by omega), if_pos (by omega), bt_getD s d hlt, u64w (by omega) (by omega), u64w (by omega) (by omega), w64 (by omega) (by omega)]
    have e : bits .or .u64 (((unle (s.data.toList.drop (d + 1)) : Nat) : Int) * 256) ((s.data.toList[d]'(by simpa using hlt)).toNat : Int) = ((unle (s.data.toList.drop d) : Nat) : Int) := by
      rw [show (((unle (s.data.toList.drop (d + 1)) : Nat) : Int) * 256) = ((2 ^ 8 * unle (s.data.toList.drop (d + 1)) : Nat) : Int) by omega,
        u64_bits_or _ _ (by omega) (by omega), ← Nat.two_pow_add_eq_or_of_lt (i := 8) hx, unle_drop s d hlt]
      omega
    rw [e]
    exact ih k (by omega) (by omega)
def UNFIX (s : ByteArray) : Nat := unle s.data.toList
theorem UNFIX_lt (s : ByteArray) : UNFIX s < 256 ^ s.size := by
  have h := unle_lt s.data.toList
  rwa [show s.data.toList.length = s.size by simp] at h
theorem numUnfix (s : ByteArray) (k : Nat) (h1 : 1 ≤ s.size) (h8 : s.size ≤ 8) (hk : 10 ≤ k) : num_Unfix.f k s = some (((UNFIX s : Nat) : Int), 0) := by
  obtain ⟨k, rfl⟩ : ∃ m, k = m + 1 := ⟨k - 1, by omega⟩
  unfold num_Unfix.f
  have hd : decide ((s.size : Int) > 8) = false := by simp; omega
  rw [if_neg (by omega), hd]
  simp only [num_Unfix.j0]
  rw [if_neg (by simp), w64 (by omega) (by omega)]
  have h := numUnfix_l0 s h8 s.size k (Nat.le_refl _) (by omega)
  rw [List.drop_of_length_le (by simp)] at h
  exact h
theorem FIX_data (n w : Nat) : (FIX n w).data.toList = (leB w n).map fun x => UInt8.ofNat x.toNat := strOfNums_data _
theorem unle_FIX : ∀ (w n : Nat), n < 256 ^ w → unle ((leB w n).map fun x => UInt8.ofNat x.toNat) = n
  | 0, n, h => by simp at h; simp [leB, unle, h]
  | w + 1, n, h => by
    have hd : n / 256 < 256 ^ w := by rw [Nat.div_lt_iff_lt_mul (by omega), ← Nat.pow_succ]; exact h
    simp only [leB, List.map_cons, unle]
    rw [unle_FIX w (n / 256) hd]
    simp
    omega
theorem UNFIX_FIX (n w : Nat) (h : n < 256 ^ w) : UNFIX (FIX n w) = n := by
  unfold UNFIX
  rw [FIX_data, unle_FIX w n h]

/-! ### a reader -/
def TXT (s : ByteArray) (a : Nat) (bad : Bool) (n : Int) : ByteArray × Nat × Bool :=
  if bad = true ∨ n < 0 ∨ n > (s.size : Int) - a then (⟨#[]⟩, a, true) else (s.extract a (a + n.toNat), a + n.toNat, false)
theorem TXT_bad (s : ByteArray) (a : Nat) (n : Int) : TXT s a true n = (⟨#[]⟩, a, true) := by unfold TXT; rw [if_pos (Or.inl rfl)]
theorem TXT_le (s : ByteArray) (a : Nat) (bad : Bool) (n : Int) (ha : a ≤ s.size) : (TXT s a bad n).2.1 ≤ s.size := by
  unfold TXT
  split
  · exact ha
  · rename_i h
    simp only [not_or] at h
    show a + n.toNat ≤ s.size
    omega
theorem ext_size (s : ByteArray) (a n : Nat) (h : a + n ≤ s.size) : (s.extract a (a + n)).size = n := by
  rw [ByteArray.size_extract]
  omega
theorem TXT_size (s : ByteArray) (a : Nat) (bad : Bool) (n : Int) (ha : a ≤ s.size) : (TXT s a bad n).1.size ≤ s.size := by
  unfold TXT
  split
  · exact Nat.zero_le _
  · rename_i h
    simp only [not_or] at h
    show (s.extract a (a + n.toNat)).size ≤ s.size
    rw [ext_size s a n.toNat (by omega)]
    omega
theorem text_eq (s : ByteArray) (a : Nat) (bad : Bool) (n : Int) (hs : s.size ≤ 1099511627776) (ha : a ≤ s.size) (h0 : -4611686018427387904 ≤ n) (h1 : n ≤ 4611686018427387904) :
    payload_taker_text.f s (a : Int) bad n = some ((TXT s a bad n).1, s, (((TXT s a bad n).2.1 : Nat) : Int), (TXT s a bad n).2.2) := by
  unfold payload_taker_text.f
  cases bad with
  | true => rw [if_pos rfl, TXT_bad]
  | false =>
    rw [if_neg (by simp)]
    by_cases c1 : n < 0
    · have e : TXT s a false n = (⟨#[]⟩, a, true) := by unfold TXT; rw [if_pos (Or.inr (Or.inl c1))]
      rw [if_pos c1, e]
    · rw [if_neg c1, w64 (x := (s.size : Int) - (a : Int)) (by omega) (by omega)]
      by_cases c2 : n > (s.size : Int) - a
      · have e : TXT s a false n = (⟨#[]⟩, a, true) := by unfold TXT; rw [if_pos (Or.inr (Or.inr c2))]
        rw [if_pos c2, e]
      · have e : TXT s a false n = (s.extract a (a + n.toNat), a + n.toNat, false) := by unfold TXT; rw [if_neg (by simp; omega)]
        rw [if_neg c2, w64 (x := (a : Int) + n) (by omega) (by omega), w64 (x := (a : Int) + n - n) (by omega) (by omega), if_pos (by omega), if_pos (by omega), if_pos (by omega), e]
        have e1 : ((a : Int) + n - n).toNat = a := by omega
        have e2 : ((a : Int) + n).toNat = a + n.toNat := by omega
        have e3 : (a : Int) + n = ((a + n.toNat : Nat) : Int) := by omega
        rw [e1, e2, e3]
def NUM (s : ByteArray) (a : Nat) (bad : Bool) (w : Nat) : Nat × Nat × Bool :=
  ((if (TXT s a bad w).1.size = 0 then 0 else UNFIX (TXT s a bad w).1), (TXT s a bad w).2)
theorem NUM_le (s : ByteArray) (a : Nat) (bad : Bool) (w : Nat) (ha : a ≤ s.size) : (NUM s a bad w).2.1 ≤ s.size := TXT_le s a bad w ha
theorem TXT_w (s : ByteArray) (a w : Nat) (bad : Bool) (ha : a ≤ s.size) (h : (TXT s a bad w).1.size ≠ 0) : (TXT s a bad w).1.size = w := by
  unfold TXT at h ⊢
  split at h
  · exact absurd rfl h
  · rename_i c
    rw [if_neg c]
    simp only [not_or] at c
    show (s.extract a (a + (w : Int).toNat)).size = w
    rw [ext_size s a (w : Int).toNat (by omega)]
    omega
theorem NUM_lt (s : ByteArray) (a : Nat) (bad : Bool) (w : Nat) (ha : a ≤ s.size) : (NUM s a bad w).1 < 256 ^ w := by
  show (if (TXT s a bad w).1.size = 0 then 0 else UNFIX (TXT s a bad w).1) < 256 ^ w
  split
  · exact Nat.pow_pos (by omega)
  · rename_i c
    have h := UNFIX_lt (TXT s a bad w).1
    rwa [TXT_w s a w bad ha c] at h
theorem unfix_empty (k : Nat) (hk : 1 ≤ k) (t : ByteArray) (ht : t.size = 0) : num_Unfix.f k t = some (0, 11) := by
  obtain ⟨k, rfl⟩ : ∃ m, k = m + 1 := ⟨k - 1, by omega⟩
  unfold num_Unfix.f
  rw [if_pos (by omega), num_Unfix.j0, if_pos rfl]
theorem number_eq (s : ByteArray) (a : Nat) (bad : Bool) (w k : Nat) (hs : s.size ≤ 1099511627776) (ha : a ≤ s.size) (h1 : 1 ≤ w) (h8 : w ≤ 8) (hk : 10 ≤ k) :
    payload_taker_number.f k s (a : Int) bad (w : Int) = some (wrap64 ((NUM s a bad w).1 : Int), s, (((NUM s a bad w).2.1 : Nat) : Int), (NUM s a bad w).2.2) := by
  unfold payload_taker_number.f
  rw [text_eq s a bad w hs ha (by omega) (by omega), Option.bind_some]
  by_cases c : (TXT s a bad w).1.size = 0
  · have hu := unfix_empty k (by omega) _ c
    simp only [hu, Option.bind_some]
    simp [NUM, c]
  · have hw := TXT_w s a w bad ha c
    have hu := numUnfix (TXT s a bad w).1 k (by omega) (by omega) hk
    simp only [hu, Option.bind_some]
    simp [NUM, c]
end Go.Proofs.YtbeljekpknpadaaDoor.PPayYL
