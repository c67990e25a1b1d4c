/- What payload.may answers, at every point: its loops as plain functions of the lists. -/
import Derived.Test.YtbeljekpknpadaaDoorPPayUx5
import Derived.Test.YtbeljekpknpadaaDoorPPayUx6
import Derived.Test.YtbeljekpknpadaaDoorPPayUx7
import Derived.Test.YtbeljekpknpadaaDoorPuB
namespace Go.Proofs.YtbeljekpknpadaaDoor.PPayUL
open Go.RowKit Go.Proofs.YtbeljekpknpadaaDoor.PPayU Go.Proofs.YtbeljekpknpadaaDoorW.PrintWords Go.Proofs.YtbeljekpknpadaaDoorW.PrintLast Go.Proofs.YtbeljekpknpadaaDoorW.PrintMore
set_option linter.unusedVariables false
set_option linter.unusedSimpArgs false

theorem rdS (l : List ByteArray) (i : Nat) (h : i < l.length) : rdOf ByteArray.empty l (i : Int) = l[i] := by simp [rdOf, List.getD_eq_getElem?_getD, h]

/-! ### names that rise -/
def risB : Option ByteArray → List ByteArray → Bool
  | _, [] => true
  | none, x :: l => nameB x && risB (some x) l
  | some y, x :: l => nameB x && (Op.bytesLess y.toList x.toList && risB (some x) l)
def before (l : List ByteArray) : Nat → Option ByteArray
  | 0 => none
  | i + 1 => l[i]?
theorem rising_loop (l : List ByteArray) (h : l.length ≤ 1099511627776) (hs : ∀ x ∈ l, x.size ≤ 1099511627776) : ∀ (n i k : Nat), l.length - i = n → i ≤ l.length → n + 1 ≤ k →
    payload_rising.l0 k l l (l.length : Int) (i : Int) = some (risB (before l i) (l.drop i))
  | 0, i, k + 1, hn, hi, hk => by
    obtain rfl : i = l.length := by omega
    rw [payload_rising.l0, if_neg (by omega), List.drop_eq_nil_of_le (Nat.le_refl _)]
    cases before l l.length <;> rfl
  | n + 1, i, k + 1, hn, hi, hk => by
    have h1 : i < l.length := by omega
    have h2 := hs l[i] (List.getElem_mem h1)
    have hb : before l (i + 1) = some l[i] := by simp [before, h1]
    have ih := rising_loop l h hs n (i + 1) k (by omega) (by omega) (by omega)
    rw [hb] at ih
    have hname : payload_name.f l[i] = some (nameB l[i]) := by unfold payload_name.f; rw [if_pos (by omega)]
    rw [payload_rising.l0, if_pos (by omega), if_pos (by omega), if_pos (by omega), rdS l i h1, hname, Option.bind_some, List.drop_eq_getElem_cons h1]
    cases hnb : nameB l[i]
    · rw [if_neg (by simp)]
      cases before l i <;> simp [risB, hnb]
    · rw [if_pos rfl]
      cases i with
      | zero =>
        rw [if_neg (by omega), succ_nat 0 l.length h1 (by omega), ih]
        simp [before, risB, hnb]
      | succ j =>
        have e : wrap64 (((j + 1 : Nat) : Int) - 1) = (j : Int) := by rw [w64 (by omega) (by omega)]; omega
        rw [if_pos (by omega), e, if_pos (by omega), if_pos (by omega), rdS l j (by omega), succ_nat (j + 1) l.length h1 (by omega), ih]
        have hbj : before l (j + 1) = some l[j] := by simp [before, show j < l.length by omega]
        rw [hbj]
        cases hl : Op.bytesLess l[j].toList l[j + 1].toList
        · rw [if_neg (by simp)]
          simp [risB, hnb, hl]
        · rw [if_pos rfl]
          simp [risB, hnb, hl]
theorem rising_eq (l : List ByteArray) (h : l.length ≤ 1099511627776) (hs : ∀ x ∈ l, x.size ≤ 1099511627776) (k : Nat) (hk : l.length + 1 ≤ k) : payload_rising.f k l = some (risB none l) := by
  have := rising_loop l h hs l.length 0 k (by omega) (by omega) hk
  simpa [payload_rising.f, before] using this
theorem names_vec_loop (l : List S59) (h : l.length ≤ 1099511627776) : ∀ (n i k : Nat), l.length - i = n → i ≤ l.length → n + 1 ≤ k →
    api_Vec.l0 k ((l.take i).map (·.f0)) l (l.length : Int) (i : Int) = some (l.map (·.f0))
  | 0, i, k + 1, hn, hi, hk => by
    obtain rfl : i = l.length := by omega
    rw [api_Vec.l0, if_neg (by omega), List.take_of_length_le (Nat.le_refl _)]
  | n + 1, i, k + 1, hn, hi, hk => by
    have h1 : i < l.length := by omega
    have e : (l.take i).map (·.f0) ++ [l[i].f0] = (l.take (i + 1)).map (·.f0) := by
      rw [List.take_succ_eq_append_getElem h1, List.map_append]
      rfl
    rw [api_Vec.l0, if_pos (by omega), if_pos (by omega), if_pos (by omega), rd59 l i h1, payload_shape_1.f, Option.bind_some, if_pos (by simp; omega), e, succ_nat i l.length h1 (by omega)]
    exact names_vec_loop l h n (i + 1) k (by omega) (by omega) (by omega)
theorem names_vec (l : List S59) (h : l.length ≤ 1099511627776) (k : Nat) (hk : l.length + 1 ≤ k) : api_Vec.f k l 72 = some (l.map (·.f0)) := by
  have := names_vec_loop l h l.length 0 k (by omega) (by omega) hk
  unfold api_Vec.f
  rw [if_pos rfl]
  simpa using this
theorem names_field_loop (l : List S61) (h : l.length ≤ 1099511627776) : ∀ (n i k : Nat), l.length - i = n → i ≤ l.length → n + 1 ≤ k →
    api_Field_73.l0 k ((l.take i).map (·.f0)) l (l.length : Int) (i : Int) = some (l.map (·.f0))
  | 0, i, k + 1, hn, hi, hk => by
    obtain rfl : i = l.length := by omega
    rw [api_Field_73.l0, if_neg (by omega), List.take_of_length_le (Nat.le_refl _)]
  | n + 1, i, k + 1, hn, hi, hk => by
    have h1 : i < l.length := by omega
    have e : (l.take i).map (·.f0) ++ [l[i].f0] = (l.take (i + 1)).map (·.f0) := by
      rw [List.take_succ_eq_append_getElem h1, List.map_append]
      rfl
    rw [api_Field_73.l0, if_pos (by omega), if_pos (by omega), if_pos (by omega), rd61 l i h1, payload_shape_2.f, Option.bind_some, if_pos (by simp; omega), e, succ_nat i l.length h1 (by omega)]
    exact names_field_loop l h n (i + 1) k (by omega) (by omega) (by omega)
theorem names_field (l : List S61) (h : l.length ≤ 1099511627776) (k : Nat) (hk : l.length + 1 ≤ k) : api_Field_73.f k l 74 = some (l.map (·.f0)) := by
  have := names_field_loop l h l.length 0 k (by omega) (by omega) hk
  unfold api_Field_73.f
  rw [if_pos rfl]
  simpa using this

/-! ### the shape -/
def shapeB (a0 : Int) (l1 : List S59) (l2 : List S61) : Bool :=
  decide (1 ≤ a0) && (decide (a0 ≤ 4503599627370496) && (decide (1 ≤ l1.length) && (decide (l1.length ≤ 4) && (decide (l2.length ≤ 16) && (risB none (l1.map (·.f0)) && risB none (l2.map (·.f0)))))))
theorem shape_eq (a0 : Int) (l1 : List S59) (l2 : List S61) (h1 : l1.length ≤ 1099511627776) (h2 : l2.length ≤ 1099511627776) (n1 : ∀ x ∈ l1, x.f0.size ≤ 1099511627776) (n2 : ∀ x ∈ l2, x.f0.size ≤ 1099511627776) (k : Nat) (hk1 : l1.length + 1 ≤ k) (hk2 : l2.length + 1 ≤ k) :
    payload_shape.f k a0 l1 l2 = some (shapeB a0 l1 l2) := by
  unfold payload_shape.f shapeB
  by_cases c1 : 1 ≤ a0
  · by_cases c2 : a0 ≤ 4503599627370496
    · by_cases c3 : 1 ≤ l1.length
      · by_cases c4 : l1.length ≤ 4
        · by_cases c5 : l2.length ≤ 16
          · rw [if_pos (by omega), if_pos (by omega), if_pos (by omega), if_pos (by omega), if_pos (by omega), names_vec l1 h1 k hk1, Option.bind_some,
              rising_eq _ (by simpa using h1) (by simpa using n1) k (by simpa using hk1), Option.bind_some]
            cases hr : risB none (l1.map (·.f0))
            · simp
            · rw [if_pos rfl, names_field l2 h2 k hk2, Option.bind_some, rising_eq _ (by simpa using h2) (by simpa using n2) k (by simpa using hk2), Option.bind_some]
              simp [c1, c2, c3, c4, c5]
          · rw [if_pos (by omega), if_pos (by omega), if_pos (by omega), if_pos (by omega), if_neg (by omega)]
            simp [c5]
        · rw [if_pos (by omega), if_pos (by omega), if_pos (by omega), if_neg (by omega)]
          simp [c4]
      · rw [if_pos (by omega), if_pos (by omega), if_neg (by omega)]
        simp [c3]
    · rw [if_pos (by omega), if_neg (by omega)]
      simp [c2]
  · rw [if_neg (by omega)]
    simp [c1]

/-! ### components in range -/
def inB (x : Int) : Bool := decide (-32768 ≤ x) && decide (x ≤ 32767)
theorem part_eq (x : Int) : payload_inside_1.f x = some (!inB x) := by
  unfold payload_inside_1.f inB
  by_cases h : x < -32768
  · rw [if_pos h]
    simp
    omega
  · rw [if_neg h]
    have e1 : decide (-32768 ≤ x) = true := decide_eq_true (by omega)
    rw [e1, Bool.true_and]
    by_cases h2 : x ≤ 32767
    · have e2 : decide (x ≤ 32767) = true := decide_eq_true h2
      have e3 : decide (x > 32767) = false := decide_eq_false (by omega)
      rw [e2, e3]
      rfl
    · have e2 : decide (x ≤ 32767) = false := decide_eq_false h2
      have e3 : decide (x > 32767) = true := decide_eq_true (by omega)
      rw [e2, e3]
      rfl
theorem index_part (l : List Int) (h : l.length ≤ 1099511627776) : ∀ (n i k : Nat), l.length - i = n → i ≤ l.length → n + 1 ≤ k →
    ∃ r : Int, slices_IndexFunc_int_int.l1 k l (l.length : Int) (i : Int) = some r ∧ decide (r ≥ 0) = !(l.drop i).all inB
  | 0, i, k + 1, hn, hi, hk => by
    obtain rfl : i = l.length := by omega
    refine ⟨-1, by rw [slices_IndexFunc_int_int.l1, if_neg (by omega)], ?_⟩
    rw [List.drop_eq_nil_of_le (Nat.le_refl _)]
    rfl
  | n + 1, i, k + 1, hn, hi, hk => by
    have h1 : i < l.length := by omega
    obtain ⟨r, hr, hd⟩ := index_part l h n (i + 1) k (by omega) (by omega) (by omega)
    rw [slices_IndexFunc_int_int.l1, if_pos (by omega), if_pos (by omega), if_pos (by omega), rdI l i h1, part_eq, Option.bind_some, List.drop_eq_getElem_cons h1, List.all_cons]
    cases hb : inB l[i]
    · refine ⟨i, by simp, by simp⟩
    · refine ⟨r, ?_, by rw [hd]; simp⟩
      rw [if_neg (by simp), succ_nat i l.length h1 (by omega), hr]
theorem inside_eq (l : List Int) (h : l.length ≤ 1099511627776) (k : Nat) (hk : l.length + 1 ≤ k) : payload_inside.f k l = some (l.all inB) := by
  obtain ⟨r, hr, hd⟩ := index_part l h l.length 0 k (by omega) (by omega) hk
  unfold payload_inside.f slices_ContainsFunc_int_int.f slices_IndexFunc_int_int.f
  have e0 : ((0 : Nat) : Int) = 0 := rfl
  rw [e0] at hr
  rw [if_neg (by decide), if_pos rfl, if_neg (by decide), if_pos rfl, hr, Option.bind_some, Option.bind_some, hd]
  simp

/-! ### values -/
def valB (v : S33) : Bool :=
  if v.f0 = 1 then (decide (v.f2.toList = []) && (decide (-4503599627370496 ≤ v.f1) && decide (v.f1 ≤ 4503599627370496)))
  else if v.f0 = 2 then (decide (v.f1 = 0) && (decide (v.f2.size ≤ 256) && Lib.validD v.f2.data.toList))
  else if v.f0 = 3 then (decide (v.f2.toList = []) && (decide (v.f1 = 0) || decide (v.f1 = 1)))
  else false
theorem value_eq (v : S33) (h : v.f2.size ≤ 1099511627776) : payload_value.f v.f0 v.f1 v.f2 = some (valB v) := by
  have hv : utf8_ValidString.f v.f2 = some (Lib.validD v.f2.data.toList) := by unfold utf8_ValidString.f; rw [if_pos (by omega)]
  unfold payload_value.f valB
  by_cases c1 : v.f0 = 1
  · rw [if_pos c1, if_pos c1]
    by_cases c2 : v.f2.toList = []
    · rw [if_pos c2]
      by_cases c3 : v.f1 ≥ -4503599627370496
      · rw [if_pos c3]
        simp [c2]
        omega
      · rw [if_neg c3]
        simp
        omega
    · rw [if_neg c2]
      simp [c2]
  · rw [if_neg c1, if_neg c1]
    by_cases c2 : v.f0 = 2
    · rw [if_pos c2, if_pos c2]
      by_cases c3 : v.f1 = 0
      · rw [if_pos c3]
        by_cases c4 : v.f2.size ≤ 256
        · rw [if_pos (by omega), hv, Option.bind_some]
          simp [c3, c4]
        · rw [if_neg (by omega)]
          simp [c4]
      · rw [if_neg c3]
        simp [c3]
    · rw [if_neg c2, if_neg c2]
      by_cases c3 : v.f0 = 3
      · rw [if_pos c3, if_pos c3]
        by_cases c4 : v.f2.toList = []
        · rw [if_pos c4]
          by_cases c5 : v.f1 = 0
          · rw [if_pos c5]
            simp [c4, c5]
          · rw [if_neg c5]
            simp only [c4, c5, decide_true, decide_false, Bool.true_and, Bool.false_or]
            rfl
        · rw [if_neg c4]
          simp [c4]
      · rw [if_neg c3, if_neg c3]
theorem index_value (l : List S61) (h : l.length ≤ 1099511627776) (ht : ∀ x ∈ l, x.f1.f2.size ≤ 1099511627776) : ∀ (n i k : Nat), l.length - i = n → i ≤ l.length → n + 1 ≤ k →
    ∃ r : Int, api_Field_36.l0 k l (l.length : Int) (i : Int) = some r ∧ decide (r ≥ 0) = !(l.drop i).all (fun x => valB x.f1)
  | 0, i, k + 1, hn, hi, hk => by
    obtain rfl : i = l.length := by omega
    refine ⟨-1, by rw [api_Field_36.l0, if_neg (by omega)], ?_⟩
    rw [List.drop_eq_nil_of_le (Nat.le_refl _)]
    rfl
  | n + 1, i, k + 1, hn, hi, hk => by
    have h1 : i < l.length := by omega
    obtain ⟨r, hr, hd⟩ := index_value l h ht n (i + 1) k (by omega) (by omega) (by omega)
    rw [api_Field_36.l0, if_pos (by omega), if_pos (by omega), if_pos (by omega), rd61 l i h1, payload_may_1.f, value_eq _ (ht _ (List.getElem_mem h1)), Option.bind_some, Option.bind_some, List.drop_eq_getElem_cons h1, List.all_cons]
    cases hb : valB l[i].f1
    · refine ⟨i, by simp, by simp⟩
    · refine ⟨r, ?_, by rw [hd]; simp⟩
      rw [if_neg (by simp), succ_nat i l.length h1 (by omega), hr]
theorem values_eq (l : List S61) (h : l.length ≤ 1099511627776) (ht : ∀ x ∈ l, x.f1.f2.size ≤ 1099511627776) (k : Nat) (hk : l.length + 1 ≤ k) : api_Field_60.f k l 61 = some (!l.all (fun x => valB x.f1)) := by
  obtain ⟨r, hr, hd⟩ := index_value l h ht l.length 0 k (by omega) (by omega) hk
  have e0 : ((0 : Nat) : Int) = 0 := rfl
  rw [e0] at hr
  unfold api_Field_60.f api_Field_36.f
  rw [if_pos rfl, if_pos rfl, hr, Option.bind_some, hd]
  simp

/-! ### may -/
def vecB (x : S59) : Bool := decide (1 ≤ x.f1.length) && (decide (x.f1.length ≤ 64) && x.f1.all inB)
theorem may_loop (a0 : Int) (l : List S59) (l2 : List S61) (h : wt59 l ≤ 1099511627776) (h2 : l2.length ≤ 1099511627776) (ht : ∀ x ∈ l2, x.f1.f2.size ≤ 1099511627776) : ∀ (n i k : Nat), l.length - i = n → i ≤ l.length → n + wt59 l + l2.length + 2 ≤ k →
    payload_may.l0 k l (l.length : Int) (i : Int) a0 l l2 = some ((l.drop i).all vecB && l2.all (fun x => valB x.f1))
  | 0, i, 0, hn, hi, hk => absurd hk (by omega)
  | n + 1, i, 0, hn, hi, hk => absurd hk (by omega)
  | 0, i, k + 1, hn, hi, hk => by
    obtain rfl : i = l.length := by omega
    rw [payload_may.l0, if_neg (by omega), values_eq l2 h2 ht k (by omega), Option.bind_some, List.drop_eq_nil_of_le (Nat.le_refl _)]
    simp
  | n + 1, i, k + 1, hn, hi, hk => by
    have h1 : i < l.length := by omega
    have h3 := wt59_get l i h1
    have h4 := wt59_len l
    rw [payload_may.l0, if_pos (by omega), if_pos (by omega), if_pos (by omega), rd59 l i h1, List.drop_eq_getElem_cons h1, List.all_cons]
    by_cases c1 : l[i].f1.length < 1
    · rw [if_pos (by omega)]
      simp [vecB, show ¬ (1 ≤ l[i].f1.length) by omega]
    · rw [if_neg (by omega)]
      by_cases c2 : l[i].f1.length > 64
      · rw [if_pos (by omega)]
        simp [vecB, show ¬ (l[i].f1.length ≤ 64) by omega]
      · rw [if_neg (by omega), inside_eq _ (by omega) k (by omega), Option.bind_some]
        cases hb : l[i].f1.all inB
        · rw [if_neg (by simp)]
          simp [vecB, hb]
        · rw [if_pos rfl, succ_nat i l.length h1 (by omega), may_loop a0 l l2 h h2 ht n (i + 1) k (by omega) (by omega) (by omega)]
          simp [vecB, hb, show 1 ≤ l[i].f1.length by omega, show l[i].f1.length ≤ 64 by omega]
def mayB (a0 : Int) (l1 : List S59) (l2 : List S61) : Bool := shapeB a0 l1 l2 && (l1.all vecB && l2.all (fun x => valB x.f1))
theorem may_eq (a0 : Int) (l1 : List S59) (l2 : List S61) (h1 : wt59 l1 ≤ 1099511627776) (h2 : l2.length ≤ 1099511627776) (n1 : ∀ x ∈ l1, x.f0.size ≤ 1099511627776) (n2 : ∀ x ∈ l2, x.f0.size ≤ 1099511627776) (ht : ∀ x ∈ l2, x.f1.f2.size ≤ 1099511627776) (k : Nat) (hk : l1.length + wt59 l1 + l2.length + 2 ≤ k) :
    payload_may.f k a0 l1 l2 = some (mayB a0 l1 l2) := by
  have h4 := wt59_len l1
  unfold payload_may.f mayB
  rw [shape_eq a0 l1 l2 (by omega) h2 n1 n2 k (by omega) (by omega), Option.bind_some]
  cases hs : shapeB a0 l1 l2
  · simp
  · have := may_loop a0 l1 l2 h1 h2 ht l1.length 0 k (by omega) (by omega) (by omega)
    rw [if_pos rfl]
    simpa using this
end Go.Proofs.YtbeljekpknpadaaDoor.PPayUL
