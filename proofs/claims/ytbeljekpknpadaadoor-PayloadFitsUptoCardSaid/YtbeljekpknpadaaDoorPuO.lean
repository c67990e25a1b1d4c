/- What the document's May answers, at every point: the same as the program's. -/
import Derived.Test.YtbeljekpknpadaaDoorPPayUx11
import Derived.Test.YtbeljekpknpadaaDoorPPayUx15
import Derived.Test.YtbeljekpknpadaaDoorPuM
namespace Go.Proofs.YtbeljekpknpadaaDoor.PPayUL
open Go.RowKit Go.Proofs.YtbeljekpknpadaaDoor.PPayU Go.Proofs.YtbeljekpknpadaaDoorW.PrintWords Go.Proofs.YtbeljekpknpadaaDoorW.PrintLast Go.Proofs.YtbeljekpknpadaaDoorW.PrintMore
set_option linter.unusedVariables false
set_option linter.unusedSimpArgs false

/-! ### names -/
def nameC (c : Nat) : Bool := nameOk 1 c
theorem nameC_iff (c : Nat) : nameC c = true ↔ (97 ≤ c ∧ c ≤ 122) ∨ (65 ≤ c ∧ c ≤ 90) ∨ (48 ≤ c ∧ c ≤ 57) ∨ c = 95 := by
  simp only [nameC, nameOk, Bool.or_eq_true, Bool.and_eq_true, decide_eq_true_eq, beq_iff_eq]
  omega
theorem nameOk_succ (i c : Nat) : nameOk (i + 1) c = nameC c := by
  unfold nameC nameOk
  simp
theorem nameFrom_succ : ∀ (l : List UInt8) (i : Nat), nameFrom (i + 1) l = l.all fun c => nameC c.toNat
  | [], _ => rfl
  | c :: l, i => by rw [nameFrom, nameFrom_succ l (i + 1), nameOk_succ, List.all_cons]
theorem nameOk_zero (c : Nat) : nameOk 0 c = (nameC c && !(decide (48 ≤ c) && decide (c ≤ 57))) := by
  rw [Bool.eq_iff_iff]
  simp only [nameC, nameOk, Bool.or_eq_true, Bool.and_eq_true, decide_eq_true_eq, beq_iff_eq, Bool.not_eq_true', Bool.and_eq_false_iff, decide_eq_false_iff_not]
  omega
theorem refName_loop (s : ByteArray) (hb : s.size ≤ 1099511627776) : ∀ (n i k : Nat), s.size - i = n → i ≤ s.size → n + 1 ≤ k → lodestarref05_Name.l0 k s (i : Int) = some ((s.data.toList.drop i).all fun c => nameC c.toNat)
  | n, i, 0, hn, hi, hk => absurd hk (by omega)
  | 0, i, k + 1, hn, hi, hk => by
    obtain rfl : i = s.size := by omega
    rw [lodestarref05_Name.l0, if_neg (by omega), List.drop_eq_nil_of_le (by rw [data_length]; exact Nat.le_refl _)]
    rfl
  | n + 1, i, k + 1, hn, hi, hk => by
    have h1 : i < s.size := by omega
    have hl : i < s.data.toList.length := by rw [data_length]; exact h1
    have ih := refName_loop s hb n (i + 1) k (by omega) (by omega) (by omega)
    have e : bt s (i : Int) = ((s.data.toList[i].toNat : Nat) : Int) := bt_getD s i h1
    rw [List.drop_eq_getElem_cons hl, List.all_cons]
    generalize s.data.toList[i].toNat = c at e ⊢
    rw [lodestarref05_Name.l0, if_pos (by omega), if_pos (by omega), e, succ_nat i s.size h1 (by omega), ih]
    have hc := nameC_iff c
    generalize (s.data.toList.drop (i + 1)).all (fun c => nameC c.toNat) = r
    cases hn : nameC c with
    | true =>
      have h := hc.1 hn
      rw [Bool.true_and]
      repeat' split
      all_goals first | rfl | (exfalso; omega)
    | false =>
      have h : ¬ ((97 ≤ c ∧ c ≤ 122) ∨ (65 ≤ c ∧ c ≤ 90) ∨ (48 ≤ c ∧ c ≤ 57) ∨ c = 95) := fun h => by rw [hc.2 h] at hn; cases hn
      rw [Bool.false_and]
      repeat' split
      all_goals first | rfl | (exfalso; omega)
theorem refName_j0 (s : ByteArray) (b : Bool) (k : Nat) (hb : s.size ≤ 1099511627776) (hk : s.size + 2 ≤ k) : lodestarref05_Name.j0 k s b = some (!b && s.data.toList.all fun c => nameC c.toNat) := by
  obtain ⟨k, rfl⟩ : ∃ m, k = m + 1 := ⟨k - 1, by omega⟩
  rw [lodestarref05_Name.j0]
  cases b with
  | true => rfl
  | false =>
    have := refName_loop s hb s.size 0 k (by omega) (by omega) (by omega)
    rw [if_neg (by simp)]
    simpa using this
theorem refName_eq (s : ByteArray) (k : Nat) (hb : s.size ≤ 1099511627776) (hk : s.size + 2 ≤ k) : lodestarref05_Name.f k s = some (nameB s) := by
  unfold lodestarref05_Name.f nameB
  by_cases c1 : s.size < 1
  · rw [if_pos (by omega), refName_j0 s true k hb hk, decide_eq_false (show ¬ 1 ≤ s.size by omega)]
    simp
  · rw [if_neg (by omega)]
    by_cases c2 : 32 < s.size
    · rw [if_pos (by omega), refName_j0 s true k hb hk, decide_eq_false (show ¬ s.size ≤ 32 by omega)]
      simp
    · have hl : 0 < s.data.toList.length := by rw [data_length]; omega
      have e : bt s 0 = ((s.data.toList[0].toNat : Nat) : Int) := bt_getD s 0 (by omega)
      have hlist : s.data.toList = s.data.toList[0] :: s.data.toList.drop 1 := by
        have := List.drop_eq_getElem_cons hl
        simpa using this
      rw [if_neg (by omega), if_pos (by omega), e, decide_eq_true (show 1 ≤ s.size by omega), decide_eq_true (show s.size ≤ 32 by omega)]
      have hr : nameFrom 0 s.data.toList = (nameOk 0 s.data.toList[0].toNat && (s.data.toList.drop 1).all fun c => nameC c.toNat) := by
        conv => lhs; rw [hlist]
        rw [nameFrom, nameFrom_succ]
      have ha : (s.data.toList.all fun c => nameC c.toNat) = (nameC s.data.toList[0].toNat && (s.data.toList.drop 1).all fun c => nameC c.toNat) := by
        conv => lhs; rw [hlist]
        rw [List.all_cons]
      rw [hr, nameOk_zero]
      generalize s.data.toList[0].toNat = c at *
      by_cases c3 : 48 ≤ c
      · rw [if_pos (by omega), refName_j0 s _ k hb hk, ha, decide_eq_true c3]
        by_cases c4 : c ≤ 57
        · rw [decide_eq_true (show (c : Int) ≤ 57 by omega), decide_eq_true c4]
          simp
        · rw [decide_eq_false (show ¬ (c : Int) ≤ 57 by omega), decide_eq_false c4]
          simp
      · rw [if_neg (by omega), refName_j0 s _ k hb hk, ha, decide_eq_false c3]
        simp
theorem refNames_loop (l : List ByteArray) (h : l.length ≤ 1099511627776) (M : Nat) (hs : ∀ x ∈ l, x.size ≤ M) (hM : M ≤ 1099511627776) : ∀ (n i k : Nat), l.length - i = n → i ≤ l.length → n + M + 3 ≤ k →
    lodestarref05_Names.l0 k l (i : Int) = some (risB (before l i) (l.drop i))
  | n, i, 0, hn, hi, hk => absurd hk (by omega)
  | 0, i, k + 1, hn, hi, hk => by
    obtain rfl : i = l.length := by omega
    rw [lodestarref05_Names.l0, if_neg (by omega), List.drop_eq_nil_of_le (Nat.le_refl _)]
    cases before l l.length <;> rfl
  | n + 1, i, k + 1, hn, hi, hk => by
    have h1 : i < l.length := by omega
    have h2 := hs l[i] (List.getElem_mem h1)
    have hb : before l (i + 1) = some l[i] := by simp [before, h1]
    have ih := refNames_loop l h M hs hM n (i + 1) k (by omega) (by omega) (by omega)
    rw [hb] at ih
    rw [lodestarref05_Names.l0, if_pos (by omega), if_pos (by omega), rdS l i h1, refName_eq l[i] k (by omega) (by omega), Option.bind_some, List.drop_eq_getElem_cons h1]
    cases hnb : nameB l[i]
    · rw [if_neg (by simp)]
      cases before l i <;> simp [risB, hnb]
    · rw [if_pos rfl]
      cases i with
      | zero =>
        rw [if_neg (by omega), succ_nat 0 l.length h1 (by omega), ih]
        simp [before, risB, hnb]
      | succ j =>
        have e : wrap64 (((j + 1 : Nat) : Int) - 1) = (j : Int) := by rw [w64 (by omega) (by omega)]; omega
        rw [if_pos (by omega), e, if_pos (by omega), if_pos (by omega), rdS l j (by omega), succ_nat (j + 1) l.length h1 (by omega), ih]
        have hbj : before l (j + 1) = some l[j] := by simp [before, show j < l.length by omega]
        rw [hbj]
        cases hl : Op.bytesLess l[j].toList l[j + 1].toList
        · rw [if_neg (by simp)]
          simp [risB, hnb, hl]
        · rw [if_pos rfl]
          simp [risB, hnb, hl]
theorem refNames_eq (l : List ByteArray) (h : l.length ≤ 1099511627776) (M : Nat) (hs : ∀ x ∈ l, x.size ≤ M) (hM : M ≤ 1099511627776) (k : Nat) (hk : l.length + M + 3 ≤ k) : lodestarref05_Names.f k l = some (risB none l) := by
  have := refNames_loop l h M hs hM l.length 0 k (by omega) (by omega) (by omega)
  unfold lodestarref05_Names.f
  simpa [before] using this

/-! ### the shape -/
theorem refShape_l1 (A : List ByteArray) (a0 : Int) (l1 : List S59) (l2 : List S61) (h : l2.length ≤ 1099511627776) (R : Option Bool) (K : Nat) (hR : ∀ q, K ≤ q → ((lodestarref05_Names.f q A).bind fun t => if t = true then ((lodestarref05_Names.f q (l2.map (·.f0))).bind fun t => some t) else some false) = R) : ∀ (n i k : Nat), l2.length - i = n → i ≤ l2.length → n + K + 1 ≤ k →
    lodestarref05_shape.l1 k A ((l2.take i).map (·.f0)) (i : Int) a0 l1 l2 = R
  | n, i, 0, hn, hi, hk => absurd hk (by omega)
  | 0, i, k + 1, hn, hi, hk => by
    obtain rfl : i = l2.length := by omega
    rw [lodestarref05_shape.l1, if_neg (by omega), List.take_of_length_le (Nat.le_refl _)]
    exact hR k (by omega)
  | n + 1, i, k + 1, hn, hi, hk => by
    have h1 : i < l2.length := by omega
    have e : (l2.take i).map (·.f0) ++ [l2[i].f0] = (l2.take (i + 1)).map (·.f0) := by
      rw [List.take_succ_eq_append_getElem h1, List.map_append]
      rfl
    rw [lodestarref05_shape.l1, if_pos (by omega), if_pos (by omega), if_pos (by simp; omega), rd61 l2 i h1, e, succ_nat i l2.length h1 (by omega)]
    exact refShape_l1 A a0 l1 l2 h R K hR n (i + 1) k (by omega) (by omega) (by omega)
theorem refShape_l0 (a0 : Int) (l1 : List S59) (l2 : List S61) (h : l1.length ≤ 1099511627776) (R : Option Bool) (K : Nat) (hR : ∀ q, K ≤ q → lodestarref05_shape.l1 q (l1.map (·.f0)) [] 0 a0 l1 l2 = R) : ∀ (n i k : Nat), l1.length - i = n → i ≤ l1.length → n + K + 1 ≤ k →
    lodestarref05_shape.l0 k ((l1.take i).map (·.f0)) (i : Int) a0 l1 l2 = R
  | n, i, 0, hn, hi, hk => absurd hk (by omega)
  | 0, i, k + 1, hn, hi, hk => by
    obtain rfl : i = l1.length := by omega
    rw [lodestarref05_shape.l0, if_neg (by omega), List.take_of_length_le (Nat.le_refl _)]
    exact hR k (by omega)
  | n + 1, i, k + 1, hn, hi, hk => by
    have h1 : i < l1.length := by omega
    have e : (l1.take i).map (·.f0) ++ [l1[i].f0] = (l1.take (i + 1)).map (·.f0) := by
      rw [List.take_succ_eq_append_getElem h1, List.map_append]
      rfl
    rw [lodestarref05_shape.l0, if_pos (by omega), if_pos (by omega), if_pos (by simp; omega), rd59 l1 i h1, e, succ_nat i l1.length h1 (by omega)]
    exact refShape_l0 a0 l1 l2 h R K hR n (i + 1) k (by omega) (by omega) (by omega)
theorem refShape_eq (a0 : Int) (l1 : List S59) (l2 : List S61) (h1 : l1.length ≤ 1099511627776) (h2 : l2.length ≤ 1099511627776) (M : Nat) (hM : M ≤ 1099511627776) (n1 : ∀ x ∈ l1, x.f0.size ≤ M) (n2 : ∀ x ∈ l2, x.f0.size ≤ M) (k : Nat) (hk : 2 * l1.length + 2 * l2.length + M + 20 ≤ k) :
    lodestarref05_shape.f k a0 l1 l2 = some (shapeB a0 l1 l2) := by
  have hj : ∀ b : Bool, lodestarref05_shape.j0 k b a0 l1 l2 = some (!b && (risB none (l1.map (·.f0)) && risB none (l2.map (·.f0)))) := by
    intro b
    obtain ⟨k, rfl⟩ : ∃ m, k = m + 1 := ⟨k - 1, by omega⟩
    rw [lodestarref05_shape.j0]
    cases b with
    | true => rfl
    | false =>
      rw [if_neg (by simp)]
      have e0 : (0 : Int) = ((0 : Nat) : Int) := rfl
      refine refShape_l0 a0 l1 l2 h1 _ (l1.length + 2 * l2.length + M + 9) ?_ l1.length 0 k (by omega) (by omega) (by omega)
      intro q hq
      refine refShape_l1 (l1.map (·.f0)) a0 l1 l2 h2 _ (l1.length + l2.length + M + 5) ?_ l2.length 0 q (by omega) (by omega) (by omega)
      intro p hp
      have hm1 : ∀ x ∈ l1.map (·.f0), x.size ≤ M := fun x hx => by
        obtain ⟨y, hy, rfl⟩ := List.mem_map.1 hx
        exact n1 y hy
      have hm2 : ∀ x ∈ l2.map (·.f0), x.size ≤ M := fun x hx => by
        obtain ⟨y, hy, rfl⟩ := List.mem_map.1 hx
        exact n2 y hy
      rw [refNames_eq _ (by simpa using h1) M hm1 hM p (by simp; omega), Option.bind_some]
      cases hr : risB none (l1.map (·.f0))
      · simp
      · rw [if_pos rfl, refNames_eq _ (by simpa using h2) M hm2 hM p (by simp; omega), Option.bind_some]
        simp
  unfold lodestarref05_shape.f shapeB
  by_cases c1 : 1 ≤ a0
  · by_cases c2 : a0 ≤ 4503599627370496
    · by_cases c3 : 1 ≤ l1.length
      · by_cases c4 : l1.length ≤ 4
        · by_cases c5 : l2.length ≤ 16
          · have ed : decide ((l2.length : Int) > 16) = false := by simp; omega
            rw [if_neg (by omega), if_neg (by omega), if_neg (by omega), if_neg (by omega), ed, hj]
            simp [c1, c2, c3, c4, c5]
          · have ed : decide ((l2.length : Int) > 16) = true := by simp; omega
            rw [if_neg (by omega), if_neg (by omega), if_neg (by omega), if_neg (by omega), ed, hj]
            simp [c5]
        · rw [if_neg (by omega), if_neg (by omega), if_neg (by omega), if_pos (by omega), hj]
          simp [c4]
      · rw [if_neg (by omega), if_neg (by omega), if_pos (by omega), hj]
        simp [c3]
    · rw [if_neg (by omega), if_pos (by omega), hj]
      simp [c2]
  · rw [if_pos (by omega), hj]
    simp [c1]

/-! ### may -/
end Go.Proofs.YtbeljekpknpadaaDoor.PPayUL
