/- What Check answers, the program's and the document's, at every schema and point; the two laws. -/
import Derived.Test.YtbeljekpknpadaaDoorPPayUx13
import Derived.Test.YtbeljekpknpadaaDoorPPayUx14
import Derived.Test.YtbeljekpknpadaaDoorPPayUx17
import Derived.Test.YtbeljekpknpadaaDoorPPayUx18
import Derived.Test.YtbeljekpknpadaaDoorPPayUx6
import Derived.Test.YtbeljekpknpadaaDoorPuK
namespace Go.Proofs.YtbeljekpknpadaaDoor.PPayUL
open Go.RowKit Go.Proofs.YtbeljekpknpadaaDoor.PPayU Go.Proofs.YtbeljekpknpadaaDoorW.PrintWords Go.Proofs.YtbeljekpknpadaaDoorW.PrintLast Go.Proofs.YtbeljekpknpadaaDoorW.PrintMore
set_option linter.unusedVariables false
set_option linter.unusedSimpArgs false

/-! ### names that rise are apart -/
theorem less_irrefl : ∀ a : List UInt8, Op.bytesLess a a = false
  | [] => rfl
  | x :: a => by simp [Op.bytesLess, less_irrefl a]
theorem less_trans : ∀ a b c : List UInt8, Op.bytesLess a b = true → Op.bytesLess b c = true → Op.bytesLess a c = true
  | [], [], _, h, _ => by simp [Op.bytesLess] at h
  | [], _ :: _, [], _, h => by simp [Op.bytesLess] at h
  | [], _ :: _, _ :: _, _, _ => rfl
  | _ :: _, [], _, h, _ => by simp [Op.bytesLess] at h
  | _ :: _, _ :: _, [], _, h => by simp [Op.bytesLess] at h
  | x :: a, y :: b, z :: c, h1, h2 => by
    simp only [Op.bytesLess, Bool.or_eq_true, Bool.and_eq_true, decide_eq_true_eq, beq_iff_eq] at h1 h2 ⊢
    rcases h1 with h1 | ⟨rfl, h1⟩
    · rcases h2 with h2 | ⟨rfl, h2⟩
      · exact .inl (UInt8.lt_trans h1 h2)
      · exact .inl h1
    · rcases h2 with h2 | ⟨rfl, h2⟩
      · exact .inl h2
      · exact .inr ⟨rfl, less_trans a b c h1 h2⟩
theorem rise_above : ∀ (l : List ByteArray) (y : ByteArray), risB (some y) l = true → ∀ x ∈ l, Op.bytesLess y.toList x.toList = true
  | z :: l, y, h, x, hx => by
    simp only [risB, Bool.and_eq_true] at h
    rcases List.mem_cons.1 hx with rfl | hx
    · exact h.2.1
    · exact less_trans _ _ _ h.2.1 (rise_above l z h.2.2 x hx)
theorem rise_tail : ∀ (p : Option ByteArray) (x : ByteArray) (l : List ByteArray), risB p (x :: l) = true → risB (some x) l = true
  | none, x, l, h => by simp only [risB, Bool.and_eq_true] at h; exact h.2
  | some y, x, l, h => by simp only [risB, Bool.and_eq_true] at h; exact h.2.2

/-! ### one vector under a schema -/
def nameIs (a : ByteArray) : S89 → Bool := fun y => y.f0.toList == a.toList
def fitsB (l : List S89) (x : S59) : Bool := match l.find? (nameIs x.f0) with
  | none => false
  | some y => decide ((x.f1.length : Int) = y.f1) && (x.f1.all inB && (decide (y.f2 ≠ 3) || !x.f1.all fun c => decide (c = 0)))
theorem zero_idx (l : List Int) (h : l.length ≤ 1099511627776) : ∀ (n i k : Nat), l.length - i = n → i ≤ l.length → n + 1 ≤ k →
    ∃ r : Int, slices_IndexFunc_int_int.l0 k l (l.length : Int) (i : Int) = some r ∧ decide (r ≥ 0) = !(l.drop i).all fun c => decide (c = 0)
  | n, i, 0, hn, hi, hk => absurd hk (by omega)
  | 0, i, k + 1, hn, hi, hk => by
    obtain rfl : i = l.length := by omega
    refine ⟨-1, by rw [slices_IndexFunc_int_int.l0, if_neg (by omega)], ?_⟩
    rw [List.drop_eq_nil_of_le (Nat.le_refl _)]
    rfl
  | n + 1, i, k + 1, hn, hi, hk => by
    have h1 : i < l.length := by omega
    obtain ⟨r, hr, hd⟩ := zero_idx l h n (i + 1) k (by omega) (by omega) (by omega)
    rw [slices_IndexFunc_int_int.l0, if_pos (by omega), if_pos (by omega), if_pos (by omega), rdI l i h1, payload_fits_2.f, Option.bind_some, List.drop_eq_getElem_cons h1, List.all_cons]
    by_cases hb : l[i] = 0
    · refine ⟨r, ?_, by rw [hd, decide_eq_true hb, Bool.true_and]⟩
      rw [if_neg (by simp [hb]), succ_nat i l.length h1 (by omega), hr]
    · refine ⟨i, by rw [if_pos (by simp [hb])], by rw [decide_eq_false hb]; simp⟩
theorem nonzero_eq (l : List Int) (h : l.length ≤ 1099511627776) (k : Nat) (hk : l.length + 1 ≤ k) : slices_ContainsFunc_int_int.f k l 78 = some (!l.all fun c => decide (c = 0)) := by
  obtain ⟨r, hr, hd⟩ := zero_idx l h l.length 0 k (by omega) (by omega) hk
  have e0 : ((0 : Nat) : Int) = 0 := rfl
  rw [e0] at hr
  unfold slices_ContainsFunc_int_int.f slices_IndexFunc_int_int.f
  rw [if_pos rfl, if_pos rfl, hr, Option.bind_some, hd]
  simp
theorem spec_cases (a : ByteArray) : ∀ (l : List S89) (i : Nat), (specAt a i l = -1 ∧ l.find? (nameIs a) = none) ∨ ∃ j x, specAt a i l = ((i + j : Nat) : Int) ∧ l[j]? = some x ∧ l.find? (nameIs a) = some x := specAt_cases a
theorem prog_fits (l : List S89) (m : List S93) (x : S59) (hl : l.length ≤ 16777216) (hx : x.f1.length ≤ 16777216) : Ev (fun k => payload_fits.f k l m x.f0 x.f1) (fitsB l x) := by
  have hi : Ev (fun _ => api_VecSpec_75.f l x.f0) (specAt x.f0 0 l) := ⟨0, fun k _ => by
    show api_VecSpec_75.f l x.f0 = _
    unfold api_VecSpec_75.f
    rw [if_pos (by omega)]⟩
  have hin : Ev (fun k => payload_inside.f k x.f1) (x.f1.all inB) := ⟨x.f1.length + 1, fun k hk => inside_eq x.f1 (by omega) k hk⟩
  have hz : Ev (fun k => slices_ContainsFunc_int_int.f k x.f1 78) (!x.f1.all fun c => decide (c = 0)) := ⟨x.f1.length + 1, fun k hk => nonzero_eq x.f1 (by omega) k hk⟩
  have no : ∀ p : Int, Ev (fun k => payload_fits.j0 k p true l m x.f0 x.f1) false := fun p => Ev.step (f := fun _ => some false) (fun k => by rw [payload_fits.j0, if_pos rfl]) (Ev.now _)
  refine Ev.congr (fun k => by rw [payload_fits.f]) (Ev.bind hi ?_)
  unfold fitsB
  rcases spec_cases x.f0 l 0 with ⟨h1, h2⟩ | ⟨j, y, h1, h2, h3⟩
  · rw [h1, h2]
    exact Ev.congr (fun k => by rw [if_pos (by omega)]) (no _)
  · obtain ⟨hj, hy⟩ := List.getElem?_eq_some_iff.1 h2
    rw [Nat.zero_add] at h1
    rw [h1, h3]
    simp only
    have hrd : rd_T89 l (j : Int) = y := by rw [rd89 l j hj, hy]
    refine Ev.congr (fun k => by rw [if_neg (by omega), if_pos (by omega), if_pos (by omega), hrd]) ?_
    by_cases c1 : (x.f1.length : Int) = y.f1
    · rw [decide_eq_true c1, Bool.true_and]
      refine Ev.congr (fun k => by rw [if_pos c1]) (Ev.bind hin ?_)
      cases x.f1.all inB with
      | false => exact no _
      | true =>
        rw [Bool.true_and]
        show Ev (fun k => payload_fits.j0 k (j : Int) false l m x.f0 x.f1) _
        by_cases c2 : y.f2 = 3
        · have e : (decide (y.f2 ≠ 3) || !x.f1.all fun c => decide (c = 0)) = !x.f1.all fun c => decide (c = 0) := by simp [c2]
          rw [e]
          refine Ev.step (fun k => by rw [payload_fits.j0, if_neg (by simp), if_pos (by omega), if_pos (by omega), hrd, if_pos c2]) ?_
          exact Ev.bind hz (Ev.now _)
        · have e : (decide (y.f2 ≠ 3) || !x.f1.all fun c => decide (c = 0)) = true := by simp [c2]
          rw [e]
          exact Ev.step (f := fun _ => some true) (fun k => by rw [payload_fits.j0, if_neg (by simp), if_pos (by omega), if_pos (by omega), hrd, if_neg c2]) (Ev.now _)
    · rw [decide_eq_false c1, Bool.false_and]
      exact Ev.congr (fun k => by rw [if_neg c1]) (no _)
theorem ref_spec (l : List S89) (m : List S93) (a : ByteArray) (hl : l.length ≤ 16777216) : ∀ (d i : Nat), l.length - i = d → i ≤ l.length → Ev (fun k => lodestarref05_Spec.l0 k a (i : Int) l m) (match (l.drop i).find? (nameIs a) with | some y => (y.f0, y.f1, y.f2, true) | none => (⟨#[]⟩, 0, 0, false))
  | 0, i, hd, hi => by
    obtain rfl : i = l.length := by omega
    rw [List.drop_eq_nil_of_le (Nat.le_refl _)]
    exact Ev.step (f := fun _ => some (⟨#[]⟩, 0, 0, false)) (fun k => by rw [lodestarref05_Spec.l0, if_neg (by omega)]) (Ev.now _)
  | d + 1, i, hd, hi => by
    have h1 : i < l.length := by omega
    rw [List.drop_eq_getElem_cons h1, List.find?_cons]
    by_cases c : l[i].f0.toList = a.toList
    · have e : nameIs a l[i] = true := by simp [nameIs, c]
      rw [e]
      exact Ev.step (f := fun _ => some (l[i].f0, l[i].f1, l[i].f2, true)) (fun k => by rw [lodestarref05_Spec.l0, if_pos (by omega), if_pos (by omega), rd89 l i h1, if_pos c]) (Ev.now _)
    · have e : nameIs a l[i] = false := by simp [nameIs, c]
      rw [e]
      refine Ev.step (f := fun k => lodestarref05_Spec.l0 k a ((i + 1 : Nat) : Int) l m) (fun k => ?_) (ref_spec l m a hl d (i + 1) (by omega) (by omega))
      rw [lodestarref05_Spec.l0, if_pos (by omega), if_pos (by omega), rd89 l i h1, if_neg c, succ_n i (by omega)]
theorem ref_zero (l : List Int) (h : l.length ≤ 16777216) : ∀ (d i : Nat), l.length - i = d → i ≤ l.length → Ev (fun k => lodestarref05_Zero.l0 k l (i : Int)) ((l.drop i).all fun c => decide (c = 0))
  | 0, i, hd, hi => by
    obtain rfl : i = l.length := by omega
    rw [List.drop_eq_nil_of_le (Nat.le_refl _)]
    exact Ev.step (f := fun _ => some true) (fun k => by rw [lodestarref05_Zero.l0, if_neg (by omega)]) (Ev.now _)
  | d + 1, i, hd, hi => by
    have h1 : i < l.length := by omega
    rw [List.drop_eq_getElem_cons h1, List.all_cons]
    by_cases c : l[i] = 0
    · rw [decide_eq_true c, Bool.true_and]
      refine Ev.step (f := fun k => lodestarref05_Zero.l0 k l ((i + 1 : Nat) : Int)) (fun k => ?_) (ref_zero l h d (i + 1) (by omega) (by omega))
      rw [lodestarref05_Zero.l0, if_pos (by omega), if_pos (by omega), rdI l i h1, if_pos c, succ_n i (by omega)]
    · rw [decide_eq_false c, Bool.false_and]
      exact Ev.step (f := fun _ => some false) (fun k => by rw [lodestarref05_Zero.l0, if_pos (by omega), if_pos (by omega), rdI l i h1, if_neg c]) (Ev.now _)

/-! ### one field under a schema -/
def fieldB (m : List S93) (x : S61) : Bool := (m.any fun y => x.f0.toList == y.f0.toList && x.f1.f0 == y.f1) && valB x.f1
def kindOf (m : List S93) (a : ByteArray) : Int := match m.find? (fun y => y.f0.toList == a.toList) with | some y => y.f1 | none => 0
theorem prog_contains (m : List S93) (a : ByteArray) (z : Int) (hm : m.length ≤ 16777216) : ∀ (d i : Nat), m.length - i = d → i ≤ m.length → ∃ r : Int, Ev (fun k => api_FieldSpec_79.l0 k m (m.length : Int) (i : Int) a z) r ∧ decide (r ≥ 0) = (m.drop i).any fun y => a.toList == y.f0.toList && z == y.f1
  | 0, i, hd, hi => by
    obtain rfl : i = m.length := by omega
    rw [List.drop_eq_nil_of_le (Nat.le_refl _)]
    exact ⟨-1, Ev.step (f := fun _ => some (-1)) (fun k => by rw [api_FieldSpec_79.l0, if_neg (by omega)]) (Ev.now _), rfl⟩
  | d + 1, i, hd, hi => by
    have h1 : i < m.length := by omega
    rw [List.drop_eq_getElem_cons h1, List.any_cons]
    cases c : (a.toList == m[i].f0.toList && z == m[i].f1) with
    | true =>
      refine ⟨i, Ev.step (f := fun _ => some (i : Int)) (fun k => ?_) (Ev.now _), by simp⟩
      rw [api_FieldSpec_79.l0, if_pos (by omega), if_pos (by omega), if_pos (by omega), rd93 m i h1, c, if_pos rfl]
    | false =>
      obtain ⟨r, hr, hd2⟩ := prog_contains m a z hm d (i + 1) (by omega) (by omega)
      refine ⟨r, Ev.step (f := fun k => api_FieldSpec_79.l0 k m (m.length : Int) ((i + 1 : Nat) : Int) a z) (fun k => ?_) hr, by rw [hd2, Bool.false_or]⟩
      rw [api_FieldSpec_79.l0, if_pos (by omega), if_pos (by omega), if_pos (by omega), rd93 m i h1, c, if_neg (by simp), succ_n i (by omega)]
theorem prog_has (m : List S93) (a : ByteArray) (z : Int) (hm : m.length ≤ 16777216) : Ev (fun k => api_FieldSpec_54.f k m a z) (m.any fun y => a.toList == y.f0.toList && z == y.f1) := by
  obtain ⟨r, hr, hd⟩ := prog_contains m a z hm m.length 0 (by omega) (by omega)
  rw [List.drop_zero] at hd
  rw [← hd]
  refine Ev.congr (fun k => by rw [api_FieldSpec_54.f, api_FieldSpec_79.f]) ?_
  exact Ev.bind hr (Ev.now _)
theorem ref_kind (l : List S89) (m : List S93) (a : ByteArray) (hm : m.length ≤ 16777216) : ∀ (d i : Nat), m.length - i = d → i ≤ m.length → Ev (fun k => lodestarref05_Kind.l0 k a (i : Int) l m) (kindOf (m.drop i) a)
  | 0, i, hd, hi => by
    obtain rfl : i = m.length := by omega
    rw [List.drop_eq_nil_of_le (Nat.le_refl _)]
    exact Ev.step (f := fun _ => some 0) (fun k => by rw [lodestarref05_Kind.l0, if_neg (by omega)]) (Ev.now _)
  | d + 1, i, hd, hi => by
    have h1 : i < m.length := by omega
    unfold kindOf
    rw [List.drop_eq_getElem_cons h1, List.find?_cons]
    by_cases c : m[i].f0.toList = a.toList
    · have e : (m[i].f0.toList == a.toList) = true := by simp [c]
      rw [e]
      exact Ev.step (f := fun _ => some m[i].f1) (fun k => by rw [lodestarref05_Kind.l0, if_pos (by omega), if_pos (by omega), rd93 m i h1, if_pos c]) (Ev.now _)
    · have e : (m[i].f0.toList == a.toList) = false := by simp [c]
      rw [e]
      refine Ev.step (f := fun k => lodestarref05_Kind.l0 k a ((i + 1 : Nat) : Int) l m) (fun k => ?_) (ref_kind l m a hm d (i + 1) (by omega) (by omega))
      rw [lodestarref05_Kind.l0, if_pos (by omega), if_pos (by omega), rd93 m i h1, if_neg c, succ_n i (by omega)]
/-- under names that rise a name has one kind -/
theorem kind_any : ∀ (m : List S93) (p : Option ByteArray), risB p (m.map (·.f0)) = true → (∀ y ∈ m, kindB y = true) → ∀ (a : ByteArray) (z : Int), (m.any fun y => a.toList == y.f0.toList && z == y.f1) = (decide (kindOf m a ≠ 0) && decide (z = kindOf m a))
  | [], _, _, _, a, z => by simp [kindOf]
  | y :: m, p, hr, hk, a, z => by
    have ht := rise_tail p y.f0 (m.map (·.f0)) (by simpa using hr)
    have hky := hk y (List.mem_cons_self ..)
    simp only [kindB, Bool.and_eq_true, decide_eq_true_eq] at hky
    rw [List.any_cons]
    by_cases c : y.f0.toList = a.toList
    · have e : kindOf (y :: m) a = y.f1 := by simp [kindOf, List.find?_cons, c]
      have hno : (m.any fun y => a.toList == y.f0.toList && z == y.f1) = false := by
        rw [List.any_eq_false]
        intro x hx
        have h1 := rise_above _ _ ht x.f0 (List.mem_map_of_mem hx)
        have h2 : ¬ a.toList = x.f0.toList := fun h => by
          rw [← h, ← c, less_irrefl] at h1
          cases h1
        simp [h2]
      rw [hno, e, Bool.or_false]
      have e2 : (a.toList == y.f0.toList) = true := by simp [c]
      rw [e2, Bool.true_and, decide_eq_true (show y.f1 ≠ 0 by omega), Bool.true_and]
      rfl
    · have e : kindOf (y :: m) a = kindOf m a := by simp [kindOf, List.find?_cons, c]
      have e2 : (a.toList == y.f0.toList) = false := by simpa using fun h => c h.symm
      rw [e, e2, Bool.false_and, Bool.false_or]
      exact kind_any m (some y.f0) ht (fun x hx => hk x (List.mem_cons_of_mem _ hx)) a z

/-! ### points under a schema -/
def checkR (l : List S89) (m : List S93) (a0 : Int) (l1 : List S59) (l2 : List S61) : Int :=
  if schemaB l m = true then (if shapeB a0 l1 l2 = true then (if l1.all (fitsB l) = true then (if l2.all (fieldB m) = true then 0 else 51) else 60) else 120) else 50
theorem pc_l1 (l : List S89) (m : List S93) (hm : m.length ≤ 16777216) (l2 : List S61) (h2 : l2.length ≤ 16777216) (ht : ∀ x ∈ l2, x.f1.f2.size ≤ 16777216) : ∀ (d i : Nat), l2.length - i = d → i ≤ l2.length → Ev (fun k => payload_Check.l1 k l2 (l2.length : Int) (i : Int) l m) (if (l2.drop i).all (fieldB m) = true then 0 else 51)
  | 0, i, hd, hi => by
    obtain rfl : i = l2.length := by omega
    rw [List.drop_eq_nil_of_le (Nat.le_refl _)]
    exact Ev.step (f := fun _ => some 0) (fun k => by rw [payload_Check.l1, if_neg (by omega)]) (Ev.now _)
  | d + 1, i, hd, hi => by
    have h1 : i < l2.length := by omega
    have ih := pc_l1 l m hm l2 h2 ht d (i + 1) (by omega) (by omega)
    rw [List.drop_eq_getElem_cons h1, List.all_cons]
    refine Ev.step (fun k => by rw [payload_Check.l1, if_pos (by omega), if_pos (by omega), if_pos (by omega), rd61 l2 i h1]) ?_
    refine Ev.bind (prog_has m l2[i].f0 l2[i].f1.f0 hm) ?_
    unfold fieldB at ih ⊢
    cases (m.any fun y => l2[i].f0.toList == y.f0.toList && l2[i].f1.f0 == y.f1) with
    | false => exact Ev.now _
    | true =>
      refine Ev.congr (fun k => by rw [if_pos rfl]) ?_
      refine Ev.bind (f := fun k t => if t = true then payload_Check.l1 k l2 (l2.length : Int) (wrap64 ((i : Int) + 1)) l m else some 51) (a := valB l2[i].f1) ⟨0, fun k _ => value_eq _ (Nat.le_trans (ht _ (List.getElem_mem h1)) (by omega))⟩ ?_
      cases valB l2[i].f1 with
      | false => exact Ev.now _
      | true =>
        refine Ev.congr (fun k => by rw [if_pos rfl, succ_n i (by omega)]) ?_
        rw [Bool.true_and, Bool.true_and]
        exact ih
theorem pc_l0 (l : List S89) (m : List S93) (hl : l.length ≤ 16777216) (hm : m.length ≤ 16777216) (a0 : Int) (l1 : List S59) (l2 : List S61) (h : Fit l1 l2) : ∀ (d i : Nat), l1.length - i = d → i ≤ l1.length → Ev (fun k => payload_Check.l0 k l1 (l1.length : Int) (i : Int) l m a0 l1 l2) (if (l1.drop i).all (fitsB l) = true then (if l2.all (fieldB m) = true then 0 else 51) else 60)
  | 0, i, hd, hi => by
    obtain rfl : i = l1.length := by omega
    have q := pc_l1 l m hm l2 h.n h.t l2.length 0 (by omega) (by omega)
    rw [List.drop_zero] at q
    rw [List.drop_eq_nil_of_le (Nat.le_refl _), if_pos (by rfl)]
    exact Ev.step (f := fun k => payload_Check.l1 k l2 (l2.length : Int) ((0 : Nat) : Int) l m) (fun k => by rw [payload_Check.l0, if_neg (by omega)]; rfl) q
  | d + 1, i, hd, hi => by
    have h1 : i < l1.length := by omega
    have hw := wt59_get l1 i h1
    have hw2 := h.w
    have ih := pc_l0 l m hl hm a0 l1 l2 h d (i + 1) (by omega) (by omega)
    have hlen := wt59_len l1
    rw [List.drop_eq_getElem_cons h1, List.all_cons]
    refine Ev.step (fun k => by rw [payload_Check.l0, if_pos (by omega), if_pos (by omega), if_pos (by omega), rd59 l1 i h1]) ?_
    refine Ev.bind (prog_fits l m l1[i] hl (by omega)) ?_
    cases fitsB l l1[i] with
    | false => exact Ev.now _
    | true =>
      refine Ev.congr (fun k => by rw [if_pos rfl, succ_n i (by omega)]) ?_
      rw [Bool.true_and]
      exact ih
theorem prog_check (l : List S89) (m : List S93) (hs : FitS l m) (a0 : Int) (l1 : List S59) (l2 : List S61) (h : Fit l1 l2) : Ev (fun k => payload_Check.f k l m a0 l1 l2) (checkR l m a0 l1 l2) := by
  have hw := h.w
  have hlen := wt59_len l1
  have hn := h.n
  refine Ev.congr (fun k => by rw [payload_Check.f]) (Ev.bind (prog_schema l m hs) ?_)
  unfold checkR
  cases schemaB l m with
  | false => exact Ev.now _
  | true =>
    refine Ev.congr (fun k => by rw [if_pos (by rfl)]) ?_
    refine Ev.bind (a := shapeB a0 l1 l2) ⟨2 * l1.length + 2 * l2.length + 2, fun k hk => shape_eq a0 l1 l2 (by omega) (by omega) (fun x hx => Nat.le_trans (h.n1 x hx) (by omega)) (fun x hx => Nat.le_trans (h.n2 x hx) (by omega)) k (by omega) (by omega)⟩ ?_
    cases shapeB a0 l1 l2 with
    | false => exact Ev.now _
    | true =>
      refine Ev.congr (fun k => by rw [if_pos rfl]) ?_
      have q := pc_l0 l m hs.n hs.c a0 l1 l2 h l1.length 0 (by omega) (by omega)
      rw [List.drop_zero] at q
      exact q
theorem rc_l1 (l : List S89) (m : List S93) (hs : schemaB l m = true) (hm : m.length ≤ 16777216) (a0 : Int) (l1 : List S59) (l2 : List S61) (h2 : l2.length ≤ 16777216) (ht : ∀ x ∈ l2, x.f1.f2.size ≤ 16777216) : ∀ (d i : Nat), l2.length - i = d → i ≤ l2.length → Ev (fun k => lodestarref05_Check.l1 k (i : Int) l m a0 l1 l2) (if (l2.drop i).all (fieldB m) = true then 0 else 51)
  | 0, i, hd, hi => by
    obtain rfl : i = l2.length := by omega
    rw [List.drop_eq_nil_of_le (Nat.le_refl _)]
    exact Ev.step (f := fun _ => some 0) (fun k => by rw [lodestarref05_Check.l1, if_neg (by omega)]) (Ev.now _)
  | d + 1, i, hd, hi => by
    have h1 : i < l2.length := by omega
    have ih := rc_l1 l m hs hm a0 l1 l2 h2 ht d (i + 1) (by omega) (by omega)
    have hr : risB none (m.map (·.f0)) = true ∧ ∀ y ∈ m, kindB y = true := by
      simp only [schemaB, lensB, Bool.and_eq_true, List.all_eq_true] at hs
      exact ⟨hs.1.2.2.2.2, hs.2.2⟩
    have hk := ref_kind l m l2[i].f0 hm m.length 0 (by omega) (by omega)
    rw [List.drop_zero] at hk
    have hj : ∀ b : Bool, b = !fieldB m l2[i] → Ev (fun k => lodestarref05_Check.j3 k (i : Int) b l m a0 l1 l2) (if (fieldB m l2[i] && (l2.drop (i + 1)).all (fieldB m)) = true then 0 else 51) := fun b hb => by
      cases hf : fieldB m l2[i] with
      | false =>
        obtain rfl : b = true := by rw [hb, hf]; rfl
        exact Ev.step (f := fun _ => some 51) (fun k => by rw [lodestarref05_Check.j3, if_pos rfl]) (Ev.now _)
      | true =>
        obtain rfl : b = false := by rw [hb, hf]; rfl
        rw [Bool.true_and]
        exact Ev.step (f := fun k => lodestarref05_Check.l1 k ((i + 1 : Nat) : Int) l m a0 l1 l2) (fun k => by rw [lodestarref05_Check.j3, if_neg (by simp), succ_n i (by omega)]) ih
    rw [List.drop_eq_getElem_cons h1, List.all_cons]
    have ef : fieldB m l2[i] = ((decide (kindOf m l2[i].f0 ≠ 0) && decide (l2[i].f1.f0 = kindOf m l2[i].f0)) && valB l2[i].f1) := by unfold fieldB; rw [kind_any m none hr.1 hr.2]
    refine Ev.step (fun k => by rw [lodestarref05_Check.l1, if_pos (by omega), if_pos (by omega), rd61 l2 i h1]) ?_
    refine Ev.bind (Ev.congr (fun k => by rw [lodestarref05_Kind.f]; rfl) hk) ?_
    by_cases c1 : kindOf m l2[i].f0 = 0
    · refine Ev.congr (fun k => by rw [if_pos c1]) (hj true ?_)
      rw [ef, decide_eq_false (by simp [c1])]
      rfl
    · refine Ev.congr (fun k => by rw [if_neg c1]) ?_
      rw [decide_eq_true c1, Bool.true_and] at ef
      by_cases c2 : l2[i].f1.f0 = kindOf m l2[i].f0
      · rw [decide_eq_true c2, Bool.true_and] at ef
        refine Ev.congr (fun k => by rw [if_pos c2]) ?_
        refine Ev.bind (a := valB l2[i].f1) ⟨300, fun k hk => refValue_eq _ k (Nat.le_trans (ht _ (List.getElem_mem h1)) (by omega)) hk⟩ ?_
        exact hj _ (by rw [ef])
      · refine Ev.congr (fun k => by rw [if_neg c2]) (hj true ?_)
        rw [ef, decide_eq_false c2]
        rfl
theorem rc_l0 (l : List S89) (m : List S93) (hs : schemaB l m = true) (hl : l.length ≤ 16777216) (hm : m.length ≤ 16777216) (a0 : Int) (l1 : List S59) (l2 : List S61) (h : Fit l1 l2) : ∀ (d i : Nat), l1.length - i = d → i ≤ l1.length → Ev (fun k => lodestarref05_Check.l0 k (i : Int) l m a0 l1 l2) (if (l1.drop i).all (fitsB l) = true then (if l2.all (fieldB m) = true then 0 else 51) else 60)
  | 0, i, hd, hi => by
    obtain rfl : i = l1.length := by omega
    have q := rc_l1 l m hs hm a0 l1 l2 h.n h.t l2.length 0 (by omega) (by omega)
    rw [List.drop_zero] at q
    rw [List.drop_eq_nil_of_le (Nat.le_refl _), if_pos (by rfl)]
    exact Ev.step (f := fun k => lodestarref05_Check.l1 k ((0 : Nat) : Int) l m a0 l1 l2) (fun k => by rw [lodestarref05_Check.l0, if_neg (by omega)]; rfl) q
  | d + 1, i, hd, hi => by
    have h1 : i < l1.length := by omega
    have hw := wt59_get l1 i h1
    have hw2 := h.w
    have ih := rc_l0 l m hs hl hm a0 l1 l2 h d (i + 1) (by omega) (by omega)
    have hlen := wt59_len l1
    have hsp := ref_spec l m l1[i].f0 hl l.length 0 (by omega) (by omega)
    rw [List.drop_zero] at hsp
    have hz := ref_zero l1[i].f1 (by omega) l1[i].f1.length 0 (by omega) (by omega)
    rw [List.drop_zero] at hz
    have hj : ∀ b : Bool, b = !fitsB l l1[i] → Ev (fun k => lodestarref05_Check.j1 k (i : Int) b l m a0 l1 l2) (if (fitsB l l1[i] && (l1.drop (i + 1)).all (fitsB l)) = true then (if l2.all (fieldB m) = true then 0 else 51) else 60) := fun b hb => by
      cases hf : fitsB l l1[i] with
      | false =>
        obtain rfl : b = true := by rw [hb, hf]; rfl
        exact Ev.step (f := fun _ => some 60) (fun k => by rw [lodestarref05_Check.j1, if_pos rfl]) (Ev.now _)
      | true =>
        obtain rfl : b = false := by rw [hb, hf]; rfl
        rw [Bool.true_and]
        exact Ev.step (f := fun k => lodestarref05_Check.l0 k ((i + 1 : Nat) : Int) l m a0 l1 l2) (fun k => by rw [lodestarref05_Check.j1, if_neg (by simp), succ_n i (by omega)]) ih
    rw [List.drop_eq_getElem_cons h1, List.all_cons]
    refine Ev.step (fun k => by rw [lodestarref05_Check.l0, if_pos (by omega), if_pos (by omega), rd59 l1 i h1]) ?_
    refine Ev.bind (Ev.congr (fun k => by rw [lodestarref05_Spec.f]; rfl) hsp) ?_
    have ef : fitsB l l1[i] = match l.find? (nameIs l1[i].f0) with
      | none => false
      | some y => decide ((l1[i].f1.length : Int) = y.f1) && (l1[i].f1.all inB && (decide (y.f2 ≠ 3) || !l1[i].f1.all fun c => decide (c = 0))) := rfl
    cases hfd : l.find? (nameIs l1[i].f0) with
    | none =>
      rw [hfd] at ef
      refine Ev.congr (fun k => by rw [if_neg (by simp)]) (hj true ?_)
      rw [ef]
      rfl
    | some y =>
      rw [hfd] at ef
      simp only at ef ⊢
      refine Ev.congr (fun k => by rw [if_pos trivial]) ?_
      by_cases c1 : (l1[i].f1.length : Int) = y.f1
      · rw [decide_eq_true c1, Bool.true_and] at ef
        refine Ev.congr (fun k => by rw [if_pos c1]) ?_
        refine Ev.bind (a := l1[i].f1.all inB) ⟨l1[i].f1.length + 1, fun k hk => refRange_eq _ (by omega) k hk⟩ ?_
        cases hin : l1[i].f1.all inB with
        | false =>
          rw [hin, Bool.false_and] at ef
          exact Ev.congr (fun k => by rw [if_neg (by simp)]) (hj true (by rw [ef]; rfl))
        | true =>
          rw [hin, Bool.true_and] at ef
          refine Ev.congr (fun k => by rw [if_pos rfl]) ?_
          by_cases c2 : y.f2 = 3
          · refine Ev.congr (fun k => by rw [if_pos c2]) ?_
            refine Ev.bind (Ev.congr (fun k => by rw [lodestarref05_Zero.f]; rfl) hz) ?_
            refine hj _ ?_
            rw [ef]
            simp [c2]
          · refine Ev.congr (fun k => by rw [if_neg c2]) (hj false ?_)
            rw [ef]
            simp [c2]
      · rw [decide_eq_false c1, Bool.false_and] at ef
        exact Ev.congr (fun k => by rw [if_neg c1]) (hj true (by rw [ef]; rfl))
theorem ref_check (l : List S89) (m : List S93) (hs : FitS l m) (a0 : Int) (l1 : List S59) (l2 : List S61) (h : Fit l1 l2) : Ev (fun k => lodestarref05_Check.f k l m a0 l1 l2) (checkR l m a0 l1 l2) := by
  have hw := h.w
  have hlen := wt59_len l1
  have hn := h.n
  refine Ev.congr (fun k => by rw [lodestarref05_Check.f]) (Ev.bind (ref_schema l m hs) ?_)
  unfold checkR
  cases hsb : schemaB l m with
  | false => exact Ev.now _
  | true =>
    refine Ev.congr (fun k => by rw [if_pos (by rfl)]) ?_
    refine Ev.bind (a := shapeB a0 l1 l2) ⟨200000000, fun k hk => refShape_eq a0 l1 l2 (by omega) (by omega) 16777216 (by omega) h.n1 h.n2 k (by omega)⟩ ?_
    cases shapeB a0 l1 l2 with
    | false => exact Ev.now _
    | true =>
      refine Ev.congr (fun k => by rw [if_pos rfl]) ?_
      have q := rc_l0 l m hsb hs.n hs.c a0 l1 l2 h l1.length 0 (by omega) (by omega)
      rw [List.drop_zero] at q
      exact q
end Go.Proofs.YtbeljekpknpadaaDoor.PPayUL
