/- What CheckSchema and Check answer, the program's and the document's, at every schema and point. -/
import Derived.Test.YtbeljekpknpadaaDoorPPayUx10
import Derived.Test.YtbeljekpknpadaaDoorPPayUx11
import Derived.Test.YtbeljekpknpadaaDoorPPayUx12
import Derived.Test.YtbeljekpknpadaaDoorPPayUx5
import Derived.Test.YtbeljekpknpadaaDoorPPayUx9
import Derived.Test.YtbeljekpknpadaaDoorPuO
import Derived.Test.YtbeljekpknpadaaDoorPuE
namespace Go.Proofs.YtbeljekpknpadaaDoor.PPayUL
open Go.RowKit Go.Proofs.YtbeljekpknpadaaDoor.PPayU Go.Proofs.YtbeljekpknpadaaDoorW.PrintWords Go.Proofs.YtbeljekpknpadaaDoorW.PrintLast Go.Proofs.YtbeljekpknpadaaDoorW.PrintMore
set_option linter.unusedVariables false
set_option linter.unusedSimpArgs false

theorem rd89 (l : List S89) (i : Nat) (h : i < l.length) : rd_T89 l (i : Int) = l[i] := by simp [rd_T89, List.getD_eq_getElem?_getD, h]
theorem rd93 (l : List S93) (i : Nat) (h : i < l.length) : rd_T93 l (i : Int) = l[i] := by simp [rd_T93, List.getD_eq_getElem?_getD, h]
theorem succ_n (m : Nat) (h : m ≤ 1099511627776) : wrap64 ((m : Int) + 1) = ((m + 1 : Nat) : Int) := by
  unfold wrap64
  omega

/-! ### schemas -/
def specB (x : S89) : Bool := decide (1 ≤ x.f1) && (decide (x.f1 ≤ 64) && (decide (1 ≤ x.f2) && decide (x.f2 ≤ 3)))
def kindB (x : S93) : Bool := decide (1 ≤ x.f1) && decide (x.f1 ≤ 3)
def lensB (l : List S89) (m : List S93) : Bool := decide (1 ≤ l.length) && (decide (l.length ≤ 4) && (decide (m.length ≤ 16) && (risB none (l.map (·.f0)) && risB none (m.map (·.f0)))))
def schemaB (l : List S89) (m : List S93) : Bool := lensB l m && (l.all specB && m.all kindB)
/-- bounds for all that is read -/
structure FitS (l : List S89) (m : List S93) : Prop where
  n : l.length ≤ 16777216
  c : m.length ≤ 16777216
  n1 : ∀ x ∈ l, x.f0.size ≤ 16777216
  n2 : ∀ x ∈ m, x.f0.size ≤ 16777216
theorem ps_l1 (m : List S93) (hm : m.length ≤ 16777216) : ∀ (d i : Nat) (ok : Bool), m.length - i = d → i ≤ m.length → Ev (fun k => payload_CheckSchema.l1 k ok m (m.length : Int) (i : Int)) (if (ok && (m.drop i).all kindB) = true then 0 else 50)
  | 0, i, ok, hd, hi => by
    obtain rfl : i = m.length := by omega
    rw [List.drop_eq_nil_of_le (Nat.le_refl _)]
    refine Ev.step (f := fun _ => some (if (ok && ([] : List S93).all kindB) = true then 0 else 50)) (fun k => ?_) (Ev.now _)
    rw [payload_CheckSchema.l1, if_neg (by omega)]
    cases ok <;> rfl
  | d + 1, i, ok, hd, hi => by
    have h1 : i < m.length := by omega
    rw [List.drop_eq_getElem_cons h1, List.all_cons]
    have go : ∀ b : Bool, b = (ok && kindB m[i]) → Ev (fun k => payload_CheckSchema.l1 k b m (m.length : Int) ((i + 1 : Nat) : Int)) (if (ok && (kindB m[i] && (m.drop (i + 1)).all kindB)) = true then 0 else 50) := fun b hb => by
      have h := ps_l1 m hm d (i + 1) b (by omega) (by omega)
      rw [hb, Bool.and_assoc] at h
      rw [hb]
      exact h
    have ei := succ_n i (by omega)
    cases ok with
    | false =>
      refine Ev.step (f := fun k => payload_CheckSchema.l1 k false m (m.length : Int) ((i + 1 : Nat) : Int)) (fun k => ?_) (go false (by simp))
      rw [payload_CheckSchema.l1, if_pos (by clear ei; omega), if_pos (by clear ei; omega), if_pos (by clear ei; omega), if_neg (by simp), ei]
    | true =>
      refine Ev.step (f := fun k => payload_CheckSchema.l1 k (kindB m[i]) m (m.length : Int) ((i + 1 : Nat) : Int)) (fun k => ?_) (go (kindB m[i]) rfl)
      rw [payload_CheckSchema.l1, if_pos (by clear ei; omega), if_pos (by clear ei; omega), if_pos (by clear ei; omega), if_pos rfl, rd93 m i h1, ei]
      unfold kindB
      by_cases c1 : m[i].f1 ≥ 1
      · rw [if_pos c1, decide_eq_true (show 1 ≤ m[i].f1 from c1), Bool.true_and]
      · rw [if_neg c1, decide_eq_false (show ¬ 1 ≤ m[i].f1 from c1), Bool.false_and]
theorem ps_l0 (l : List S89) (m : List S93) (hl : l.length ≤ 16777216) (hm : m.length ≤ 16777216) : ∀ (d i : Nat) (ok : Bool), l.length - i = d → i ≤ l.length → Ev (fun k => payload_CheckSchema.l0 k ok l (l.length : Int) (i : Int) l m) (if (ok && ((l.drop i).all specB && m.all kindB)) = true then 0 else 50)
  | 0, i, ok, hd, hi => by
    obtain rfl : i = l.length := by omega
    rw [List.drop_eq_nil_of_le (Nat.le_refl _)]
    have h := ps_l1 m hm m.length 0 ok (by omega) (by omega)
    rw [List.drop_zero] at h
    refine Ev.step (f := fun k => payload_CheckSchema.l1 k ok m (m.length : Int) ((0 : Nat) : Int)) (fun k => ?_) ?_
    · rw [payload_CheckSchema.l0, if_neg (by omega)]
      rfl
    · simpa using h
  | d + 1, i, ok, hd, hi => by
    have h1 : i < l.length := by omega
    rw [List.drop_eq_getElem_cons h1, List.all_cons]
    have go : ∀ b : Bool, b = (ok && specB l[i]) → Ev (fun k => payload_CheckSchema.l0 k b l (l.length : Int) ((i + 1 : Nat) : Int) l m) (if (ok && (specB l[i] && (l.drop (i + 1)).all specB && m.all kindB)) = true then 0 else 50) := fun b hb => by
      have h := ps_l0 l m hl hm d (i + 1) b (by omega) (by omega)
      rw [hb, Bool.and_assoc] at h
      rw [hb, Bool.and_assoc (specB l[i])]
      exact h
    have ei := succ_n i (by omega)
    cases ok with
    | false =>
      refine Ev.step (f := fun k => payload_CheckSchema.l0 k false l (l.length : Int) ((i + 1 : Nat) : Int) l m) (fun k => ?_) (go false (by simp))
      rw [payload_CheckSchema.l0, if_pos (by clear ei; omega), if_pos (by clear ei; omega), if_pos (by clear ei; omega), if_neg (by simp), ei]
    | true =>
      refine Ev.step (f := fun k => payload_CheckSchema.l0 k (specB l[i]) l (l.length : Int) ((i + 1 : Nat) : Int) l m) (fun k => ?_) (go (specB l[i]) rfl)
      rw [payload_CheckSchema.l0, if_pos (by clear ei; omega), if_pos (by clear ei; omega), if_pos (by clear ei; omega), if_pos rfl, rd89 l i h1, ei]
      unfold specB
      by_cases c1 : l[i].f1 ≥ 1
      · rw [if_pos c1, decide_eq_true (show 1 ≤ l[i].f1 from c1), Bool.true_and]
        by_cases c2 : l[i].f1 ≤ 64
        · rw [if_pos c2, decide_eq_true c2, Bool.true_and]
          by_cases c3 : l[i].f2 ≥ 1
          · rw [if_pos c3, decide_eq_true (show 1 ≤ l[i].f2 from c3), Bool.true_and]
          · rw [if_neg c3, decide_eq_false (show ¬ 1 ≤ l[i].f2 from c3), Bool.false_and]
        · rw [if_neg c2, decide_eq_false c2, Bool.false_and]
      · rw [if_neg c1, decide_eq_false (show ¬ 1 ≤ l[i].f1 from c1), Bool.false_and]
theorem names_spec_loop (l : List S89) (h : l.length ≤ 1099511627776) : ∀ (n i k : Nat), l.length - i = n → i ≤ l.length → n + 1 ≤ k →
    api_VecSpec_47.l0 k ((l.take i).map (·.f0)) l (l.length : Int) (i : Int) = some (l.map (·.f0))
  | n, i, 0, hn, hi, hk => absurd hk (by omega)
  | 0, i, k + 1, hn, hi, hk => by
    obtain rfl : i = l.length := by omega
    rw [api_VecSpec_47.l0, if_neg (by omega), List.take_of_length_le (Nat.le_refl _)]
  | n + 1, i, k + 1, hn, hi, hk => by
    have h1 : i < l.length := by omega
    have e : (l.take i).map (·.f0) ++ [l[i].f0] = (l.take (i + 1)).map (·.f0) := by
      rw [List.take_succ_eq_append_getElem h1, List.map_append]
      rfl
    rw [api_VecSpec_47.l0, if_pos (by omega), if_pos (by omega), if_pos (by omega), rd89 l i h1, payload_CheckSchema_1.f, Option.bind_some, if_pos (by simp; omega), e, succ_nat i l.length h1 (by omega)]
    exact names_spec_loop l h n (i + 1) k (by omega) (by omega) (by omega)
theorem names_spec (l : List S89) (h : l.length ≤ 1099511627776) (k : Nat) (hk : l.length + 1 ≤ k) : api_VecSpec_47.f k l 48 = some (l.map (·.f0)) := by
  have := names_spec_loop l h l.length 0 k (by omega) (by omega) hk
  unfold api_VecSpec_47.f
  rw [if_pos rfl]
  simpa using this
theorem names_fspec_loop (l : List S93) (h : l.length ≤ 1099511627776) : ∀ (n i k : Nat), l.length - i = n → i ≤ l.length → n + 1 ≤ k →
    api_FieldSpec_49.l0 k ((l.take i).map (·.f0)) l (l.length : Int) (i : Int) = some (l.map (·.f0))
  | n, i, 0, hn, hi, hk => absurd hk (by omega)
  | 0, i, k + 1, hn, hi, hk => by
    obtain rfl : i = l.length := by omega
    rw [api_FieldSpec_49.l0, if_neg (by omega), List.take_of_length_le (Nat.le_refl _)]
  | n + 1, i, k + 1, hn, hi, hk => by
    have h1 : i < l.length := by omega
    have e : (l.take i).map (·.f0) ++ [l[i].f0] = (l.take (i + 1)).map (·.f0) := by
      rw [List.take_succ_eq_append_getElem h1, List.map_append]
      rfl
    rw [api_FieldSpec_49.l0, if_pos (by omega), if_pos (by omega), if_pos (by omega), rd93 l i h1, payload_CheckSchema_2.f, Option.bind_some, if_pos (by simp; omega), e, succ_nat i l.length h1 (by omega)]
    exact names_fspec_loop l h n (i + 1) k (by omega) (by omega) (by omega)
theorem names_fspec (l : List S93) (h : l.length ≤ 1099511627776) (k : Nat) (hk : l.length + 1 ≤ k) : api_FieldSpec_49.f k l 50 = some (l.map (·.f0)) := by
  have := names_fspec_loop l h l.length 0 k (by omega) (by omega) hk
  unfold api_FieldSpec_49.f
  rw [if_pos rfl]
  simpa using this
theorem prog_schema (l : List S89) (m : List S93) (h : FitS l m) : Ev (fun k => payload_CheckSchema.f k l m) (if schemaB l m = true then 0 else 50) := by
  obtain ⟨h1, h2, h3, h4⟩ := h
  have hj : ∀ ok : Bool, Ev (fun k => payload_CheckSchema.j0 k ok l m) (if (ok && (l.all specB && m.all kindB)) = true then 0 else 50) := fun ok => by
    have h := ps_l0 l m h1 h2 l.length 0 ok (by omega) (by omega)
    rw [List.drop_zero] at h
    exact Ev.step (fun k => by rw [payload_CheckSchema.j0]; rfl) h
  have hm1 : ∀ x ∈ l.map (·.f0), x.size ≤ 1099511627776 := fun x hx => by
    obtain ⟨y, hy, rfl⟩ := List.mem_map.1 hx
    exact Nat.le_trans (h3 y hy) (by omega)
  have hm2 : ∀ x ∈ m.map (·.f0), x.size ≤ 1099511627776 := fun x hx => by
    obtain ⟨y, hy, rfl⟩ := List.mem_map.1 hx
    exact Nat.le_trans (h4 y hy) (by omega)
  have n1 : Ev (fun k => api_VecSpec_47.f k l 48) (l.map (·.f0)) := ⟨l.length + 1, fun k hk => names_spec l (by omega) k hk⟩
  have n2 : Ev (fun k => api_FieldSpec_49.f k m 50) (m.map (·.f0)) := ⟨m.length + 1, fun k hk => names_fspec m (by omega) k hk⟩
  have r1 : Ev (fun k => payload_rising.f k (l.map (·.f0))) (risB none (l.map (·.f0))) := ⟨2 * l.length + 2, fun k hk => rising_eq _ (by rw [List.length_map]; omega) hm1 k (by rw [List.length_map]; omega)⟩
  have r2 : Ev (fun k => payload_rising.f k (m.map (·.f0))) (risB none (m.map (·.f0))) := ⟨2 * m.length + 2, fun k hk => rising_eq _ (by rw [List.length_map]; omega) hm2 k (by rw [List.length_map]; omega)⟩
  refine Ev.congr (fun k => by rw [payload_CheckSchema.f]) ?_
  unfold schemaB lensB
  by_cases c1 : 1 ≤ l.length
  · by_cases c2 : l.length ≤ 4
    · by_cases c3 : m.length ≤ 16
      · refine Ev.congr (fun k => by rw [if_pos (by omega), if_pos (by omega), if_pos (by omega)]) ?_
        rw [decide_eq_true c1, decide_eq_true c2, decide_eq_true c3]
        simp only [Bool.true_and]
        refine Ev.bind n1 (Ev.bind r1 ?_)
        cases hr : risB none (l.map (·.f0)) with
        | false =>
          refine Ev.congr (fun k => by rw [if_neg (by simp)]) ?_
          exact hj false
        | true =>
          refine Ev.congr (fun k => by rw [if_pos rfl]) ?_
          refine Ev.bind n2 (Ev.bind r2 ?_)
          exact hj _
      · refine Ev.congr (fun k => by rw [if_pos (by omega), if_pos (by omega), if_neg (by omega)]) ?_
        rw [decide_eq_false c3]
        simpa using hj false
    · refine Ev.congr (fun k => by rw [if_pos (by omega), if_neg (by omega)]) ?_
      rw [decide_eq_false c2]
      simpa using hj false
  · refine Ev.congr (fun k => by rw [if_neg (by omega)]) ?_
    rw [decide_eq_false c1]
    simpa using hj false
theorem rs_l1 (A : List ByteArray) (l : List S89) (m : List S93) (hm : m.length ≤ 16777216) (r : Int) (hr : Ev (fun k => (lodestarref05_Names.f k A).bind fun t => if t = true then ((lodestarref05_Names.f k (m.map (·.f0))).bind fun t => if t = true then some 0 else some 50) else some 50) r) : ∀ (d i : Nat), m.length - i = d → i ≤ m.length → Ev (fun k => lodestarref05_CheckSchema.l1 k A ((m.take i).map (·.f0)) (i : Int) l m) (if (m.drop i).all kindB = true then r else 50)
  | 0, i, hd, hi => by
    obtain rfl : i = m.length := by omega
    rw [List.drop_eq_nil_of_le (Nat.le_refl _), if_pos (by rfl)]
    refine Ev.step (fun k => by rw [lodestarref05_CheckSchema.l1, if_neg (by omega), List.take_of_length_le (Nat.le_refl _)]) hr
  | d + 1, i, hd, hi => by
    have h1 : i < m.length := by omega
    have ih := rs_l1 A l m hm r hr d (i + 1) (by omega) (by omega)
    have e : (m.take i).map (·.f0) ++ [m[i].f0] = (m.take (i + 1)).map (·.f0) := by
      rw [List.take_succ_eq_append_getElem h1, List.map_append]
      rfl
    have hlen : ((m.take i).map (·.f0)).length < 8796093022208 := by simp; omega
    rw [List.drop_eq_getElem_cons h1, List.all_cons]
    have bad : kindB m[i] = false → (if (kindB m[i] && (m.drop (i + 1)).all kindB) = true then r else 50) = 50 := fun h => by rw [h]; rfl
    by_cases c1 : m[i].f1 < 1
    · rw [bad (by unfold kindB; rw [decide_eq_false (by omega)]; rfl)]
      exact Ev.step (f := fun _ => some 50) (fun k => by rw [lodestarref05_CheckSchema.l1, if_pos (by omega), if_pos (by omega), rd93 m i h1, if_pos c1]) (Ev.now _)
    · by_cases c2 : m[i].f1 > 3
      · rw [bad (by unfold kindB; rw [decide_eq_false (show ¬ m[i].f1 ≤ 3 by omega), Bool.and_false])]
        exact Ev.step (f := fun _ => some 50) (fun k => by rw [lodestarref05_CheckSchema.l1, if_pos (by omega), if_pos (by omega), rd93 m i h1, if_neg c1, if_pos c2]) (Ev.now _)
      · have hk : kindB m[i] = true := by unfold kindB; rw [decide_eq_true (by omega), decide_eq_true (by omega)]; rfl
        rw [hk, Bool.true_and]
        refine Ev.step (f := fun k => lodestarref05_CheckSchema.l1 k A ((m.take (i + 1)).map (·.f0)) ((i + 1 : Nat) : Int) l m) (fun k => ?_) ih
        rw [lodestarref05_CheckSchema.l1, if_pos (by omega), if_pos (by omega), rd93 m i h1, if_neg c1, if_neg c2, if_pos hlen, e, succ_n i (by omega)]
theorem rs_l0 (l : List S89) (m : List S93) (hl : l.length ≤ 16777216) (r : Int) (hr : Ev (fun k => lodestarref05_CheckSchema.l1 k (l.map (·.f0)) [] 0 l m) r) : ∀ (d i : Nat), l.length - i = d → i ≤ l.length → Ev (fun k => lodestarref05_CheckSchema.l0 k ((l.take i).map (·.f0)) (i : Int) l m) (if (l.drop i).all specB = true then r else 50)
  | 0, i, hd, hi => by
    obtain rfl : i = l.length := by omega
    rw [List.drop_eq_nil_of_le (Nat.le_refl _), if_pos (by rfl)]
    refine Ev.step (fun k => by rw [lodestarref05_CheckSchema.l0, if_neg (by omega), List.take_of_length_le (Nat.le_refl _)]) hr
  | d + 1, i, hd, hi => by
    have h1 : i < l.length := by omega
    have ih := rs_l0 l m hl r hr d (i + 1) (by omega) (by omega)
    have e : (l.take i).map (·.f0) ++ [l[i].f0] = (l.take (i + 1)).map (·.f0) := by
      rw [List.take_succ_eq_append_getElem h1, List.map_append]
      rfl
    have hlen : ((l.take i).map (·.f0)).length < 8796093022208 := by simp; omega
    rw [List.drop_eq_getElem_cons h1, List.all_cons]
    have hj : ∀ (b : Bool) (x y : Int), (b = !specB l[i]) → Ev (fun k => lodestarref05_CheckSchema.j2 k ((l.take i).map (·.f0)) (i : Int) b l m l[i].f0 x y) (if (specB l[i] && (l.drop (i + 1)).all specB) = true then r else 50) := fun b x y hb => by
      cases hs : specB l[i] with
      | false =>
        obtain rfl : b = true := by rw [hb, hs]; rfl
        exact Ev.step (f := fun _ => some 50) (fun k => by rw [lodestarref05_CheckSchema.j2, if_pos rfl]) (Ev.now _)
      | true =>
        obtain rfl : b = false := by rw [hb, hs]; rfl
        rw [Bool.true_and]
        refine Ev.step (f := fun k => lodestarref05_CheckSchema.l0 k ((l.take (i + 1)).map (·.f0)) ((i + 1 : Nat) : Int) l m) (fun k => ?_) ih
        rw [lodestarref05_CheckSchema.j2, if_neg (by simp), if_pos hlen, e, succ_n i (by omega)]
    by_cases c1 : l[i].f1 < 1
    · refine Ev.step (fun k => by rw [lodestarref05_CheckSchema.l0, if_pos (by omega), if_pos (by omega), rd89 l i h1, if_pos c1]) (hj true _ _ ?_)
      unfold specB
      rw [decide_eq_false (by omega)]
      rfl
    · by_cases c2 : l[i].f1 > 64
      · refine Ev.step (fun k => by rw [lodestarref05_CheckSchema.l0, if_pos (by omega), if_pos (by omega), rd89 l i h1, if_neg c1, if_pos c2]) (hj true _ _ ?_)
        unfold specB
        rw [decide_eq_false (show ¬ l[i].f1 ≤ 64 by omega)]
        simp
      · by_cases c3 : l[i].f2 < 1
        · refine Ev.step (fun k => by rw [lodestarref05_CheckSchema.l0, if_pos (by omega), if_pos (by omega), rd89 l i h1, if_neg c1, if_neg c2, if_pos c3]) (hj true _ _ ?_)
          unfold specB
          rw [decide_eq_false (show ¬ 1 ≤ l[i].f2 by omega)]
          simp
        · refine Ev.step (fun k => by rw [lodestarref05_CheckSchema.l0, if_pos (by omega), if_pos (by omega), rd89 l i h1, if_neg c1, if_neg c2, if_neg c3]) (hj _ _ _ ?_)
          unfold specB
          rw [decide_eq_true (show 1 ≤ l[i].f1 by omega), decide_eq_true (show l[i].f1 ≤ 64 by omega), decide_eq_true (show 1 ≤ l[i].f2 by omega)]
          simp only [Bool.true_and]
          by_cases c4 : l[i].f2 > 3
          · rw [decide_eq_true c4, decide_eq_false (by omega)]
            rfl
          · rw [decide_eq_false c4, decide_eq_true (by omega)]
            rfl
theorem ref_schema (l : List S89) (m : List S93) (h : FitS l m) : Ev (fun k => lodestarref05_CheckSchema.f k l m) (if schemaB l m = true then 0 else 50) := by
  obtain ⟨h1, h2, h3, h4⟩ := h
  have hm1 : ∀ x ∈ l.map (·.f0), x.size ≤ 16777216 := fun x hx => by
    obtain ⟨y, hy, rfl⟩ := List.mem_map.1 hx
    exact h3 y hy
  have hm2 : ∀ x ∈ m.map (·.f0), x.size ≤ 16777216 := fun x hx => by
    obtain ⟨y, hy, rfl⟩ := List.mem_map.1 hx
    exact h4 y hy
  have r1 : Ev (fun k => lodestarref05_Names.f k (l.map (·.f0))) (risB none (l.map (·.f0))) := ⟨100000000, fun k hk => refNames_eq _ (by rw [List.length_map]; omega) 16777216 hm1 (by omega) k (by rw [List.length_map]; omega)⟩
  have r2 : Ev (fun k => lodestarref05_Names.f k (m.map (·.f0))) (risB none (m.map (·.f0))) := ⟨100000000, fun k hk => refNames_eq _ (by rw [List.length_map]; omega) 16777216 hm2 (by omega) k (by rw [List.length_map]; omega)⟩
  have hn : Ev (fun k => (lodestarref05_Names.f k (l.map (·.f0))).bind fun t => if t = true then ((lodestarref05_Names.f k (m.map (·.f0))).bind fun t => if t = true then some (0 : Int) else some 50) else some 50) (if (risB none (l.map (·.f0)) && risB none (m.map (·.f0))) = true then 0 else 50) := by
    refine Ev.bind r1 ?_
    cases risB none (l.map (·.f0)) with
    | false => exact Ev.now _
    | true =>
      refine Ev.congr (fun k => by rw [if_pos rfl]) (Ev.bind r2 ?_)
      cases risB none (m.map (·.f0)) with
      | false => exact Ev.now _
      | true => exact Ev.now _
  have q1 := rs_l1 (l.map (·.f0)) l m h2 _ hn m.length 0 (by omega) (by omega)
  rw [List.drop_zero, List.take_zero] at q1
  have q0 := rs_l0 l m h1 _ q1 l.length 0 (by omega) (by omega)
  rw [List.drop_zero, List.take_zero] at q0
  have hj : ∀ b : Bool, Ev (fun k => lodestarref05_CheckSchema.j0 k b l m) (if b = true then 50 else (if l.all specB = true then (if m.all kindB = true then (if (risB none (l.map (·.f0)) && risB none (m.map (·.f0))) = true then 0 else 50) else 50) else 50)) := fun b => by
    cases b with
    | true => exact Ev.step (f := fun _ => some 50) (fun k => by rw [lodestarref05_CheckSchema.j0, if_pos rfl]) (Ev.now _)
    | false =>
      rw [if_neg (by simp)]
      exact Ev.step (f := fun k => lodestarref05_CheckSchema.l0 k [] ((0 : Nat) : Int) l m) (fun k => by rw [lodestarref05_CheckSchema.j0, if_neg (by simp)]; rfl) q0
  have fin : (if l.all specB = true then (if m.all kindB = true then (if (risB none (l.map (·.f0)) && risB none (m.map (·.f0))) = true then (0 : Int) else 50) else 50) else 50) = if (risB none (l.map (·.f0)) && risB none (m.map (·.f0)) && (l.all specB && m.all kindB)) = true then 0 else 50 := by
    cases l.all specB <;> cases m.all kindB <;> cases risB none (l.map (·.f0)) <;> cases risB none (m.map (·.f0)) <;> rfl
  refine Ev.congr (fun k => by rw [lodestarref05_CheckSchema.f]) ?_
  unfold schemaB lensB
  by_cases c1 : 1 ≤ l.length
  · by_cases c2 : l.length ≤ 4
    · rw [decide_eq_true c1, decide_eq_true c2]
      refine Ev.congr (fun k => by rw [if_neg (by omega), if_neg (by omega)]) ?_
      by_cases c3 : m.length ≤ 16
      · have ed : decide ((m.length : Int) > 16) = false := by simp; omega
        rw [ed, decide_eq_true c3]
        simp only [Bool.true_and]
        have h := hj false
        rw [if_neg (by simp), fin] at h
        exact h
      · have ed : decide ((m.length : Int) > 16) = true := by simp; omega
        rw [ed, decide_eq_false c3]
        simpa using hj true
    · refine Ev.congr (fun k => by rw [if_neg (by omega), if_pos (by omega)]) ?_
      rw [decide_eq_false c2]
      simpa using hj true
  · refine Ev.congr (fun k => by rw [if_pos (by omega)]) ?_
    rw [decide_eq_false c1]
    simpa using hj true
end Go.Proofs.YtbeljekpknpadaaDoor.PPayUL
