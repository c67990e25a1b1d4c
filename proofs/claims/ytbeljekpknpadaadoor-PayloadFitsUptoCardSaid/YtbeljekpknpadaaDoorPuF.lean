/- The law PayloadFits, in plain Lean. -/
import Derived.Test.YtbeljekpknpadaaDoorPPayUx20
import Derived.Test.YtbeljekpknpadaaDoorPuG
namespace Go.Proofs.YtbeljekpknpadaaDoor.PPayUL
open Go.RowKit Go.Proofs.YtbeljekpknpadaaDoor.PPayU Go.Proofs.YtbeljekpknpadaaDoorW.PrintWords Go.Proofs.YtbeljekpknpadaaDoorW.PrintLast Go.Proofs.YtbeljekpknpadaaDoorW.PrintMore
set_option linter.unusedVariables false
set_option linter.unusedSimpArgs false

/-! ### a point that fits, and what does not -/
theorem checkR_zero {l : List S89} {m : List S93} {a0 : Int} {l1 : List S59} {l2 : List S61} (h : checkR l m a0 l1 l2 = 0) : schemaB l m = true ∧ shapeB a0 l1 l2 = true ∧ l1.all (fitsB l) = true ∧ l2.all (fieldB m) = true := by
  unfold checkR at h
  generalize schemaB l m = b1 at h ⊢
  generalize shapeB a0 l1 l2 = b2 at h ⊢
  generalize l1.all (fitsB l) = b3 at h ⊢
  generalize l2.all (fieldB m) = b4 at h ⊢
  cases b1 <;> cases b2 <;> cases b3 <;> cases b4 <;> simp_all
theorem fits_vec (l : List S89) (hs : ∀ y ∈ l, specB y = true) (x : S59) (h : fitsB l x = true) : vecB x = true := by
  unfold fitsB at h
  cases hf : l.find? (nameIs x.f0) with
  | none => rw [hf] at h; cases h
  | some y =>
    rw [hf] at h
    simp only [Bool.and_eq_true, decide_eq_true_eq] at h
    have hy := hs y (List.mem_of_find?_eq_some hf)
    simp only [specB, Bool.and_eq_true, decide_eq_true_eq] at hy
    simp only [vecB, Bool.and_eq_true, decide_eq_true_eq]
    exact ⟨by omega, by omega, h.2.1⟩
theorem fits_less (l : List S89) (x : S59) (v : List Int) (h : fitsB l x = true) (hv : v.length ≠ x.f1.length) : fitsB l ⟨x.f0, v⟩ = false := by
  unfold fitsB at h
  show (match l.find? (nameIs x.f0) with
    | none => false
    | some y => decide ((v.length : Int) = y.f1) && (v.all inB && (decide (y.f2 ≠ 3) || !v.all fun c => decide (c = 0)))) = false
  cases hf : l.find? (nameIs x.f0) with
  | none => rfl
  | some y =>
    rw [hf] at h
    simp only [Bool.and_eq_true, decide_eq_true_eq] at h
    show (decide ((v.length : Int) = y.f1) && (v.all inB && (decide (y.f2 ≠ 3) || !v.all fun c => decide (c = 0)))) = false
    rw [decide_eq_false (by omega), Bool.false_and]
theorem field_kind (m : List S93) (hr : risB none (m.map (·.f0)) = true) (hk : ∀ y ∈ m, kindB y = true) (x : S61) (h : fieldB m x = true) : (1 ≤ x.f1.f0 ∧ x.f1.f0 ≤ 3) ∧ ∀ v : S33, v.f0 ≠ x.f1.f0 → fieldB m ⟨x.f0, v⟩ = false := by
  unfold fieldB at h
  rw [Bool.and_eq_true] at h
  obtain ⟨h, -⟩ := h
  have hx := h
  rw [List.any_eq_true] at hx
  obtain ⟨y, hy, hxy⟩ := hx
  rw [Bool.and_eq_true] at hxy
  have hyk := hk y hy
  simp only [kindB, Bool.and_eq_true, decide_eq_true_eq] at hyk
  have e : x.f1.f0 = y.f1 := by simpa using hxy.2
  refine ⟨by omega, fun v hv => ?_⟩
  rw [kind_any m none hr hk, Bool.and_eq_true, decide_eq_true_eq, decide_eq_true_eq] at h
  unfold fieldB
  rw [kind_any m none hr hk]
  simp only
  rw [decide_eq_false (show ¬ v.f0 = kindOf m x.f0 from fun e => hv (e.trans h.2.symm)), Bool.and_false, Bool.false_and]
theorem other_kind (z : Int) (h1 : 1 ≤ z) (h2 : z ≤ 3) : wrap64 (Int.tmod z 3 + 1) ≠ z := by
  rcases (show z = 1 ∨ z = 2 ∨ z = 3 by omega) with h | h | h <;> rw [h] <;> decide +kernel
theorem fits_plain (l : List S89) (m : List S93) (a0 : Int) (l1 : List S59) (l2 : List S61) (hs : FitS l m) (hf : Fit l1 l2) : ∃ k, lodestarlaw05_PayloadFits.f k l m a0 l1 l2 = some true := by
  have h : Ev (fun k => lodestarlaw05_PayloadFits.f k l m a0 l1 l2) true := by
    refine Ev.congr (fun k => by rw [lodestarlaw05_PayloadFits.f]) ?_
    refine Ev.bind (prog_check l m hs a0 l1 l2 hf) ?_
    by_cases hz : checkR l m a0 l1 l2 = 0
    · refine Ev.congr (fun k => by rw [if_pos hz]) ?_
      obtain ⟨z1, z2, z3, z4⟩ := checkR_zero hz
      have z1' := z1
      simp only [schemaB, lensB, Bool.and_eq_true, List.all_eq_true] at z1'
      have hspec := z1'.2.1
      have hkind := z1'.2.2
      have hris := z1'.1.2.2.2.2
      clear z1'
      have hmay : mayB a0 l1 l2 = true := by
        unfold mayB
        rw [z2, Bool.true_and, Bool.and_eq_true, List.all_eq_true, List.all_eq_true]
        rw [List.all_eq_true] at z3 z4
        refine ⟨fun x hx => fits_vec l hspec x (z3 x hx), fun x hx => ?_⟩
        have q := z4 x hx
        unfold fieldB at q
        rw [Bool.and_eq_true] at q
        exact q.2
      have he : Ev (fun k => payload_Encode.f k a0 l1 l2) (strOfNums (encP a0 l1 l2), 0) := ⟨100000000, fun k hk => by
        have q := encode_fit a0 l1 l2 hf k hk
        rwa [if_pos hmay] at q⟩
      refine Ev.bind he ?_
      refine Ev.congr (fun k => by rw [if_pos rfl]) ?_
      refine Ev.bind (copy_ev a0 l1 l2 hf) ?_
      obtain ⟨x, r, rfl⟩ : ∃ x r, l1 = x :: r := by
        cases l1 with
        | nil => simp [shapeB] at z2
        | cons x r => exact ⟨x, r, rfl⟩
      have hvx : fitsB l x = true := by rw [List.all_cons, Bool.and_eq_true] at z3; exact z3.1
      have hvec := fits_vec l hspec x hvx
      simp only [vecB, Bool.and_eq_true, decide_eq_true_eq] at hvec
      have hn1 := hvec.1
      have hn2 := hvec.2.1
      clear hvec
      have e3 : wrap64 ((x.f1.length : Int) - 1) = ((x.f1.length - 1 : Nat) : Int) := by rw [w64 (by omega) (by omega)]; omega
      have hp : Ev (fun k => payload_Check.f k l m a0 (⟨x.f0, x.f1.take (x.f1.length - 1)⟩ :: r) l2) 60 := by
        have hfit : Fit (⟨x.f0, x.f1.take (x.f1.length - 1)⟩ :: r) l2 := by
          obtain ⟨w, n, n1, n2, t⟩ := hf
          refine ⟨?_, n, fun y hy => ?_, n2, t⟩
          · simp only [wt59, List.length_take] at w ⊢
            omega
          · rcases List.mem_cons.1 hy with rfl | hy
            · exact n1 x (List.mem_cons_self ..)
            · exact n1 y (List.mem_cons_of_mem _ hy)
        have q := prog_check l m hs a0 _ l2 hfit
        have hsh : shapeB a0 (⟨x.f0, x.f1.take (x.f1.length - 1)⟩ :: r) l2 = true := z2
        have hfl := fits_less l x (x.f1.take (x.f1.length - 1)) hvx (by rw [List.length_take]; omega)
        unfold checkR at q
        rw [if_pos z1, if_pos hsh, List.all_cons, hfl, Bool.false_and, if_neg (by simp)] at q
        exact q
      refine Ev.congr (f := fun k => (payload_Check.f k l m a0 (⟨x.f0, x.f1.take (x.f1.length - 1)⟩ :: r) l2).bind fun t396 => (if t396 = 60 then (if (l2.length : Int) > 0 then ((lodestarref05_Copy.f k a0 (x :: r) l2).bind fun bt397 => (if 0 < (l2.length : Int) then (if 0 < (bt397.2.2.length : Int) then ((payload_Check.f k l m bt397.1 bt397.2.1 (bt397.2.2.set (0 : Int).toNat (⟨(rd_T61 bt397.2.2 0).f0, (⟨wrap64 ((Int.tmod ((rd_T61 l2 0).f1.f0) 3) + 1), 0, (⟨#[]⟩ : ByteArray)⟩ : S33)⟩ : S61))).bind fun t407 => (if t407 = 51 then ((lodestarlaw05_awake.f k).bind fun t408 => (some t408)) else (some false))) else (none)) else (none))) else ((lodestarlaw05_awake.f k).bind fun t409 => (some t409))) else (some false))) (fun k => ?_) ?_
      · show (if 0 < ((x :: r).length : Int) then (if 0 ≤ (wrap64 (((x.f1).length : Int) - 1)) then (if (wrap64 (((x.f1).length : Int) - 1)) ≤ ((x.f1).length : Int) then _ else none) else none) else none) = _
        rw [if_pos (by simp), e3, if_pos (by omega), if_pos (by omega)]
        show (payload_Check.f k l m a0 (⟨x.f0, x.f1.take (wrap64 ((x.f1.length : Int) - 1)).toNat⟩ :: r) l2).bind _ = _
        rw [e3]
        rfl
      refine Ev.bind hp ?_
      refine Ev.congr (fun k => by rw [if_pos rfl]) ?_
      by_cases hl : (l2.length : Int) > 0
      · refine Ev.congr (fun k => by rw [if_pos hl]) ?_
        refine Ev.bind (copy_ev a0 (x :: r) l2 hf) ?_
        obtain ⟨y, q, rfl⟩ : ∃ y q, l2 = y :: q := by
          cases l2 with
          | nil => simp at hl
          | cons y q => exact ⟨y, q, rfl⟩
        have hvy : fieldB m y = true := by rw [List.all_cons, Bool.and_eq_true] at z4; exact z4.1
        obtain ⟨⟨k1, k2⟩, hno⟩ := field_kind m hris hkind y hvy
        have hw := other_kind y.f1.f0 k1 k2
        have hp2 : Ev (fun k => payload_Check.f k l m a0 (x :: r) (⟨y.f0, ⟨wrap64 (Int.tmod y.f1.f0 3 + 1), 0, ⟨#[]⟩⟩⟩ :: q)) 51 := by
          have hfit : Fit (x :: r) (⟨y.f0, ⟨wrap64 (Int.tmod y.f1.f0 3 + 1), 0, ⟨#[]⟩⟩⟩ :: q) := by
            obtain ⟨w, n, n1, n2, t⟩ := hf
            refine ⟨w, n, n1, fun u hu => ?_, fun u hu => ?_⟩
            · rcases List.mem_cons.1 hu with rfl | hu
              · exact n2 y (List.mem_cons_self ..)
              · exact n2 u (List.mem_cons_of_mem _ hu)
            · rcases List.mem_cons.1 hu with rfl | hu
              · exact Nat.zero_le _
              · exact t u (List.mem_cons_of_mem _ hu)
          have p := prog_check l m hs a0 _ _ hfit
          have hsh : shapeB a0 (x :: r) (⟨y.f0, ⟨wrap64 (Int.tmod y.f1.f0 3 + 1), 0, ⟨#[]⟩⟩⟩ :: q) = true := z2
          have hfl := hno ⟨wrap64 (Int.tmod y.f1.f0 3 + 1), 0, ⟨#[]⟩⟩ hw
          unfold checkR at p
          rw [if_pos z1, if_pos hsh, if_pos z3, List.all_cons, hfl, Bool.false_and, if_neg (by simp)] at p
          exact p
        refine Ev.congr (f := fun k => (payload_Check.f k l m a0 (x :: r) (⟨y.f0, ⟨wrap64 (Int.tmod y.f1.f0 3 + 1), 0, ⟨#[]⟩⟩⟩ :: q)).bind fun t407 => (if t407 = 51 then ((lodestarlaw05_awake.f k).bind fun t408 => (some t408)) else (some false))) (fun k => ?_) ?_
        · show (if 0 < ((y :: q).length : Int) then (if 0 < ((y :: q).length : Int) then _ else none) else none) = _
          rw [if_pos hl, if_pos hl]
          rfl
        refine Ev.bind hp2 ?_
        refine Ev.congr (fun k => by rw [if_pos rfl]) ?_
        exact Ev.bind awake_ev (Ev.now _)
      · refine Ev.congr (fun k => by rw [if_neg hl]) ?_
        exact Ev.bind awake_ev (Ev.now _)
    · refine Ev.congr (fun k => by rw [if_neg hz]) ?_
      refine Ev.bind (ref_check l m hs a0 l1 l2 hf) ?_
      refine Ev.congr (fun k => by rw [if_neg hz]) ?_
      exact Ev.bind awake_ev (Ev.now _)
  exact h.rounds
end Go.Proofs.YtbeljekpknpadaaDoor.PPayUL
