/- Both Decodes answer the same, at any bytes: the loops. -/
import Derived.Test.YtbeljekpknpadaaDoorPPayYx5
import Derived.Test.YtbeljekpknpadaaDoorPPayYx8
import Derived.Test.YtbeljekpknpadaaDoorPyQ
namespace Go.Proofs.YtbeljekpknpadaaDoor.PPayYL
open Go.RowKit Go.Proofs.YtbeljekpknpadaaDoor.PPayY Go.Proofs.YtbeljekpknpadaaDoorW.PrintWords Go.Proofs.YtbeljekpknpadaaDoorW.PrintLast Go.Proofs.YtbeljekpknpadaaDoorW.PrintMore
set_option linter.unusedVariables false
set_option linter.unusedSimpArgs false

theorem pred_nat (m : Nat) (h : m ≤ 1099511627776) : wrap64 (((m + 1 : Nat) : Int) - 1) = (m : Int) := by
  unfold wrap64
  omega
theorem succ_n (m : Nat) (h : m ≤ 1099511627776) : wrap64 ((m : Int) + 1) = ((m + 1 : Nat) : Int) := by
  unfold wrap64
  omega
/-- one field, by the program -/
theorem prog_field (s : ByteArray) (hs : s.size ≤ 1099511627776) (n : Int) (a : Nat) (id : Int) (vs : List S59) (fs : List S61) (ha : a ≤ s.size) (hl : fs.length ≤ 1000) (r : Res)
    (l1 a1 : Nat) (b1 : Bool) (h1 : NUM s a false 1 = (l1, a1, b1)) (nm : ByteArray) (a2 : Nat) (b2 : Bool) (h2 : TXT s a1 b1 (l1 : Int) = (nm, a2, b2)) (k0 a3 : Nat) (b3 : Bool) (h3 : NUM s a2 b2 1 = (k0, a3, b3))
    (x : Int) (t : ByteArray) (a4 : Nat) (b4 : Bool) (h4 : VALP s a3 b3 k0 x t a4 b4)
    (hr : (1 ≤ k0 ∧ k0 ≤ 3 → Ev (fun k => payload_Decode.l2 k (wrap64 (n - 1)) s (a4 : Int) b4 id vs (fs ++ [⟨nm, ⟨(k0 : Int), x, t⟩⟩])) r) ∧ (¬ (1 ≤ k0 ∧ k0 ≤ 3) → r = ERR)) :
    Ev (fun k => payload_Decode.j4 k n true s (a : Int) false id vs fs) r := by
  have ha1 := num_le h1 ha
  have hn1 := n1 h1 ha
  have ha2 := txt_le h2 ha1
  have ha3 := num_le h3 ha2
  have hn3 := n1 h3 ha2
  refine Ev.step (fun k => by rw [payload_Decode.j4, if_pos rfl]) ?_
  refine Ev.bind (ev_num s hs a false 1 _ _ _ h1 ha (by omega) (by omega)) ?_
  simp only
  rw [w64 (x := (l1 : Int)) (by omega) (by omega)]
  refine Ev.bind (ev_txt s hs _ _ _ _ _ _ h2 ha1 (by omega) (by omega)) ?_
  simp only
  refine Ev.bind (ev_num s hs _ _ 1 _ _ _ h3 ha2 (by omega) (by omega)) ?_
  simp only
  rw [w64 (x := (k0 : Int)) (by omega) (by omega)]
  by_cases c0 : 1 ≤ k0 ∧ k0 ≤ 3
  · have hr := hr.1 c0
    have ed : decide ((k0 : Int) > 3) = false := by simp; omega
    refine Ev.congr (fun k => by rw [if_neg (by omega), ed]) ?_
    refine Ev.step (fun k => by rw [payload_Decode.j5, if_neg (by simp)]) ?_
    rcases h4 with ⟨c, v, h, rfl, rfl⟩ | ⟨c, v, a5, b5, h, h5, rfl⟩ | ⟨c, v, h, rfl, rfl⟩ | ⟨c1, c2, c3, _⟩
    · subst c
      refine Ev.bind (a := (8 : Int)) ⟨0, fun k _ => by simp [payload_width.f]⟩ ?_
      refine Ev.bind (ev_num s hs _ _ 8 _ _ _ h ha3 (by omega) (by omega)) ?_
      refine Ev.congr (fun k => by rw [if_neg (by omega), if_pos (by omega)]) ?_
      exact hr
    · subst c
      have hn4 := n2 h ha3
      refine Ev.bind (a := (2 : Int)) ⟨0, fun k _ => by simp [payload_width.f]⟩ ?_
      refine Ev.bind (ev_num s hs _ _ 2 _ _ _ h ha3 (by omega) (by omega)) ?_
      simp only
      rw [w64 (x := (v : Int)) (by omega) (by omega)]
      refine Ev.congr (fun k => by rw [if_pos (by omega)]) ?_
      refine Ev.bind (ev_txt s hs _ _ _ _ _ _ h5 (num_le h ha3) (by omega) (by omega)) ?_
      refine Ev.congr (fun k => by rw [if_pos (by omega)]) ?_
      exact hr
    · subst c
      refine Ev.bind (a := (1 : Int)) ⟨0, fun k _ => by simp [payload_width.f]⟩ ?_
      refine Ev.bind (ev_num s hs _ _ 1 _ _ _ h ha3 (by omega) (by omega)) ?_
      refine Ev.congr (fun k => by rw [if_neg (by omega), if_pos (by omega)]) ?_
      exact hr
    · omega
  · have hr := hr.2 c0
    subst hr
    by_cases c1 : k0 < 1
    · refine Ev.congr (fun k => by rw [if_pos (by omega)]) ?_
      exact Ev.step (f := fun _ => some ERR) (fun k => by rw [payload_Decode.j5, if_pos rfl]; rfl) (Ev.now _)
    · have ed : decide ((k0 : Int) > 3) = true := by simp; omega
      refine Ev.congr (fun k => by rw [if_neg (by omega), ed]) ?_
      exact Ev.step (f := fun _ => some ERR) (fun k => by rw [payload_Decode.j5, if_pos rfl]; rfl) (Ev.now _)
set_option maxRecDepth 100000 in
theorem valB_kind (v : S33) (h : ¬ (1 ≤ v.f0 ∧ v.f0 ≤ 3)) : valB v = false := by
  unfold valB
  rw [if_neg (by omega), if_neg (by omega), if_neg (by omega)]
/-! ### vectors -/
theorem wt59_snoc : ∀ (l : List S59) (x : S59), wt59 (l ++ [x]) = wt59 l + (x.f1.length + 4)
  | [], x => by simp [wt59]
  | y :: l, x => by
    rw [List.cons_append, wt59, wt59_snoc l x, wt59]
    omega
theorem fitV_snoc (B : Nat) (vs : List S59) (n : Nat) (x : S59) (h : FitV B vs (n + 1)) (h0 : x.f0.size ≤ B) (h2 : x.f1.length ≤ 255) : FitV B (vs ++ [x]) n := by
  obtain ⟨f1, f2, f3⟩ := h
  refine ⟨by simp; omega, by rw [wt59_snoc]; omega, fun y hy => ?_⟩
  rcases List.mem_append.1 hy with hy | hy
  · exact f3 y hy
  · obtain rfl := List.mem_singleton.1 hy
    exact h0
theorem fitV_zero (B : Nat) (vs : List S59) (n : Nat) (h : FitV B vs n) : FitV B vs 0 := ⟨by have := h.1; omega, by have := h.2.1; omega, h.2.2⟩
theorem fitF_nil (B : Nat) (n : Nat) (h : n ≤ 1000) : FitF B [] n := ⟨by simpa using h, by simp, by simp⟩
end Go.Proofs.YtbeljekpknpadaaDoor.PPayYL
