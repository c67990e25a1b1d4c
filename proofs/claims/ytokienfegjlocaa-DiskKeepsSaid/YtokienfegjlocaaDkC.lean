/- The disk's methods, walked: step. -/
import Derived.Test.YtokienfegjlocaaDkB
namespace Go.Proofs.Ytokienfegjlocaa.Dk
open Go.RowKit Go.Maps Go.ChangeMaps Go.WideAt Go.WideMaps Go.Proofs.YtokienfegjlocaaW.PrintWords

def faultA (f : Fault) : Value := .agg #[.int .i64 f.s, .int .i64 f.k, .int .i64 f.n]
def DS.step (S : DS) : DS × Fault × Int :=
  match S.plan.dropWhile (fun f => decide (f.s < S.steps + 1)) with
  | [] => ({ S with steps := S.steps + 1, plan := [] }, ⟨0, 0, 0⟩, 0)
  | f :: r => if f.s = S.steps + 1 then ({ S with steps := S.steps + 1, plan := r }, f, if f.k = 3 then 23 else 22) else ({ S with steps := S.steps + 1, plan := f :: r }, ⟨0, 0, 0⟩, 0)

def planLen (w : World) (d : Nat) : Nat := match w.cell? ⟨d, 3, none⟩ with | some (.slice _ n _) => n | _ => 0
theorem planLen_at {own : Nat → Prop} {w : World} {d mb : Nat} {S : DS} {bs : List Nat} {vo vp : Value} (h : At own w d S mb bs vo vp) : planLen w d = S.plan.length := by
  obtain ⟨A, c, rfl, _⟩ := h.plan
  unfold planLen
  rw [h.cells.2.2.2]

theorem info41 : ∃ i, Try.prog.info? 41 = some i ∧ i.size = 3 := by
  have h : (Try.prog.info? 41).map (fun i => i.size) = some 3 := by kernel_rfl
  obtain ⟨i, hi, hs⟩ := Option.map_eq_some_iff.1 h
  exact ⟨i, hi, hs⟩
theorem size41 : (Try.prog.info? 41).map (fun i => i.size) = some 3 := by kernel_rfl
theorem cut1 (b o c : Nat) (f : Fault) (r : List Fault) : ∃ A' c', (∀ W : World, (Instr.slice 43 (.slice (some ⟨b, o, none⟩) (r.length + 1) c) (some (.int .i64 1)) none none).run Try.prog W = .ok (.slice (some A') r.length c') W) ∧ A'.block = b ∧
    ∀ w' : World, PlanAt w' (.slice (some ⟨b, o, none⟩) (r.length + 1) c) (f :: r) → PlanAt w' (.slice (some A') r.length c') r := by
  obtain ⟨i, hi, hsz⟩ := info41
  have hel : Try.prog.elem 43 = 41 := by simp [Program.elem, Try.underlying43]
  have hu : Try.prog.underlying 43 = some (.slice (Try.prog.elem 43)) := by rw [hel]; exact Try.underlying43
  refine ⟨if c = 1 then ⟨b, o, none⟩ else ⟨b, o + 3, none⟩, c - 1, fun W => ?_, by split <;> rfl, fun w' h => ?_⟩
  · rw [run_slice_l W 43 (some ⟨b, o, none⟩) (r.length + 1) c hu .i64 1 (by omega) (by omega), hel]
    by_cases hc : c = 1
    · simp [sizeOf, typeInfo, hi, hsz, sliced, Result.andThen, hc]
    · simp [sizeOf, typeInfo, hi, hsz, sliced, Result.andThen, hc, Addr.add]
  · by_cases hc : c = 1
    · rw [if_pos hc]
      exact h.tail2 hc
    · rw [if_neg hc]
      exact h.tail1

set_option maxHeartbeats 1000000 in
theorem step_calls {own : Nat → Prop} {w : World} {d mb : Nat} {S : DS} {bs : List Nat} {vo vp : Value} (h : At own w d S mb bs vo vp) (h0 : 0 ≤ S.steps) (h1 : S.steps < 4611686018427387904) :
    Calls Try.prog 23 #[.pointer (some ⟨d, 0, none⟩)] w fun e w' => e = .returned (.tuple #[faultA S.step.2.1, .int .i64 S.step.2.2]) ∧ ∃ vp', At own w' d S.step.1 mb bs vo vp' ∧ Kept own w w' := by
  obtain ⟨c0, c1, c2, c3⟩ := h.cells
  have f2 := h.frozen 2
  have H := Aside0.mk h
  have W : wrap64 (S.steps + 1) = S.steps + 1 := by unfold wrap64; omega
  have H0 := Aside0.mk h0
  have H1 := Aside0.mk h1
  clear h h0 h1
  go_enter Try.func23, Try.ntmps23
  go_wp2_with (first
    | ((with_reducible refine gate_dst (N := 2) rfl ?_); refine box_event ?hg (N := 2) ?hd (cs := #[.int .i64 0, .int .i64 0, .int .i64 0]) (t := 41) ?hr ?_; (case hd => rfl); (case hg => rfl); (case hr => first | (go_simp; done) | (go_simp; rfl)); intro g2 hg2 w2 hbox hb; have H2 := Aside0.mk (H.out.below hb); have HB := Aside0.mk hb; have HX := Aside0.mk hbox; have HG := Aside0.mk hg2; obtain ⟨k0, k1, k2, k3⟩ := H2.out.cells; have kf2 := H2.out.frozen 2; clear c0 c1 c2 c3 f2 hb hbox hg2)
    | ((with_reducible refine gate_store (t := 3) (p := 11) rfl ?_); refine store_event (t := 3) (p := 11) (v := .tmp 9) (w1 := w2.setCell ⟨d, 2, none⟩ (.int .i64 (S.steps + 1))) ?hg ?ho ?hn ?hr ?_; (case ho => rfl); (case hg => rfl); (case hn => rfl); (case hr => first | (go_simp; done) | (go_simp; rfl)); intro w3 hw3)
    | go_in)
  have H3 : Aside0 (At own w3 d { S with steps := S.steps + 1 } mb bs vo vp) := ⟨hw3 ▸ H2.out.setSteps _⟩
  have K3 : Aside0 (Kept own w w3) := ⟨(Kept.of_below HB.out).trans (hw3 ▸ Kept.set (own := own) ⟨d, 2, none⟩ H2.out.ownd _) (fun _ hk => .inl hk)⟩
  have X3 : Aside0 (w3.heap[g2]? = some (Obj.cells #[Value.int IntKind.i64 0, Value.int IntKind.i64 0, Value.int IntKind.i64 0] 41 (0, 0)) ∧ ¬ own g2) := ⟨by
    have hn : ¬ own g2 := fun ho => by have := H.out.bnd _ ho; have := HG.out; omega
    refine ⟨?_, hn⟩
    rw [hw3]
    exact (heap_set_ne (fun e => hn (by have := H2.out.ownd; rw [e]; exact this)) _).trans HX.out⟩
  clear hw3 k0 k1 k2 k3 kf2 HX
  go_loopw [12] (fun _ wr => ∃ vp' p, At own wr d { S with steps := S.steps + 1, plan := p } mb bs vo vp' ∧ p.dropWhile (fun f => decide (f.s < S.steps + 1)) = S.plan.dropWhile (fun f => decide (f.s < S.steps + 1)) ∧ Kept own w wr ∧ wr.heap[g2]? = some (Obj.cells #[Value.int IntKind.i64 0, Value.int IntKind.i64 0, Value.int IntKind.i64 0] 41 (0, 0))) (fun _ wr => planLen wr d)
  case atStart => exact ⟨vp, S.plan, H3.out, rfl, K3.out, X3.out.1⟩
  case round =>
    obtain ⟨vp', p, hAt, hdr, hk, hx⟩ := hrel
    obtain ⟨A, c, rfl, hc, hcell⟩ := hAt.plan
    obtain ⟨k0, k1, k2, k3⟩ := hAt.cells
    have HA := Aside0.mk hAt
    have HD := Aside0.mk hdr
    have HK := Aside0.mk hk
    have HX := Aside0.mk hx
    clear hAt hdr hk hx
    cases p with
    | nil =>
      clear hcell
      have k3' : wr.cell? ⟨d, 3, none⟩ = some (.slice A 0 c) := k3
      clear k3
      have g0 := blk_cell HX.out 0
      have g1 := blk_cell HX.out 1
      have g2_ := blk_cell HX.out 2
      have gf0 := blk_frozen HX.out 0
      have gf1 := blk_frozen HX.out 1
      have gf2 := blk_frozen HX.out 2
      go_wp2
      repeat (go_quiet (fail); try go_wp2)
      refine bodyPost_ret (results_ct rfl _ _ g2 41 #[.int .i64 0, .int .i64 0, .int .i64 0] (0, 0) _ rfl (by exact blk_put (blk_put (blk_put (blk_drewN HX.out _) 0 _ rfl) 1 _ rfl) 2 _ rfl) Try.underlying41 rfl size41) rfl ?_
      have HS : S.step = ({ S with steps := S.steps + 1, plan := [] }, ⟨0, 0, 0⟩, 0) := by
        unfold DS.step
        rw [← HD.out]
        rfl
      rw [HS]
      exact ⟨rfl, _, (((HA.out.drewN _).setO X3.out.2 _ _).setO X3.out.2 _ _).setO X3.out.2 _ _, (((HK.out.drewN _).setO (Nat.le_of_eq HG.out.symm) _).setO (Nat.le_of_eq HG.out.symm) _).setO (Nat.le_of_eq HG.out.symm) _⟩
    | cons f r =>
      obtain ⟨b, o, rfl, hj⟩ := hcell 0 f rfl
      have e0 := hj 0 _ rfl
      have e1 := hj 1 _ rfl
      have e2 := hj 2 _ rfl
      simp only [Nat.mul_zero, Nat.add_zero] at e0 e1 e2
      clear hj
      have HC := Aside0.mk hcell
      have HN := Aside0.mk hc
      clear hcell hc
      have k3' : wr.cell? ⟨d, 3, none⟩ = some (.slice (some ⟨b, o, none⟩) (r.length + 1) c) := k3
      clear k3
      have g0 := blk_cell HX.out 0
      have g1 := blk_cell HX.out 1
      have g2_ := blk_cell HX.out 2
      have gf0 := blk_frozen HX.out 0
      have gf1 := blk_frozen HX.out 1
      have gf2 := blk_frozen HX.out 2
      have lz : decide ((0 : Int) < ((r.length + 1 : Nat) : Int)) = true := by simp
      have kf3 := HA.out.frozen 3
      have lz2 : ((r.length : Int) + 1 == 0) = false := by simp; omega
      by_cases hlt : f.s < S.steps + 1
      · have hd : decide (f.s < S.steps + 1) = true := by simpa using hlt
        obtain ⟨A', c', hV, hVo, hVp⟩ := cut1 b o c f r
        have hVo := Aside0.mk hVo
        have hVp := Aside0.mk hVp
        have hV := Aside0.mk hV
        go_wp2
        go_quiet (fail)
        go_wp2_with (first | ((with_reducible refine gate_dst (N := 37) rfl ?_); refine event_run rfl (w1 := wr.drewN nq) (v := .slice (some A') r.length c') (by simp [execOp, hV.out, Result.andThen]) ?_) | go_in)
        have hP := hVp.out wr HA.out.plan
        have hA2 := (HA.out.drewN nq).setPlan (v := .slice (some A') r.length c') (hP.move (w' := wr.drewN nq) (fun _ _ => rfl)) (.inl (by simp [Value.ownBlock, hVo.out]))
        go_simp
        refine ⟨⟨_, r, hA2, ?_, ?_, ?_⟩, ?_⟩
        · rw [← HD.out, List.dropWhile_cons, if_pos hd]
        · exact (HK.out.drewN nq).trans (Kept.set (own := own) ⟨d, 3, none⟩ HA.out.ownd _) (fun _ hk => .inl hk)
        · exact (heap_set_ne (fun e => X3.out.2 (by rw [e]; exact HA.out.ownd)) _).trans HX.out
        · rw [planLen_at hA2, planLen_at HA.out]
          simp
      · have hd : decide (f.s < S.steps + 1) = false := by simpa using hlt
        have HF : Aside0 (S.plan.dropWhile (fun f => decide (f.s < S.steps + 1)) = f :: r) := ⟨by rw [← HD.out, List.dropWhile_cons, if_neg (by simpa using hd)]⟩
        by_cases he : f.s = S.steps + 1
        · obtain ⟨A', c', hV, hVo, hVp⟩ := cut1 b o c f r
          have hVo := Aside0.mk hVo
          have hVp := Aside0.mk hVp
          have hV := Aside0.mk hV
          have hq : (f.s == S.steps + 1) = true := by simpa using he
          have HS : Aside0 (S.step = ({ S with steps := S.steps + 1, plan := r }, f, if f.k = 3 then 23 else 22)) := ⟨by
            unfold DS.step
            rw [HF.out]
            simp only [if_pos he]⟩
          have HE := Aside0.mk he
          clear he
          have HZ : Aside0 (g2 < wr.heap.size) := ⟨blk_lt HX.out⟩
          have HW : Aside0 (w.heap.size ≤ wr.heap.size) := ⟨HK.out.size⟩
          go_wp2
          go_quiet (fail)
          go_wp2
          go_quiet (fail)
          go_wp2_with (first
            | ((with_reducible refine gate_dst (N := 4) rfl ?_); refine box_event ?hg (N := 4) ?hd (cs := #[.int .i64 0, .int .i64 0, .int .i64 0]) (t := 41) ?hr ?_; (case hd => rfl); (case hg => rfl); (case hr => first | (go_simp; done) | (go_simp; rfl)); intro g4 hg4 w4 hbox hb; have HA4 := Aside0.mk ((HA.out.drewN _).below hb); have HK4 := Aside0.mk ((HK.out.drewN _).trans (Kept.of_below (S := fun _ => False) hb) (fun _ h => h.elim)); have G4 := Aside0.mk (blk_below (blk_drewN HX.out _) hb); have X4 := Aside0.mk hbox; have N4 : Aside0 (g4 ≠ g2 ∧ ¬ own g4 ∧ g4 ≠ d ∧ w.heap.size ≤ g4) := ⟨(by have h1 := HZ.out; have h2 := HW.out; have h3 := hg4; change g4 = wr.heap.size at h3; exact ⟨by omega, fun ho => (by have := HA.out.bnd _ ho; omega), fun e => (by have := HA.out.bnd _ HA.out.ownd; omega), by omega⟩)⟩; have a0 := blk_cell hbox 0; have a1 := blk_cell hbox 1; have a2 := blk_cell hbox 2; have af0 := blk_frozen hbox 0; have af1 := blk_frozen hbox 1; have af2 := blk_frozen hbox 2; clear hbox hb hg4)
            | ((with_reducible refine gate_store (t := 41) (p := 4) rfl ?_); refine store_event (t := 41) (p := 4) (v := .tmp 66) (w1 := ((w4.setCell ⟨g4, 0, none⟩ (.int .i64 f.s)).setCell ⟨g4, 1, none⟩ (.int .i64 f.k)).setCell ⟨g4, 2, none⟩ (.int .i64 f.n)) ?hg ?ho ?hn ?hr ?_; (case ho => rfl); (case hg => rfl); (case hn => rfl); (case hr => first | (go_simp; done) | (go_simp; rfl)); intro w5 hw5; have HA5 : Aside0 (At own w5 d { S with steps := S.steps + 1, plan := f :: r } mb bs vo (.slice (some ⟨b, o, none⟩) (r.length + 1) c)) := ⟨(by rw [hw5]; exact ((HA4.out.setO N4.out.2.1 _ _).setO N4.out.2.1 _ _).setO N4.out.2.1 _ _)⟩; have HK5 : Aside0 (Kept own w w5) := ⟨(by rw [hw5]; exact ((HK4.out.setO (p := ⟨g4, 0, none⟩) N4.out.2.2.2 _).setO (p := ⟨g4, 1, none⟩) N4.out.2.2.2 _).setO (p := ⟨g4, 2, none⟩) N4.out.2.2.2 _)⟩; have X5 : Aside0 (w5.heap[g4]? = some (.cells #[.int .i64 f.s, .int .i64 f.k, .int .i64 f.n] 41 (0, 0))) := ⟨(by rw [hw5]; exact blk_put (blk_put (blk_put X4.out 0 _ rfl) 1 _ rfl) 2 _ rfl)⟩; have G5 : Aside0 (w5.heap[g2]? = some (.cells #[.int .i64 0, .int .i64 0, .int .i64 0] 41 (0, 0))) := ⟨(by rw [hw5]; exact blk_far (blk_far (blk_far G4.out (Ne.symm N4.out.1) _) (Ne.symm N4.out.1) _) (Ne.symm N4.out.1) _)⟩; obtain ⟨j0, j1, j2, j3⟩ := HA5.out.cells; have jf3 := HA5.out.frozen 3; clear hw5 a0 a1 a2 af0 af1 af2)
            | ((with_reducible refine gate_dst (N := 72) rfl ?_); refine event_run rfl (w1 := w5) (v := .slice (some A') r.length c') (by simp [execOp, hV.out, Result.andThen]) ?_)
            | ((with_reducible refine gate_store (t := 43) (p := 74) rfl ?_); refine store_event (t := 43) (p := 74) (v := .tmp 72) (w1 := w5.setCell ⟨d, 3, none⟩ (.slice (some A') r.length c')) ?hg ?ho ?hn ?hr ?_; (case ho => rfl); (case hg => rfl); (case hn => rfl); (case hr => first | (go_simp; done) | (go_simp; rfl)); intro w6 hw6; have HA6 : Aside0 (At own w6 d { S with steps := S.steps + 1, plan := r } mb bs vo (.slice (some A') r.length c')) := ⟨(by rw [hw6]; exact HA5.out.setPlan (v := .slice (some A') r.length c') (hVp.out w5 HA5.out.plan) (.inl (by simp [Value.ownBlock, hVo.out])))⟩; have HK6 : Aside0 (Kept own w w6) := ⟨(by rw [hw6]; exact HK5.out.trans (Kept.set (own := own) ⟨d, 3, none⟩ HA5.out.ownd _) (fun _ hk => .inl hk))⟩; have X6 : Aside0 (w6.heap[g4]? = some (.cells #[.int .i64 f.s, .int .i64 f.k, .int .i64 f.n] 41 (0, 0))) := ⟨(by rw [hw6]; exact blk_far X5.out N4.out.2.2.1 _)⟩; have G6 : Aside0 (w6.heap[g2]? = some (.cells #[.int .i64 0, .int .i64 0, .int .i64 0] 41 (0, 0))) := ⟨(by rw [hw6]; exact blk_far G5.out (fun e => X3.out.2 (by rw [e]; exact HA5.out.ownd)) _)⟩; have b0 := blk_cell X6.out 0; have b1 := blk_cell X6.out 1; have b2 := blk_cell X6.out 2; have q0 := blk_cell G6.out 0; have q1 := blk_cell G6.out 1; have q2 := blk_cell G6.out 2; have qf0 := blk_frozen G6.out 0; have qf1 := blk_frozen G6.out 1; have qf2 := blk_frozen G6.out 2; clear hw6)
            | go_in)
          all_goals refine bodyPost_ret (results_ct rfl _ _ g2 41 #[.int .i64 f.s, .int .i64 f.k, .int .i64 f.n] (0, 0) _ rfl (by exact blk_put (blk_put (blk_put G6.out 0 _ rfl) 1 _ rfl) 2 _ rfl) Try.underlying41 rfl size41) rfl ?_
          all_goals rw [HS.out]
          all_goals refine ⟨?_, ⟨_, (((HA6.out).setO X3.out.2 _ _).setO X3.out.2 _ _).setO X3.out.2 _ _⟩, (((HK6.out).setO (Nat.le_of_eq HG.out.symm) _).setO (Nat.le_of_eq HG.out.symm) _).setO (Nat.le_of_eq HG.out.symm) _⟩
          · have hk3 : f.k = 3 := by simp_all
            simp only [if_pos hk3]
            rfl
          · have hk3 : ¬ f.k = 3 := by simp_all
            simp only [if_neg hk3]
            rfl
        · have hq : (f.s == S.steps + 1) = false := by simpa using he
          have HS : Aside0 (S.step = ({ S with steps := S.steps + 1, plan := f :: r }, ⟨0, 0, 0⟩, 0)) := ⟨by
            unfold DS.step
            rw [HF.out]
            simp only [if_neg he]⟩
          have he' := Aside0.mk he
          clear he
          go_wp2
          repeat (go_quiet (fail); try go_wp2)
          refine bodyPost_ret (results_ct rfl _ _ g2 41 #[.int .i64 0, .int .i64 0, .int .i64 0] (0, 0) _ rfl (by exact blk_put (blk_put (blk_put (blk_drewN HX.out _) 0 _ rfl) 1 _ rfl) 2 _ rfl) Try.underlying41 rfl size41) rfl ?_
          rw [HS.out]
          exact ⟨rfl, _, (((HA.out.drewN _).setO X3.out.2 _ _).setO X3.out.2 _ _).setO X3.out.2 _ _, (((HK.out.drewN _).setO (Nat.le_of_eq HG.out.symm) _).setO (Nat.le_of_eq HG.out.symm) _).setO (Nat.le_of_eq HG.out.symm) _⟩

end Go.Proofs.Ytokienfegjlocaa.Dk
