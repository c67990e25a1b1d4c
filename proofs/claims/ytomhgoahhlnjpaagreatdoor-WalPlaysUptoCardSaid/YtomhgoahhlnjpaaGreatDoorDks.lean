/- Several texts in one. -/
import Derived.Test.YtomhgoahhlnjpaaGreatDoorDkB
import Derived.Deep.RegionLaw
import Derived.StillTailTactics
/- The disk's methods, walked: step. -/
namespace Go.Proofs.YtomhgoahhlnjpaaGreatDoor.Dk
open Go.RowKit Go.Maps Go.ChangeMaps Go.WideAt Go.WideMaps Go.Proofs.YtomhgoahhlnjpaaGreatDoorW.PrintWords

def faultA (f : Fault) : Value := .agg #[.int .i64 f.s, .int .i64 f.k, .int .i64 f.n]
def DS.step (S : DS) : DS × Fault × Int :=
  match S.plan.dropWhile (fun f => decide (f.s < S.steps + 1)) with
  | [] => ({ S with steps := S.steps + 1, plan := [] }, ⟨0, 0, 0⟩, 0)
  | f :: r => if f.s = S.steps + 1 then ({ S with steps := S.steps + 1, plan := r }, f, if f.k = 3 then 23 else 22) else ({ S with steps := S.steps + 1, plan := f :: r }, ⟨0, 0, 0⟩, 0)

def planLen (w : World) (d : Nat) : Nat := match w.cell? ⟨d, 3, none⟩ with | some (.slice _ n _) => n | _ => 0
theorem planLen_at {own : Nat → Prop} {w : World} {d mb : Nat} {S : DS} {bs : List Nat} {vo vp : Value} (h : At own w d S mb bs vo vp) : planLen w d = S.plan.length := by
  obtain ⟨A, c, rfl, _⟩ := h.plan
  unfold planLen
  rw [h.cells.2.2.2]

theorem info41 : ∃ i, Tryz.prog.info? 40 = some i ∧ i.size = 3 := by
  have h : (Tryz.prog.info? 40).map (fun i => i.size) = some 3 := by kernel_rfl
  obtain ⟨i, hi, hs⟩ := Option.map_eq_some_iff.1 h
  exact ⟨i, hi, hs⟩
theorem size41 : (Tryz.prog.info? 40).map (fun i => i.size) = some 3 := by kernel_rfl
theorem cut1 (b o c : Nat) (f : Fault) (r : List Fault) : ∃ A' c', (∀ W : World, (Instr.slice 30 (.slice (some ⟨b, o, none⟩) (r.length + 1) c) (some (.int .i64 1)) none none).run Tryz.prog W = .ok (.slice (some A') r.length c') W) ∧ A'.block = b ∧
    ∀ w' : World, PlanAt w' (.slice (some ⟨b, o, none⟩) (r.length + 1) c) (f :: r) → PlanAt w' (.slice (some A') r.length c') r := by
  obtain ⟨i, hi, hsz⟩ := info41
  have hel : Tryz.prog.elem 30 = 40 := by simp [Program.elem, Tryz.underlying30]
  have hu : Tryz.prog.underlying 30 = some (.slice (Tryz.prog.elem 30)) := by rw [hel]; exact Tryz.underlying30
  refine ⟨if c = 1 then ⟨b, o, none⟩ else ⟨b, o + 3, none⟩, c - 1, fun W => ?_, by split <;> rfl, fun w' h => ?_⟩
  · rw [run_slice_l W 30 (some ⟨b, o, none⟩) (r.length + 1) c hu .i64 1 (by omega) (by omega), hel]
    by_cases hc : c = 1
    · simp [sizeOf, typeInfo, hi, hsz, sliced, Result.andThen, hc]
    · simp [sizeOf, typeInfo, hi, hsz, sliced, Result.andThen, hc, Addr.add]
  · by_cases hc : c = 1
    · rw [if_pos hc]
      exact h.tail2 hc
    · rw [if_neg hc]
      exact h.tail1

set_option maxHeartbeats 1000000 in
theorem step_calls {own : Nat → Prop} {w : World} {d mb : Nat} {S : DS} {bs : List Nat} {vo vp : Value} (h : At own w d S mb bs vo vp) (h0 : 0 ≤ S.steps) (h1 : S.steps < 4611686018427387904) :
    Calls Tryz.prog 59 #[.pointer (some ⟨d, 0, none⟩)] w fun e w' => e = .returned (.tuple #[faultA S.step.2.1, .int .i64 S.step.2.2]) ∧ ∃ vp', At own w' d S.step.1 mb bs vo vp' ∧ Kept own w w' := by
  obtain ⟨c0, c1, c2, c3⟩ := h.cells
  have f2 := h.frozen 2
  have H := Aside0.mk h
  have W : wrap64 (S.steps + 1) = S.steps + 1 := by unfold wrap64; omega
  have H0 := Aside0.mk h0
  have H1 := Aside0.mk h1
  clear h h0 h1
  go_enter Tryz.func59, Tryz.ntmps59
  go_wp2_with (first
    | ((with_reducible refine gate_dst (N := 2) rfl ?_); refine box_event ?hg (N := 2) ?hd (cs := #[.int .i64 0, .int .i64 0, .int .i64 0]) (t := 40) ?hr ?_; (case hd => rfl); (case hg => rfl); (case hr => first | (go_simp; done) | (go_simp; rfl)); intro g2 hg2 w2 hbox hb; have H2 := Aside0.mk (H.out.below hb); have HB := Aside0.mk hb; have HX := Aside0.mk hbox; have HG := Aside0.mk hg2; obtain ⟨k0, k1, k2, k3⟩ := H2.out.cells; have kf2 := H2.out.frozen 2; clear c0 c1 c2 c3 f2 hb hbox hg2)
    | ((with_reducible refine gate_store (t := 3) (p := 11) rfl ?_); refine store_event (t := 3) (p := 11) (v := .tmp 9) (w1 := w2.setCell ⟨d, 2, none⟩ (.int .i64 (S.steps + 1))) ?hg ?ho ?hn ?hr ?_; (case ho => rfl); (case hg => rfl); (case hn => rfl); (case hr => first | (go_simp; done) | (go_simp; rfl)); intro w3 hw3)
    | go_in)
  have H3 : Aside0 (At own w3 d { S with steps := S.steps + 1 } mb bs vo vp) := ⟨hw3 ▸ H2.out.setSteps _⟩
  have K3 : Aside0 (Kept own w w3) := ⟨(Kept.of_below HB.out).trans (hw3 ▸ Kept.set (own := own) ⟨d, 2, none⟩ H2.out.ownd _) (fun _ hk => .inl hk)⟩
  have X3 : Aside0 (w3.heap[g2]? = some (Obj.cells #[Value.int IntKind.i64 0, Value.int IntKind.i64 0, Value.int IntKind.i64 0] 40 (0, 0)) ∧ ¬ own g2) := ⟨by
    have hn : ¬ own g2 := fun ho => by have := H.out.bnd _ ho; have := HG.out; omega
    refine ⟨?_, hn⟩
    rw [hw3]
    exact (heap_set_ne (fun e => hn (by have := H2.out.ownd; rw [e]; exact this)) _).trans HX.out⟩
  clear hw3 k0 k1 k2 k3 kf2 HX
  go_loopw [12] (fun _ wr => ∃ vp' p, At own wr d { S with steps := S.steps + 1, plan := p } mb bs vo vp' ∧ p.dropWhile (fun f => decide (f.s < S.steps + 1)) = S.plan.dropWhile (fun f => decide (f.s < S.steps + 1)) ∧ Kept own w wr ∧ wr.heap[g2]? = some (Obj.cells #[Value.int IntKind.i64 0, Value.int IntKind.i64 0, Value.int IntKind.i64 0] 40 (0, 0))) (fun _ wr => planLen wr d)
  case atStart => exact ⟨vp, S.plan, H3.out, rfl, K3.out, X3.out.1⟩
  case round =>
    obtain ⟨vp', p, hAt, hdr, hk, hx⟩ := hrel
    obtain ⟨A, c, rfl, hc, hcell⟩ := hAt.plan
    obtain ⟨k0, k1, k2, k3⟩ := hAt.cells
    have HA := Aside0.mk hAt
    have HD := Aside0.mk hdr
    have HK := Aside0.mk hk
    have HX := Aside0.mk hx
    clear hAt hdr hk hx
    cases p with
    | nil =>
      clear hcell
      have k3' : wr.cell? ⟨d, 3, none⟩ = some (.slice A 0 c) := k3
      clear k3
      have g0 := blk_cell HX.out 0
      have g1 := blk_cell HX.out 1
      have g2_ := blk_cell HX.out 2
      have gf0 := blk_frozen HX.out 0
      have gf1 := blk_frozen HX.out 1
      have gf2 := blk_frozen HX.out 2
      go_wp2
      repeat (go_quiet (fail); try go_wp2)
      refine bodyPost_ret (results_ct rfl _ _ g2 40 #[.int .i64 0, .int .i64 0, .int .i64 0] (0, 0) _ rfl (by exact blk_put (blk_put (blk_put (blk_drewN HX.out _) 0 _ rfl) 1 _ rfl) 2 _ rfl) Tryz.underlying40 rfl size41) rfl ?_
      have HS : S.step = ({ S with steps := S.steps + 1, plan := [] }, ⟨0, 0, 0⟩, 0) := by
        unfold DS.step
        rw [← HD.out]
        rfl
      rw [HS]
      exact ⟨rfl, _, (((HA.out.drewN _).setO X3.out.2 _ _).setO X3.out.2 _ _).setO X3.out.2 _ _, (((HK.out.drewN _).setO (Nat.le_of_eq HG.out.symm) _).setO (Nat.le_of_eq HG.out.symm) _).setO (Nat.le_of_eq HG.out.symm) _⟩
    | cons f r =>
      obtain ⟨b, o, rfl, hj⟩ := hcell 0 f rfl
      have e0 := hj 0 _ rfl
      have e1 := hj 1 _ rfl
      have e2 := hj 2 _ rfl
      simp only [Nat.mul_zero, Nat.add_zero] at e0 e1 e2
      clear hj
      have HC := Aside0.mk hcell
      have HN := Aside0.mk hc
      clear hcell hc
      have k3' : wr.cell? ⟨d, 3, none⟩ = some (.slice (some ⟨b, o, none⟩) (r.length + 1) c) := k3
      clear k3
      have g0 := blk_cell HX.out 0
      have g1 := blk_cell HX.out 1
      have g2_ := blk_cell HX.out 2
      have gf0 := blk_frozen HX.out 0
      have gf1 := blk_frozen HX.out 1
      have gf2 := blk_frozen HX.out 2
      have lz : decide ((0 : Int) < ((r.length + 1 : Nat) : Int)) = true := by simp
      have kf3 := HA.out.frozen 3
      have lz2 : ((r.length : Int) + 1 == 0) = false := by simp; omega
      by_cases hlt : f.s < S.steps + 1
      · have hd : decide (f.s < S.steps + 1) = true := by simpa using hlt
        obtain ⟨A', c', hV, hVo, hVp⟩ := cut1 b o c f r
        have hVo := Aside0.mk hVo
        have hVp := Aside0.mk hVp
        have hV := Aside0.mk hV
        go_wp2
        go_quiet (fail)
        go_wp2_with (first | ((with_reducible refine gate_dst (N := 37) rfl ?_); refine event_run rfl (w1 := wr.drewN nq) (v := .slice (some A') r.length c') (by simp [execOp, hV.out, Result.andThen]) ?_) | go_in)
        have hP := hVp.out wr HA.out.plan
        have hA2 := (HA.out.drewN nq).setPlan (v := .slice (some A') r.length c') (hP.move (w' := wr.drewN nq) (fun _ _ => rfl)) (.inl (by simp [Value.ownBlock, hVo.out]))
        go_simp
        refine ⟨⟨_, r, hA2, ?_, ?_, ?_⟩, ?_⟩
        · rw [← HD.out, List.dropWhile_cons, if_pos hd]
        · exact (HK.out.drewN nq).trans (Kept.set (own := own) ⟨d, 3, none⟩ HA.out.ownd _) (fun _ hk => .inl hk)
        · exact (heap_set_ne (fun e => X3.out.2 (by rw [e]; exact HA.out.ownd)) _).trans HX.out
        · rw [planLen_at hA2, planLen_at HA.out]
          simp
      · have hd : decide (f.s < S.steps + 1) = false := by simpa using hlt
        have HF : Aside0 (S.plan.dropWhile (fun f => decide (f.s < S.steps + 1)) = f :: r) := ⟨by rw [← HD.out, List.dropWhile_cons, if_neg (by simpa using hd)]⟩
        by_cases he : f.s = S.steps + 1
        · obtain ⟨A', c', hV, hVo, hVp⟩ := cut1 b o c f r
          have hVo := Aside0.mk hVo
          have hVp := Aside0.mk hVp
          have hV := Aside0.mk hV
          have hq : (f.s == S.steps + 1) = true := by simpa using he
          have HS : Aside0 (S.step = ({ S with steps := S.steps + 1, plan := r }, f, if f.k = 3 then 23 else 22)) := ⟨by
            unfold DS.step
            rw [HF.out]
            simp only [if_pos he]⟩
          have HE := Aside0.mk he
          clear he
          have HZ : Aside0 (g2 < wr.heap.size) := ⟨blk_lt HX.out⟩
          have HW : Aside0 (w.heap.size ≤ wr.heap.size) := ⟨HK.out.size⟩
          go_wp2
          go_quiet (fail)
          go_wp2
          go_quiet (fail)
          go_wp2_with (first
            | ((with_reducible refine gate_dst (N := 4) rfl ?_); refine box_event ?hg (N := 4) ?hd (cs := #[.int .i64 0, .int .i64 0, .int .i64 0]) (t := 40) ?hr ?_; (case hd => rfl); (case hg => rfl); (case hr => first | (go_simp; done) | (go_simp; rfl)); intro g4 hg4 w4 hbox hb; have HA4 := Aside0.mk ((HA.out.drewN _).below hb); have HK4 := Aside0.mk ((HK.out.drewN _).trans (Kept.of_below (S := fun _ => False) hb) (fun _ h => h.elim)); have G4 := Aside0.mk (blk_below (blk_drewN HX.out _) hb); have X4 := Aside0.mk hbox; have N4 : Aside0 (g4 ≠ g2 ∧ ¬ own g4 ∧ g4 ≠ d ∧ w.heap.size ≤ g4) := ⟨(by have h1 := HZ.out; have h2 := HW.out; have h3 := hg4; change g4 = wr.heap.size at h3; exact ⟨by omega, fun ho => (by have := HA.out.bnd _ ho; omega), fun e => (by have := HA.out.bnd _ HA.out.ownd; omega), by omega⟩)⟩; have a0 := blk_cell hbox 0; have a1 := blk_cell hbox 1; have a2 := blk_cell hbox 2; have af0 := blk_frozen hbox 0; have af1 := blk_frozen hbox 1; have af2 := blk_frozen hbox 2; clear hbox hb hg4)
            | ((with_reducible refine gate_store (t := 40) (p := 4) rfl ?_); refine store_event (t := 40) (p := 4) (v := .tmp 66) (w1 := ((w4.setCell ⟨g4, 0, none⟩ (.int .i64 f.s)).setCell ⟨g4, 1, none⟩ (.int .i64 f.k)).setCell ⟨g4, 2, none⟩ (.int .i64 f.n)) ?hg ?ho ?hn ?hr ?_; (case ho => rfl); (case hg => rfl); (case hn => rfl); (case hr => first | (go_simp; done) | (go_simp; rfl)); intro w5 hw5; have HA5 : Aside0 (At own w5 d { S with steps := S.steps + 1, plan := f :: r } mb bs vo (.slice (some ⟨b, o, none⟩) (r.length + 1) c)) := ⟨(by rw [hw5]; exact ((HA4.out.setO N4.out.2.1 _ _).setO N4.out.2.1 _ _).setO N4.out.2.1 _ _)⟩; have HK5 : Aside0 (Kept own w w5) := ⟨(by rw [hw5]; exact ((HK4.out.setO (p := ⟨g4, 0, none⟩) N4.out.2.2.2 _).setO (p := ⟨g4, 1, none⟩) N4.out.2.2.2 _).setO (p := ⟨g4, 2, none⟩) N4.out.2.2.2 _)⟩; have X5 : Aside0 (w5.heap[g4]? = some (.cells #[.int .i64 f.s, .int .i64 f.k, .int .i64 f.n] 40 (0, 0))) := ⟨(by rw [hw5]; exact blk_put (blk_put (blk_put X4.out 0 _ rfl) 1 _ rfl) 2 _ rfl)⟩; have G5 : Aside0 (w5.heap[g2]? = some (.cells #[.int .i64 0, .int .i64 0, .int .i64 0] 40 (0, 0))) := ⟨(by rw [hw5]; exact blk_far (blk_far (blk_far G4.out (Ne.symm N4.out.1) _) (Ne.symm N4.out.1) _) (Ne.symm N4.out.1) _)⟩; obtain ⟨j0, j1, j2, j3⟩ := HA5.out.cells; have jf3 := HA5.out.frozen 3; clear hw5 a0 a1 a2 af0 af1 af2)
            | ((with_reducible refine gate_dst (N := 72) rfl ?_); refine event_run rfl (w1 := w5) (v := .slice (some A') r.length c') (by simp [execOp, hV.out, Result.andThen]) ?_)
            | ((with_reducible refine gate_store (t := 30) (p := 74) rfl ?_); refine store_event (t := 30) (p := 74) (v := .tmp 72) (w1 := w5.setCell ⟨d, 3, none⟩ (.slice (some A') r.length c')) ?hg ?ho ?hn ?hr ?_; (case ho => rfl); (case hg => rfl); (case hn => rfl); (case hr => first | (go_simp; done) | (go_simp; rfl)); intro w6 hw6; have HA6 : Aside0 (At own w6 d { S with steps := S.steps + 1, plan := r } mb bs vo (.slice (some A') r.length c')) := ⟨(by rw [hw6]; exact HA5.out.setPlan (v := .slice (some A') r.length c') (hVp.out w5 HA5.out.plan) (.inl (by simp [Value.ownBlock, hVo.out])))⟩; have HK6 : Aside0 (Kept own w w6) := ⟨(by rw [hw6]; exact HK5.out.trans (Kept.set (own := own) ⟨d, 3, none⟩ HA5.out.ownd _) (fun _ hk => .inl hk))⟩; have X6 : Aside0 (w6.heap[g4]? = some (.cells #[.int .i64 f.s, .int .i64 f.k, .int .i64 f.n] 40 (0, 0))) := ⟨(by rw [hw6]; exact blk_far X5.out N4.out.2.2.1 _)⟩; have G6 : Aside0 (w6.heap[g2]? = some (.cells #[.int .i64 0, .int .i64 0, .int .i64 0] 40 (0, 0))) := ⟨(by rw [hw6]; exact blk_far G5.out (fun e => X3.out.2 (by rw [e]; exact HA5.out.ownd)) _)⟩; have b0 := blk_cell X6.out 0; have b1 := blk_cell X6.out 1; have b2 := blk_cell X6.out 2; have q0 := blk_cell G6.out 0; have q1 := blk_cell G6.out 1; have q2 := blk_cell G6.out 2; have qf0 := blk_frozen G6.out 0; have qf1 := blk_frozen G6.out 1; have qf2 := blk_frozen G6.out 2; clear hw6)
            | go_in)
          all_goals refine bodyPost_ret (results_ct rfl _ _ g2 40 #[.int .i64 f.s, .int .i64 f.k, .int .i64 f.n] (0, 0) _ rfl (by exact blk_put (blk_put (blk_put G6.out 0 _ rfl) 1 _ rfl) 2 _ rfl) Tryz.underlying40 rfl size41) rfl ?_
          all_goals rw [HS.out]
          all_goals refine ⟨?_, ⟨_, (((HA6.out).setO X3.out.2 _ _).setO X3.out.2 _ _).setO X3.out.2 _ _⟩, (((HK6.out).setO (Nat.le_of_eq HG.out.symm) _).setO (Nat.le_of_eq HG.out.symm) _).setO (Nat.le_of_eq HG.out.symm) _⟩
          · have hk3 : f.k = 3 := by simp_all
            simp only [if_pos hk3]
            rfl
          · have hk3 : ¬ f.k = 3 := by simp_all
            simp only [if_neg hk3]
            rfl
        · have hq : (f.s == S.steps + 1) = false := by simpa using he
          have HS : Aside0 (S.step = ({ S with steps := S.steps + 1, plan := f :: r }, ⟨0, 0, 0⟩, 0)) := ⟨by
            unfold DS.step
            rw [HF.out]
            simp only [if_neg he]⟩
          have he' := Aside0.mk he
          clear he
          go_wp2
          repeat (go_quiet (fail); try go_wp2)
          refine bodyPost_ret (results_ct rfl _ _ g2 40 #[.int .i64 0, .int .i64 0, .int .i64 0] (0, 0) _ rfl (by exact blk_put (blk_put (blk_put (blk_drewN HX.out _) 0 _ rfl) 1 _ rfl) 2 _ rfl) Tryz.underlying40 rfl size41) rfl ?_
          rw [HS.out]
          exact ⟨rfl, _, (((HA.out.drewN _).setO X3.out.2 _ _).setO X3.out.2 _ _).setO X3.out.2 _ _, (((HK.out.drewN _).setO (Nat.le_of_eq HG.out.symm) _).setO (Nat.le_of_eq HG.out.symm) _).setO (Nat.le_of_eq HG.out.symm) _⟩

end Go.Proofs.YtomhgoahhlnjpaaGreatDoor.Dk

/- The disk's methods, walked: refused, Read, Sync, SyncNames. -/
namespace Go.Proofs.YtomhgoahhlnjpaaGreatDoor.Dk
open Go.RowKit Go.Maps Go.ChangeMaps Go.WideAt Go.WideMaps Go.Proofs.YtomhgoahhlnjpaaGreatDoorW.PrintWords

theorem step_told {own : Nat → Prop} {w : World} {d mb : Nat} {S T : DS} {bs : List Nat} {vo vp : Value} {f : Fault} {er : Int} (h : At own w d S mb bs vo vp) (h0 : 0 ≤ S.steps) (h1 : S.steps < 4611686018427387904) (hS : S.step = (T, f, er)) :
    Calls Tryz.prog 59 #[.pointer (some ⟨d, 0, none⟩)] w fun e w' => e = .returned (.tuple #[.agg #[.int .i64 f.s, .int .i64 f.k, .int .i64 f.n], .int .i64 er]) ∧ (∃ vp', At own w' d T mb bs vo vp') ∧ Kept own w w' := by
  refine (step_calls h h0 h1).mono fun e w' ⟨he, vp', hA, hK⟩ => ?_
  rw [hS] at he hA
  exact ⟨he, ⟨vp', hA⟩, hK⟩

set_option maxHeartbeats 1000000 in
theorem refused_calls {own : Nat → Prop} {w : World} {d mb : Nat} {S T : DS} {bs : List Nat} {vo vp : Value} {f : Fault} {er : Int} (h : At own w d S mb bs vo vp) (h0 : 0 ≤ S.steps) (h1 : S.steps < 4611686018427387904) (hS : S.step = (T, f, er)) :
    Calls Tryz.prog 55 #[.pointer (some ⟨d, 0, none⟩)] w fun e w' => e = .returned (.int .i64 er) ∧ (∃ vp', At own w' d T mb bs vo vp') ∧ Kept own w w' := by
  have H := Aside0.mk h
  have H0 := Aside0.mk h0
  have H1 := Aside0.mk h1
  have HS := Aside0.mk hS
  clear h h0 h1 hS
  go_enter Tryz.func55, Tryz.ntmps55
  go_wp2_with (first
    | (go_at_call 59; (with_reducible refine (step_told H.out H0.out H1.out HS.out).mono ?_); rintro e w1 ⟨rfl, hA, hK⟩; have HA := Aside0.mk hA; have HK := Aside0.mk hK; clear hA hK)
    | ((with_reducible refine gate_dst (N := 3) rfl ?_); refine box_event ?hg (N := 3) ?hd (cs := #[.int .i64 0, .int .i64 0, .int .i64 0]) (t := 40) ?hr ?_; (case hd => rfl); (case hg => rfl); (case hr => first | (go_simp; done) | (go_simp; rfl)); intro g3 hg3 w3 hbox hb; have HB := Aside0.mk hb; have HG := Aside0.mk hg3; have g0 := blk_cell hbox 0; have g1 := blk_cell hbox 1; have g2 := blk_cell hbox 2; have gf0 := blk_frozen hbox 0; have gf1 := blk_frozen hbox 1; have gf2 := blk_frozen hbox 2; clear hbox hb hg3)
    | go_in)
  go_ret
  obtain ⟨vp', hA⟩ := HA.out
  have hn : ¬ own g3 := fun ho => by have := hA.bnd _ ho; have := HG.out; omega
  have hw : w.heap.size ≤ g3 := by have := HK.out.size; have := HG.out; omega
  refine ⟨rfl, ⟨vp', (((hA.below HB.out).setO hn _ _).setO hn _ _).setO hn _ _⟩, ?_⟩
  exact (((HK.out.trans (Kept.of_below (S := fun _ => False) HB.out) (fun _ h => h.elim)).setO (p := ⟨g3, 0, none⟩) hw _).setO (p := ⟨g3, 1, none⟩) hw _).setO (p := ⟨g3, 2, none⟩) hw _

def DS.read (S : DS) (name : ByteArray) : ByteArray × Int := if S.known name = 0 then ((match S.find name with | some i => (S.fs.getD i (⟨#[]⟩, 0)).1 | none => ⟨#[]⟩), 0) else (⟨#[]⟩, S.known name)
theorem At.fileCells {own : Nat → Prop} {w : World} {d mb : Nat} {S : DS} {bs : List Nat} {vo vp : Value} (h : At own w d S mb bs vo vp) {name : ByteArray} {i : Nat} (hi : S.find name = some i) :
    i < bs.length ∧ bs[i]? = some (bs.getD i 0) ∧ S.fs[i]? = some (S.fs.getD i (⟨#[]⟩, 0)) ∧ w.heap[bs.getD i 0]? = some (.cells #[.string (S.fs.getD i (⟨#[]⟩, 0)).1, .int .i64 (S.fs.getD i (⟨#[]⟩, 0)).2] 78 (0, 0)) := by
  have hlt : i < bs.length := by
    by_cases hl : name.size ≤ maxLen
    · obtain ⟨v1, ps, _, hv1⟩ := h.mp.lookup law9 Tryz.underlying55 (zero68 w) (rdF_nil bs) (keyOf_string_mk Tryz.underlying9 hl)
      exact (rdF_inv hv1).2.2 i hi
    · exfalso
      obtain ⟨es, hD, hk⟩ := h.mp.keysOf
      unfold DS.find keyL at hi
      rw [hD] at hi
      have : ∀ z, (DataW.map es : DataW Unit).atKey (.string name.data.toList) z = z := by
        refine fun z => Maps.atKey_of_not_has ?_ z
        rw [has_eq, List.any_eq_false]
        intro p hp hs
        obtain ⟨v, hv⟩ := hk p hp
        obtain ⟨x, _, hx, hxl⟩ := Maps.keyOf_str Tryz.underlying9 hv
        rw [hx] at hs
        have : x = name.data.toList := by simpa [Lit.sameKey] using hs
        rw [this, Array.length_toList] at hxl
        exact hl hxl
      rw [this] at hi
      cases hi
  have hf : i < S.fs.length := by rw [← h.len]; exact hlt
  have hb : bs[i]? = some (bs.getD i 0) := by simp [List.getD, List.getElem?_eq_getElem hlt]
  have hg : S.fs[i]? = some (S.fs.getD i (⟨#[]⟩, 0)) := by simp [List.getD, List.getElem?_eq_getElem hf]
  exact ⟨hlt, hb, hg, h.file i _ _ hb hg⟩

theorem read_nil (name : ByteArray) (w : World) : Calls Tryz.prog 8 #[.pointer none, .string name] w fun e w' => e = .returned (.tuple #[.string ⟨#[]⟩, .int .i64 1]) ∧ w' = w := by
  go_enter Tryz.func8, Tryz.ntmps8
  go_wp2_with (first | (go_at_call 26; (with_reducible refine (known_nil name _).mono ?_); rintro e w1 ⟨rfl, rfl⟩) | go_in)
  go_ret2
  exact ⟨rfl, rfl⟩

theorem known_zero {S : DS} {name : ByteArray} (h : S.known name = 0) : ∃ i, S.find name = some i := by
  unfold DS.known at h
  split at h
  · cases h
  · cases hf : S.find name with
    | none => rw [hf] at h; cases h
    | some i => exact ⟨i, rfl⟩

set_option maxHeartbeats 1000000 in
theorem read_calls {own : Nat → Prop} {w : World} {d mb : Nat} {S : DS} {bs : List Nat} {vo vp : Value} (h : At own w d S mb bs vo vp) (name : ByteArray) (hl : name.size ≤ maxLen) :
    Calls Tryz.prog 8 #[.pointer (some ⟨d, 0, none⟩), .string name] w fun e w' => e = .returned (.tuple #[.string (S.read name).1, .int .i64 (S.read name).2]) ∧ w' = w := by
  obtain ⟨c0, c1, c2, c3⟩ := h.cells
  have H := Aside0.mk h
  have HL := Aside0.mk hl
  clear h hl
  unfold DS.read
  by_cases hk : S.known name = 0
  · obtain ⟨i, hf⟩ := known_zero hk
    obtain ⟨hlt, hb, hg, hc⟩ := H.out.fileCells hf
    have hv : Aside0 (fileV bs (S.find name) = .pointer (some ⟨bs.getD i 0, 0, none⟩)) := ⟨by rw [hf]; rfl⟩
    have x0 := blk_cell hc 0
    have x1 := blk_cell hc 1
    rw [if_pos hk, hf]
    have HKn := Aside0.mk hk
    clear hf hb hg hc hk hlt
    generalize bs.getD i 0 = fb at x0 x1 hv
    go_enter Tryz.func8, Tryz.ntmps8
    go_wp2_with (first
      | (go_at_call 26; (with_reducible refine (known_calls H.out name HL.out).mono ?_); rintro e w1 ⟨rfl, rfl⟩; rw [HKn.out])
      | (at_lookup; refine wpList_lookup_dk _ rfl _ _ rfl H.out rfl name rfl HL.out _ hv.out ?_)
      | go_in)
    go_ret2
    exact ⟨rfl, rfl⟩
  · rw [if_neg hk]
    generalize hkn : S.known name = kn at hk
    have HKn := Aside0.mk hkn
    clear hkn
    have hz : (kn == 0) = false := by simpa using hk
    go_enter Tryz.func8, Tryz.ntmps8
    go_wp2_with (first
      | (go_at_call 26; (with_reducible refine (known_calls H.out name HL.out).mono ?_); rintro e w1 ⟨rfl, rfl⟩; rw [HKn.out])
      | go_in)
    go_ret2
    exact ⟨rfl, rfl⟩

end Go.Proofs.YtomhgoahhlnjpaaGreatDoor.Dk

/- The disk's methods, walked: Sync, SyncNames, Cut. -/
namespace Go.Proofs.YtomhgoahhlnjpaaGreatDoor.Dk
open Go.RowKit Go.Maps Go.ChangeMaps Go.WideAt Go.WideMaps Go.Proofs.YtomhgoahhlnjpaaGreatDoorW.PrintWords

def DS.fileAt (S : DS) (i : Nat) : ByteArray × Int := S.fs.getD i (⟨#[]⟩, 0)
def DS.setFile (S : DS) (i : Nat) (f : ByteArray × Int) : DS := { S with fs := S.fs.set i f }
/-- a step, where the name leads to a file: what is done then -/
def DS.at1 (S : DS) (name : ByteArray) (k : DS → Nat → DS) : DS × Int :=
  if S.known name = 0 then
    (if S.step.2.2 = 0 then (match S.find name with | some i => (k S.step.1 i, 0) | none => (S.step.1, 0)) else (S.step.1, S.step.2.2))
  else (S, S.known name)
def DS.sync (S : DS) (name : ByteArray) : DS × Int := S.at1 name fun T i => T.setFile i ((T.fileAt i).1, (T.fileAt i).1.size)
theorem step_find (S : DS) (name : ByteArray) : S.step.1.find name = S.find name := by
  unfold DS.step
  split
  · rfl
  · split <;> rfl
theorem At.fileIn {own : Nat → Prop} {w : World} {d mb : Nat} {S : DS} {bs : List Nat} {vo vp : Value} (h : At own w d S mb bs vo vp) {name : ByteArray} {i : Nat} (hi : S.find name = some i) :
    bs[i]? = some (bs.getD i 0) ∧ S.fs[i]? = some (S.fileAt i) ∧ w.heap[bs.getD i 0]? = some (.cells #[.string (S.fileAt i).1, .int .i64 (S.fileAt i).2] 78 (0, 0)) ∧ own (bs.getD i 0) := by
  obtain ⟨h1, h2, h3, h4⟩ := h.fileCells hi
  exact ⟨h2, h3, h4, h.ownf _ (List.mem_of_getElem? h2)⟩

set_option maxHeartbeats 1000000 in
theorem sync_calls {own : Nat → Prop} {w : World} {d mb : Nat} {S : DS} {bs : List Nat} {vo vp : Value} (h : At own w d S mb bs vo vp) (name : ByteArray) (hl : name.size ≤ maxLen) (h0 : 0 ≤ S.steps) (h1 : S.steps < 4611686018427387904) :
    Calls Tryz.prog 35 #[.pointer (some ⟨d, 0, none⟩), .string name] w fun e w' => e = .returned (.int .i64 (S.sync name).2) ∧ (∃ vp', At own w' d (S.sync name).1 mb bs vo vp') ∧ Kept own w w' := by
  have H := Aside0.mk h
  have HL := Aside0.mk hl
  have H0 := Aside0.mk h0
  have H1 := Aside0.mk h1
  clear h hl h0 h1
  unfold DS.sync DS.at1
  by_cases hk : S.known name = 0
  · obtain ⟨i, hf⟩ := known_zero hk
    have HKn := Aside0.mk hk
    rw [if_pos hk]
    obtain ⟨T, f, er, hS⟩ : ∃ T f er, S.step = (T, f, er) := ⟨_, _, _, rfl⟩
    have hfT : T.find name = some i := by have := step_find S name; rw [hS] at this; exact this.trans hf
    have HS := Aside0.mk hS
    rw [hS]
    by_cases he : er = 0
    · subst he
      simp only [hf, if_true]
      obtain ⟨fb, hfb⟩ : ∃ fb, fb = bs.getD i 0 := ⟨_, rfl⟩
      have hv : Aside0 (fileV bs (T.find name) = .pointer (some ⟨fb, 0, none⟩)) := ⟨by rw [hfT, hfb]; rfl⟩
      obtain ⟨fx, hfx⟩ : ∃ fx, fx = T.fileAt i := ⟨_, rfl⟩
      have HI : Aside0 (∀ {w1 : World} {vp1 : Value}, At own w1 d T mb bs vo vp1 → bs[i]? = some fb ∧ T.fs[i]? = some fx ∧ w1.heap[fb]? = some (.cells #[.string fx.1, .int .i64 fx.2] 78 (0, 0)) ∧ own fb) := ⟨fun hA => by rw [hfb, hfx]; exact hA.fileIn hfT⟩
      rw [← hfx]
      clear hfb hfx hf hk hS hfT
      go_enter Tryz.func35, Tryz.ntmps35
      go_wp2_with (first
        | (go_at_call 26; (with_reducible refine (known_calls H.out name HL.out).mono ?_); rintro e w1 ⟨rfl, rfl⟩; rw [HKn.out])
        | (go_at_call 55; (with_reducible refine (refused_calls H.out H0.out H1.out HS.out).mono ?_); rintro e w1 ⟨rfl, ⟨vp1, hA⟩, hK⟩; obtain ⟨c0, c1, c2, c3⟩ := hA.cells; have hc := (HI.out hA).2.2.1; have x0 := blk_cell hc 0; have x1 := blk_cell hc 1; have xf1 := blk_frozen hc 1; have HA := Aside0.mk hA; have HK := Aside0.mk hK; clear hA hK hc)
        | (at_lookup; refine wpList_lookup_dk _ rfl _ _ rfl HA.out rfl name rfl HL.out _ hv.out ?_)
        | go_in)
      go_ret
      obtain ⟨h1, h2, h3, h4⟩ := HI.out HA.out
      exact ⟨rfl, ⟨_, HA.out.setF h1 h2 1 _ (fx.1, (fx.1.size : Int)) rfl⟩, HK.out.trans (Kept.set (own := own) ⟨fb, 1, none⟩ h4 _) (fun _ hk => .inl hk)⟩
    · simp only [if_neg he]
      have hz : (er == 0) = false := by simpa using he
      clear hf hk hS hfT he
      go_enter Tryz.func35, Tryz.ntmps35
      go_wp2_with (first
        | (go_at_call 26; (with_reducible refine (known_calls H.out name HL.out).mono ?_); rintro e w1 ⟨rfl, rfl⟩; rw [HKn.out])
        | (go_at_call 55; (with_reducible refine (refused_calls H.out H0.out H1.out HS.out).mono ?_); rintro e w1 ⟨rfl, hA, hK⟩; have HA := Aside0.mk hA; have HK := Aside0.mk hK; clear hA hK)
        | go_in)
      go_ret
      exact ⟨rfl, HA.out, HK.out⟩
  · rw [if_neg hk]
    generalize hkn : S.known name = kn at hk
    have HKn := Aside0.mk hkn
    clear hkn
    have hz : (kn == 0) = false := by simpa using hk
    go_enter Tryz.func35, Tryz.ntmps35
    go_wp2_with (first
      | (go_at_call 26; (with_reducible refine (known_calls H.out name HL.out).mono ?_); rintro e w1 ⟨rfl, rfl⟩; rw [HKn.out])
      | go_in)
    go_ret
    exact ⟨rfl, ⟨_, H.out⟩, Kept.refl _ _⟩
theorem sync_nil (name : ByteArray) (w : World) : Calls Tryz.prog 35 #[.pointer none, .string name] w fun e w' => e = .returned (.int .i64 1) ∧ w' = w := by
  go_enter Tryz.func35, Tryz.ntmps35
  go_wp2_with (first | (go_at_call 26; (with_reducible refine (known_nil name _).mono ?_); rintro e w1 ⟨rfl, rfl⟩) | go_in)
  go_ret
  exact ⟨rfl, rfl⟩

def DS.syncNames (S : DS) : DS × Int := if S.step.2.2 = 0 then ({ S.step.1 with opn := [] }, 0) else (S.step.1, S.step.2.2)
set_option maxHeartbeats 1000000 in
theorem syncNames_calls {own : Nat → Prop} {w : World} {d mb : Nat} {S : DS} {bs : List Nat} {vo vp : Value} (h : At own w d S mb bs vo vp) (h0 : 0 ≤ S.steps) (h1 : S.steps < 4611686018427387904) :
    Calls Tryz.prog 52 #[.pointer (some ⟨d, 0, none⟩)] w fun e w' => e = .returned (.int .i64 S.syncNames.2) ∧ (∃ vo' vp', At own w' d S.syncNames.1 mb bs vo' vp') ∧ Kept own w w' := by
  have H := Aside0.mk h
  have H0 := Aside0.mk h0
  have H1 := Aside0.mk h1
  clear h h0 h1
  unfold DS.syncNames
  obtain ⟨T, f, er, hS⟩ : ∃ T f er, S.step = (T, f, er) := ⟨_, _, _, rfl⟩
  have HS := Aside0.mk hS
  rw [hS]
  by_cases he : er = 0
  · subst he
    simp only [if_true]
    clear hS
    go_enter Tryz.func52, Tryz.ntmps52
    go_wp2_with (first
      | (go_at_call 55; (with_reducible refine (refused_calls H.out H0.out H1.out HS.out).mono ?_); rintro e w1 ⟨rfl, ⟨vp1, hA⟩, hK⟩; obtain ⟨c0, c1, c2, c3⟩ := hA.cells; have cf := hA.frozen 1; have HA := Aside0.mk hA; have HK := Aside0.mk hK; clear hA hK)
      | go_in)
    go_ret
    exact ⟨rfl, ⟨_, _, HA.out.setD 1 (.slice none 0 0) (opn' := []) rfl (own_nil _ _ _ _) (fun c hc => by cases hc) HA.out.plan HA.out.pblk (fun k hk => by cases hk) HA.out.ownp⟩, HK.out.trans (Kept.set (own := own) ⟨d, 1, none⟩ HA.out.ownd _) (fun _ hk => .inl hk)⟩
  · simp only [if_neg he]
    have hz : (er == 0) = false := by simpa using he
    clear hS he
    go_enter Tryz.func52, Tryz.ntmps52
    go_wp2_with (first
      | (go_at_call 55; (with_reducible refine (refused_calls H.out H0.out H1.out HS.out).mono ?_); rintro e w1 ⟨rfl, hA, hK⟩; have HA := Aside0.mk hA; have HK := Aside0.mk hK; clear hA hK)
      | go_in)
    go_ret
    obtain ⟨vp1, hA⟩ := HA.out
    exact ⟨rfl, ⟨_, _, hA⟩, HK.out⟩
theorem syncNames_nil (w : World) : Calls Tryz.prog 52 #[.pointer none] w fun e w' => e = .returned (.int .i64 1) ∧ w' = w := by
  go_enter Tryz.func52, Tryz.ntmps52
  go_wp2
  go_ret
  exact ⟨rfl, rfl⟩

end Go.Proofs.YtomhgoahhlnjpaaGreatDoor.Dk

/- The disk's methods: laws at the operations that write its map and its changes. -/
namespace Go.Proofs.YtomhgoahhlnjpaaGreatDoor.Dk
open Go.RowKit Go.Maps Go.ChangeMaps Go.WideAt Go.WideMaps Go.Proofs.YtomhgoahhlnjpaaGreatDoorW.PrintWords

def Is (own : Nat → Prop) (w : World) (d : Nat) (S : DS) : Prop := ∃ mb bs vo vp, At own w d S mb bs vo vp
theorem info72 : (Tryz.prog.info? 109).map (fun i => (i.zero, i.size, i.bytes)) = some (some (.agg #[.string ⟨#[]⟩, .string ⟨#[]⟩, .pointer none, .int .i64 0]), 4, 48) := by kernel_rfl

/-- a change is laid behind the others: the disk's slice, grown, and put into its field -/
theorem At.setOpn {own : Nat → Prop} {w w1 : World} {d mb : Nat} {S : DS} {bs : List Nat} {vo vp : Value} (h : At own w d S mb bs vo vp) (c : Chg) (hc : ∀ i, c.old = some i → i < bs.length) {v1 : Value}
    (hr : w1.ownsRow 0 109 4 v1 (S.opn.length + 1) (S.opn.flatMap (chgV bs) ++ chgV bs c)) (hg : w.grownBy w1 vo.ownBlock) (hat : v1.ownBlock = vo.ownBlock ∨ ∃ b, v1.ownBlock = some b ∧ w.heap.size ≤ b) :
    At (more own w w1) (w1.setCell ⟨d, 1, none⟩ v1) d { S with opn := S.opn ++ [c] } mb bs v1 vp := by
  have hne : ∀ k, own k → vo.ownBlock ≠ some k → w1.heap[k]? = w.heap[k]? := fun k hk hn => hg.block k (h.bnd k hk) (fun e => hn e.symm)
  have hvo : ∀ {k : Nat} {cs : Array Value} {t : TypeId}, w.heap[k]? = some (.cells cs t (0, 0)) → 109 ≠ t → vo.ownBlock ≠ some k := fun hk ht e => own_ne h.opn hk ht e.symm
  have hb : w1.heap[d]? = some (.cells #[.map (some mb), vo, .int .i64 S.steps, vp] 58 (0, 0)) := (hne d h.ownd (hvo h.blk (by decide))).trans h.blk
  have hpl : ∀ k, vp.ownBlock = some k → w1.heap[k]? = w.heap[k]? := fun k hk => by
    obtain ⟨cs, hcs⟩ := h.pblk k hk
    exact hne k (h.ownp k hk) (hvo hcs (by decide))
  have hpd : ∀ k, vp.ownBlock = some k → k ≠ d := fun k hk e => by
    obtain ⟨cs, hcs⟩ := h.pblk k hk
    rw [e, h.blk] at hcs
    cases hcs
  have hmm : w1.heap[mb]? = w.heap[mb]? := hne mb h.ownm (fun e => by
    have := ne_own_map h h.opn mb e
    exact this rfl)
  have hfl : ∀ (i b : Nat) (f : ByteArray × Int), bs[i]? = some b → S.fs[i]? = some f → w1.heap[b]? = some (.cells #[.string f.1, .int .i64 f.2] 78 (0, 0)) := fun i b f hi hf =>
    (hne b (h.ownf b (List.mem_of_getElem? hi)) (hvo (h.file i b f hi hf) (by decide))).trans (h.file i b f hi hf)
  exact
  { blk := by rw [blk_set hb]; rfl
    mp := by
      obtain ⟨es, clock, hm, r⟩ := h.mp
      exact ⟨es, clock, (heap_set_ne (h.ne_map h.blk) _).trans (hmm.trans hm), r⟩
    file := fun i b f hi hf => (heap_set_ne (h.ne_file h.blk (by decide) hi hf) _).trans (hfl i b f hi hf)
    len := h.len
    nodup := h.nodup
    opn := by
      have hx : (S.opn ++ [c]).flatMap (chgV bs) = S.opn.flatMap (chgV bs) ++ chgV bs c := by simp
      show World.ownsRow _ 0 109 4 v1 (S.opn ++ [c]).length ((S.opn ++ [c]).flatMap (chgV bs))
      rw [hx, List.length_append, List.length_singleton]
      exact own_setCell hr (own_ne hr hb (by decide)) _
    old := fun c' hc' i hi => by
      rcases List.mem_append.1 hc' with hm | hm
      · exact h.old c' hm i hi
      · simp at hm; subst hm; exact hc i hi
    plan := h.plan.move (fun k hk => (heap_set_ne (hpd k hk) _).trans (hpl k hk))
    pblk := fun k hk => by obtain ⟨cs, hcs⟩ := h.pblk k hk; exact ⟨cs, (heap_set_ne (hpd k hk) _).trans ((hpl k hk).trans hcs)⟩
    ownd := .inl h.ownd
    ownm := .inl h.ownm
    ownf := fun b hm => .inl (h.ownf b hm)
    owno := fun k hk => by
      rcases hat with he | ⟨b, he, hbb⟩
      · rw [he] at hk; exact .inl (h.owno k hk)
      · have e2 : b = k := by rw [he] at hk; exact Option.some.inj hk
        subst e2
        have h9 := (hr.lt b he).2
        exact .inr ⟨hbb, h9⟩
    ownp := fun k hk => .inl (h.ownp k hk)
    bnd := fun k hk => by
      rw [size_set]
      rcases hk with hk | hk
      · exact Nat.lt_of_lt_of_le (h.bnd k hk) hg.size
      · exact hk.2 }

theorem chg_one (bs : List Nat) (c : Chg) : ∀ u ∈ chgV bs c, u.oneCell' = true := by
  intro u hu
  simp only [chgV, List.mem_cons, List.not_mem_nil, or_false] at hu
  rcases hu with rfl | rfl | rfl | rfl
  · rfl
  · rfl
  · cases c.old <;> rfl
  · rfl

theorem step_opn (S : DS) : S.step.1.opn = S.opn := by
  unfold DS.step
  split
  · rfl
  · split <;> rfl
theorem step_puts (S : DS) : S.step.1.puts = S.puts := by
  unfold DS.step
  split
  · rfl
  · split <;> rfl
theorem step_steps (S : DS) : S.step.1.steps = S.steps + 1 := by
  unfold DS.step
  split
  · rfl
  · split <;> rfl
theorem step_fs (S : DS) : S.step.1.fs = S.fs := by
  unfold DS.step
  split
  · rfl
  · split <;> rfl
theorem At.more {own : Nat → Prop} {w w1 : World} {d mb : Nat} {S : DS} {bs : List Nat} {vo vp : Value} (h : At own w1 d S mb bs vo vp) (_hk : Kept own w w1) : At (Dk.more own w w1) w1 d S mb bs vo vp :=
  h.wider (fun _ ho => .inl ho) (fun k hq => by
    rcases hq with hq | hq
    · exact h.bnd k hq
    · exact hq.2)
theorem At.lift {own own1 : Nat → Prop} {w w' : World} {d mb : Nat} {S : DS} {bs : List Nat} {vo vp : Value} (h : At own1 w' d S mb bs vo vp) (ho : ∀ k, own1 k → own k ∨ w.heap.size ≤ k) (hb : ∀ k, own k → k < w'.heap.size) : At (Dk.more own w w') w' d S mb bs vo vp :=
  h.wider (fun k hk => by
    rcases ho k hk with hq | hq
    · exact .inl hq
    · exact .inr ⟨hq, h.bnd k hk⟩) (fun k hq => by
    rcases hq with hq | hq
    · exact hb k hq
    · exact hq.2)
theorem more_in {own : Nat → Prop} {w w1 w2 : World} (h : w.heap.size ≤ w1.heap.size) : ∀ k, Dk.more own w1 w2 k → own k ∨ w.heap.size ≤ k := fun k hk => by
  rcases hk with hk | hk
  · exact .inl hk
  · exact .inr (by omega)
theorem At.ne_opn {own : Nat → Prop} {w : World} {d mb : Nat} {S : DS} {bs : List Nat} {vo vp : Value} (h : At own w d S mb bs vo vp) : some d ≠ vo.ownBlock := own_ne h.opn h.blk (by decide)
theorem frozen_grown {w w1 : World} {row : Option Nat} {d : Nat} {cs : Array Value} {t : TypeId} (hg : w.grownBy w1 row) (hb : w.heap[d]? = some (.cells cs t (0, 0))) (hne : some d ≠ row) {j : Nat} : w1.frozen? ⟨d, j, none⟩ = false :=
  blk_frozen ((hg.block d (blk_lt hb) hne).trans hb) j
theorem At.drew {own : Nat → Prop} {w : World} {d mb : Nat} {S : DS} {bs : List Nat} {vo vp : Value} (h : At own w d S mb bs vo vp) : At own w.drew d S mb bs vo vp := h.move (Nat.le_refl _) (fun _ _ => rfl)
theorem Kept.drew {own : Nat → Prop} {w w1 : World} (h : Kept own w w1) : Kept own w w1.drew := ⟨h.os, h.tape, h.output, h.size, h.block⟩
theorem At.lookEq {own : Nat → Prop} {w : World} {d mb : Nat} {S : DS} {bs : List Nat} {vo vp : Value} (h : At own w d S mb bs vo vp) (name : ByteArray) (hl : name.size ≤ maxLen) (v : Value) (hv : fileV bs (S.find name) = v) :
    (Instr.lookup 55 (.map (some mb)) (.string name) false).run Tryz.prog w = .ok v w := by
  obtain ⟨v1, ps, hrun, hv1⟩ := h.mp.lookup law9 Tryz.underlying55 (zero68 w) (rdF_nil bs) (keyOf_string_mk Tryz.underlying9 hl)
  obtain ⟨hv2, _, _⟩ := rdF_inv hv1
  obtain rfl : v1 = v := hv2.trans hv
  exact hrun
theorem At.find_lt {own : Nat → Prop} {w : World} {d mb : Nat} {S : DS} {bs : List Nat} {vo vp : Value} (h : At own w d S mb bs vo vp) (name : ByteArray) : ∀ i, S.find name = some i → i < bs.length := fun _ hi => (h.fileCells hi).1
/-- a store into the map, as an equation -/
theorem At.storeEq {own : Nat → Prop} {w : World} {d mb : Nat} {S : DS} {bs : List Nat} {vo vp : Value} (h : At own w d S mb bs vo vp) (name : ByteArray) (hl : name.size ≤ maxLen) (hn : S.puts < maxLen) (o : Option Nat) (ho : ∀ i, o = some i → i < bs.length) (v : Value) (hv : fileV bs o = v) :
    ∃ w', (Instr.mapUpdate 55 (.map (some mb)) (.string name) v).run Tryz.prog w = .ok () w' ∧ At own w' d { S with D := S.D.put (keyL name) (refD o), puts := S.puts + 1 } mb bs vo vp ∧ Kept own w w' := by
  obtain ⟨w', hr, hm, hg⟩ := h.mp.update law9 Tryz.underlying55 hn (keyOf_string_mk Tryz.underlying9 hl) (val := v) (d := refD o) (ps := []) (by rw [← hv]; exact rdF_file h.nodup ho)
  exact ⟨w', hr, h.setM hg hm, Kept.of_grown hg (fun k hk => by cases hk; exact h.ownm)⟩
theorem At.dropEq {own : Nat → Prop} {w : World} {d mb : Nat} {S : DS} {bs : List Nat} {vo vp : Value} (h : At own w d S mb bs vo vp) (name : ByteArray) (hl : name.size ≤ maxLen) (ty : TypeId) :
    ∃ w', (Builtin.delete_ #[55, 9] ty #[.map (some mb), .string name]).run Tryz.prog w = .ok (.tuple #[]) w' ∧ At own w' d { S with D := S.D.del (keyL name) } mb bs vo vp ∧ Kept own w w' := by
  obtain ⟨w', hr, hm, hg⟩ := h.mp.drop law9 Tryz.underlying55 (keyOf_string_mk Tryz.underlying9 hl) ty
  exact ⟨w', hr, h.setM hg.grown hm, Kept.of_grown hg.grown (fun k hk => by cases hk; exact h.ownm)⟩

section
variable {ops : Array Oper} {rest : List Oper} {o : Oper} {a : Act} {Q : Exit → Act → World → Prop} {own : Nat → Prop} {w : World} {d mb : Nat} {S : DS} {bs : List Nat} {vo vp : Value}
theorem wpList_delete_dk (hg : o.guard = none) (m x : Operand) (hop : o.op = Op.call { callee := Callee.builtin Builtin.delete, args := #[m, x], argTypes := #[55, 9] }) (h : At own w d S mb bs vo vp)
    (hm : a.eval m = .map (some mb)) (name : ByteArray) (hx : a.eval x = .string name) (hl : name.size ≤ maxLen)
    (hK : ∀ w', At own w' d { S with D := S.D.del (keyL name) } mb bs vo vp → Kept own w w' → wpList Tryz.prog ops Q rest (a.put o.dst (.tuple #[])) w') :
    wpList Tryz.prog ops Q (o :: rest) a w := by
  refine wpList_plain hg fun K' hK' => ?_
  obtain ⟨w', hrun, r1, r2⟩ := h.dropEq name hl o.type
  unfold Oper.wp
  simp [execOp, hop, resolve, invoke, builtin, hm, hx, hrun, Result.andThen]
  exact hK' _ _ (hK w' r1 r2)
theorem wpList_store_dk (hg : o.guard = none) (m x v : Operand) (hop : o.op = Op.mapUpdate 55 m x v) (h : At own w d S mb bs vo vp)
    (hm : a.eval m = .map (some mb)) (name : ByteArray) (hx : a.eval x = .string name) (hl : name.size ≤ maxLen) (hn : S.puts < maxLen) (r : Option Nat) (hr : ∀ i, r = some i → i < bs.length) (u : Value) (hv : a.eval v = u) (hu : fileV bs r = u)
    (hK : ∀ w', At own w' d { S with D := S.D.put (keyL name) (refD r), puts := S.puts + 1 } mb bs vo vp → Kept own w w' → wpList Tryz.prog ops Q rest (a.put o.dst undef) w') :
    wpList Tryz.prog ops Q (o :: rest) a w := by
  refine wpList_plain hg fun K' hK' => ?_
  obtain ⟨w', hrun, r1, r2⟩ := h.storeEq name hl hn r hr u hu
  unfold Oper.wp
  simp [execOp, hop, hm, hx, hv, hrun, Result.andThen]
  exact hK' _ _ (hK w' r1 r2)
theorem delete_step_dk {K : Act → World → Prop} (hw : Region.wanted o (yielded ops a.tmps) = true) (m x : Operand) (hop : o.op = Op.call { callee := Callee.builtin Builtin.delete, args := #[m, x], argTypes := #[55, 9] }) (h : At own w d S mb bs vo vp)
    (hm : a.eval m = .map (some mb)) (name : ByteArray) (hx : a.eval x = .string name) (hl : name.size ≤ maxLen)
    (hK : ∀ w', At own w' d { S with D := S.D.del (keyL name) } mb bs vo vp → Kept own w w' → K (a.put o.dst (.tuple #[])) w') :
    if Region.wanted o (yielded ops a.tmps) = true then Oper.wp Tryz.prog o a w K Q else K (a.put o.dst undef) w := by
  obtain ⟨w', hrun, r1, r2⟩ := h.dropEq name hl o.type
  rw [if_pos hw]
  unfold Oper.wp
  simp [execOp, hop, resolve, invoke, builtin, hm, hx, hrun, Result.andThen]
  exact hK w' r1 r2
theorem append_step_dk {K : Act → World → Prop} (hw : Region.wanted o (yielded ops a.tmps) = true) (s x : Operand) (hop : o.op = .call { callee := .builtin .append, args := #[s, x], argTypes := #[56, 56] }) (h : At own w d S mb bs vo vp)
    (ys : List Value) (c : Chg) (hys : ys = chgV bs c) (hs : a.eval s = vo) (hx : a.eval x = .slice (some ⟨w.heap.size, 0, none⟩) 1 1) (hn : S.opn.length < 1099511627776)
    (hK : ∀ A cc w1, w1.ownsRow 0 109 4 (.slice A (S.opn.length + 1) cc) (S.opn.length + 1) (S.opn.flatMap (chgV bs) ++ chgV bs c) → w.grownBy w1 vo.ownBlock → ((Value.slice A (S.opn.length + 1) cc).ownBlock = vo.ownBlock ∨ ∃ b, (Value.slice A (S.opn.length + 1) cc).ownBlock = some b ∧ w.heap.size ≤ b) → K (a.put o.dst (.slice A (S.opn.length + 1) cc)) w1) :
    if Region.wanted o (yielded ops a.tmps) = true then Oper.wp Tryz.prog o a (w.alloc (.cells ys.toArray 109)).drew K Q else K (a.put o.dst undef) (w.alloc (.cells ys.toArray 109)).drew := by
  subst hys
  refine step_append_cells (w0 := w.drew) (W := w.drew) 0 hw s x 56 109 (.agg #[.string ⟨#[]⟩, .string ⟨#[]⟩, .pointer none, .int .i64 0]) 4 48 hop Tryz.underlying56 info72 rfl (by decide) (by decide) vo S.opn.length _ (chgV bs c) hs hx rfl (chg_one bs c) h.drew.opn (Below.refl _ _) (Nat.zero_le _) (by omega) ?_
  intro v1 w1 hr hb hg hat
  obtain ⟨A, cc, rfl⟩ := own_slice hr
  exact hK A cc w1 hr ⟨hg.os, hg.tape, hg.output, hg.size, hg.block⟩ hat
theorem wpList_append_dk (hgd : o.guard = none) (s x : Operand) (hop : o.op = .call { callee := .builtin .append, args := #[s, x], argTypes := #[56, 56] }) (h : At own w d S mb bs vo vp)
    (ys : List Value) (c : Chg) (hys : ys = chgV bs c) (hs : a.eval s = vo) (hx : a.eval x = .slice (some ⟨w.heap.size, 0, none⟩) 1 1) (hn : S.opn.length < 1099511627776)
    (hK : ∀ A cc w1, w1.ownsRow 0 109 4 (.slice A (S.opn.length + 1) cc) (S.opn.length + 1) (S.opn.flatMap (chgV bs) ++ chgV bs c) → w.grownBy w1 vo.ownBlock → ((Value.slice A (S.opn.length + 1) cc).ownBlock = vo.ownBlock ∨ ∃ b, (Value.slice A (S.opn.length + 1) cc).ownBlock = some b ∧ w.heap.size ≤ b) → wpList Tryz.prog ops Q rest (a.put o.dst (.slice A (S.opn.length + 1) cc)) w1) :
    wpList Tryz.prog ops Q (o :: rest) a (w.alloc (.cells ys.toArray 109)) := by
  subst hys
  refine print_append_cells (w0 := w) 0 hgd s x 56 109 (.agg #[.string ⟨#[]⟩, .string ⟨#[]⟩, .pointer none, .int .i64 0]) 4 48 hop Tryz.underlying56 info72 rfl (by decide) (by decide) vo S.opn.length _ (chgV bs c) hs hx rfl (chg_one bs c) h.opn (Below.refl _ _) (Nat.zero_le _) (by omega) ?_
  intro v1 w1 hr hb hg hat
  obtain ⟨A, cc, rfl⟩ := own_slice hr
  exact hK A cc w1 hr hg hat
end

end Go.Proofs.YtomhgoahhlnjpaaGreatDoor.Dk
