-- Written by a program of this session on top of the print: some functions by hand.
import Derived.Test.YtbeljekpknpadaaDoorPPayUx0
import Derived.Test.YtbeljekpknpadaaDoorPPayUx3
import Derived.Test.YtbeljekpknpadaaDoorPPayUx4
import Derived.Test.YtbeljekpknpadaaDoorPPayUx6
import Derived.Test.YtbeljekpknpadaaDoorPPayUx9
import Derived.Test.YtbeljekpknpadaaDoorPPayUx10
import Derived.Test.YtbeljekpknpadaaDoorPPayUx12
import Derived.Test.YtbeljekpknpadaaDoorPPayUx14
import Derived.Test.YtbeljekpknpadaaDoorPPayUx18
namespace Go.Proofs.YtbeljekpknpadaaDoor.PPayU
open Go.RowKit Go.Proofs.YtbeljekpknpadaaDoorW.PrintWords Go.Proofs.YtbeljekpknpadaaDoorW.PrintLast Go.Proofs.YtbeljekpknpadaaDoorW.PrintMore
attribute [local go_sem] max2_int min2_int max_two min_two max_three min_three max_four min_four   -- for this text's walks alone
set_option linter.unusedVariables false
set_option linter.unusedSimpArgs false

/-! ### lodestarlaw05_PayloadChecks: function 7 -/
def lodestarlaw05_PayloadChecks.f (k : Nat) (l0_0 : List (S89)) (l0_1 : List (S93)) (a1_0 : Int) (l1_1 : List (S59)) (l1_2 : List (S61)) : Option (Bool) := (lodestarref05_Copy.f k a1_0 l1_1 l1_2).bind fun bt360 => ((payload_CheckSchema.f k l0_0 l0_1).bind fun t368 => ((lodestarref05_CheckSchema.f k l0_0 l0_1).bind fun t369 => (if t368 = t369 then ((payload_Check.f k l0_0 l0_1 bt360.1 bt360.2.1 bt360.2.2).bind fun t370 => ((lodestarref05_Check.f k l0_0 l0_1 a1_0 l1_1 l1_2).bind fun t371 => (if t370 = t371 then ((lodestarref05_Same.f k bt360.1 bt360.2.1 bt360.2.2 a1_0 l1_1 l1_2).bind fun t372 => (if t372 = true then ((lodestarlaw05_awake.f k).bind fun t373 => (some t373)) else (some false))) else (some false)))) else (some false))))
theorem lodestarlaw05_PayloadChecks.mono : ∀ a0 a1 a2 a3 a4 k, LeO (lodestarlaw05_PayloadChecks.f k a0 a1 a2 a3 a4) (lodestarlaw05_PayloadChecks.f (k + 1) a0 a1 a2 a3 a4) := by
 intro a0 a1 a2 a3 a4 k
 unfold lodestarlaw05_PayloadChecks.f
 repeat' first
   | (with_reducible exact lodestarlaw05_awake.mono _)
   | (with_reducible exact lodestarref05_Check.mono _ _ _ _ _ _)
   | (with_reducible exact lodestarref05_CheckSchema.mono _ _ _)
   | (with_reducible exact lodestarref05_Copy.mono _ _ _ _)
   | (with_reducible exact lodestarref05_Same.mono _ _ _ _ _ _ _)
   | (with_reducible exact payload_Check.mono _ _ _ _ _ _)
   | (with_reducible exact payload_CheckSchema.mono _ _ _)
   | (with_reducible exact LeO.refl _)
   | (with_reducible exact LeO.none _)
   | (with_reducible refine LeO.ite ?_ ?_)
   | (with_reducible refine LeO.bind ?_ (fun _ => ?_))
   | exact lodestarlaw05_awake.mono _
   | exact lodestarref05_Check.mono _ _ _ _ _ _
   | exact lodestarref05_CheckSchema.mono _ _ _
   | exact lodestarref05_Copy.mono _ _ _ _
   | exact lodestarref05_Same.mono _ _ _ _ _ _ _
   | exact payload_Check.mono _ _ _ _ _ _
   | exact payload_CheckSchema.mono _ _ _
   | exact LeO.none _
   | refine LeO.ite ?_ ?_
   | refine LeO.bind ?_ (fun _ => ?_)
def lodestarlaw05_PayloadChecks.T2 : Bool × List (List Nat × List Nat) := (true, [([], []), ([0], [0]), ([], []), ([2, 1], [2]), ([1, 3], [1, 3]), ([4, 3], [4]), ([5], [5]), ([5], [5]), ([6, 7, 5, 5], [5, 6, 7]), ([5], [5]), ([5], [5]), ([9, 10, 8, 5], [5, 9, 10]), ([8, 11, 5], [5, 8, 11]), ([5, 12], [5, 12]), ([13, 11], [13]), ([14], [14]), ([14], [14]), ([15, 16, 14, 14], [14, 15, 16]), ([14, 17], [14, 17]), ([18, 17], [18]), ([19, 19], [19]), ([19, 20], [19, 20]), ([21, 20, 0, 1, 2, 3, 4, 5, 6, 7, 8, 9, 10, 11, 12, 13, 14, 15, 16, 17, 18, 19, 20, 21], [21])])
def lodestarlaw05_PayloadChecks.B2 : List Nat := [0, 1, 0, 7, 15, 31, 63, 63, 255, 63, 63, 2047, 4095, 8191, 16383, 32767, 32767, 131071, 262143, 524287, 1048575, 2097151, 4194303]
theorem lodestarlaw05_PayloadChecks.tab2 : rtab .any (opsOf Tryd.f7 2) = lodestarlaw05_PayloadChecks.T2 := by kernel_rfl
theorem lodestarlaw05_PayloadChecks.bits2 : waitsOk lodestarlaw05_PayloadChecks.T2.2 lodestarlaw05_PayloadChecks.B2 = true := by kernel_rfl
set_option maxHeartbeats 8000000 in
set_option maxRecDepth 100000 in
theorem lodestarlaw05_PayloadChecks.calls (k : Nat) (A0_0 : Option Addr) (c0_0 : Nat) (l0_0 : List (S89)) (A0_1 : Option Addr) (c0_1 : Nat) (l0_1 : List (S93)) (a1_0 : Int) (A1_1 : Option Addr) (c1_1 : Nat) (l1_1 : List (S59)) (A1_2 : Option Addr) (c1_2 : Nat) (l1_2 : List (S61)) (w : World) (hr0_0 : Kd.C k89 w A0_0 l0_0.length l0_0) (hc0_0 : l0_0.length ≤ c0_0) (hr0_1 : Kd.C k93 w A0_1 l0_1.length l0_1) (hc0_1 : l0_1.length ≤ c0_1) (hr1_1 : Kd.C k59 w A1_1 l1_1.length l1_1) (hc1_1 : l1_1.length ≤ c1_1) (hr1_2 : Kd.C k61 w A1_2 l1_2.length l1_2) (hc1_2 : l1_2.length ≤ c1_2) (hU : LaidU w) (h : lodestarlaw05_PayloadChecks.f k l0_0 l0_1 a1_0 l1_1 l1_2 = some true) :
  Calls Tryd.prog 7 #[.agg #[.slice A0_0 l0_0.length c0_0, .slice A0_1 l0_1.length c0_1], .agg #[.int .i64 a1_0, .slice A1_1 l1_1.length c1_1, .slice A1_2 l1_2.length c1_2]] w fun e w' => e = .returned (.bool true) ∧ Below w.heap.size w w' := by
 have hu51 := Tryd.underlying51
 have hu25 := Tryd.underlying25
 have HU := Aside0.mk hU
 clear hU
 have HR0_0 := Aside0.mk hr0_0
 have HC0_0 := Aside0.mk hc0_0
 clear hr0_0 hc0_0
 have HR0_1 := Aside0.mk hr0_1
 have HC0_1 := Aside0.mk hc0_1
 clear hr0_1 hc0_1
 have HR1_1 := Aside0.mk hr1_1
 have HC1_1 := Aside0.mk hc1_1
 clear hr1_1 hc1_1
 have HR1_2 := Aside0.mk hr1_2
 have HC1_2 := Aside0.mk hc1_2
 clear hr1_2 hc1_2
 have HB := Aside0.mk (Below.refl w.heap.size w)
 have H : ((lodestarref05_Copy.f k a1_0 l1_1 l1_2).bind fun bt360 => ((payload_CheckSchema.f k l0_0 l0_1).bind fun t368 => ((lodestarref05_CheckSchema.f k l0_0 l0_1).bind fun t369 => (if t368 = t369 then ((payload_Check.f k l0_0 l0_1 bt360.1 bt360.2.1 bt360.2.2).bind fun t370 => ((lodestarref05_Check.f k l0_0 l0_1 a1_0 l1_1 l1_2).bind fun t371 => (if t370 = t371 then ((lodestarref05_Same.f k bt360.1 bt360.2.1 bt360.2.2 a1_0 l1_1 l1_2).bind fun t372 => (if t372 = true then ((lodestarlaw05_awake.f k).bind fun t373 => (some t373)) else (some false))) else (some false)))) else (some false))))) = some true := h
 clear h
 replace H := Option.bind_eq_some_iff.mp H
 obtain ⟨⟨t360, t361, t364⟩, A30, H⟩ := H
 replace H : ((payload_CheckSchema.f k l0_0 l0_1).bind fun t368 => ((lodestarref05_CheckSchema.f k l0_0 l0_1).bind fun t369 => (if t368 = t369 then ((payload_Check.f k l0_0 l0_1 t360 t361 t364).bind fun t370 => ((lodestarref05_Check.f k l0_0 l0_1 a1_0 l1_1 l1_2).bind fun t371 => (if t370 = t371 then ((lodestarref05_Same.f k t360 t361 t364 a1_0 l1_1 l1_2).bind fun t372 => (if t372 = true then ((lodestarlaw05_awake.f k).bind fun t373 => (some t373)) else (some false))) else (some false)))) else (some false)))) = some true := H
 have A3 := Aside0.mk A30
 clear A30
 replace H := Option.bind_eq_some_iff.mp H
 obtain ⟨t368, A40, H⟩ := H
 replace H : ((lodestarref05_CheckSchema.f k l0_0 l0_1).bind fun t369 => (if t368 = t369 then ((payload_Check.f k l0_0 l0_1 t360 t361 t364).bind fun t370 => ((lodestarref05_Check.f k l0_0 l0_1 a1_0 l1_1 l1_2).bind fun t371 => (if t370 = t371 then ((lodestarref05_Same.f k t360 t361 t364 a1_0 l1_1 l1_2).bind fun t372 => (if t372 = true then ((lodestarlaw05_awake.f k).bind fun t373 => (some t373)) else (some false))) else (some false)))) else (some false))) = some true := H
 have A4 := Aside0.mk A40
 clear A40
 replace H := Option.bind_eq_some_iff.mp H
 obtain ⟨t369, A50, H⟩ := H
 replace H : (if t368 = t369 then ((payload_Check.f k l0_0 l0_1 t360 t361 t364).bind fun t370 => ((lodestarref05_Check.f k l0_0 l0_1 a1_0 l1_1 l1_2).bind fun t371 => (if t370 = t371 then ((lodestarref05_Same.f k t360 t361 t364 a1_0 l1_1 l1_2).bind fun t372 => (if t372 = true then ((lodestarlaw05_awake.f k).bind fun t373 => (some t373)) else (some false))) else (some false)))) else (some false)) = some true := H
 have A5 := Aside0.mk A50
 clear A50
 by_cases c6 : t368 = t369
 ·rw [if_pos c6] at H
  have c6b0 : (t368 == t369) = true := beq_iff_eq.mpr c6
  have c6b1 : (t368 != t369) = false := bne_eq_false_iff_eq.mpr c6
  clear c6
  replace H := Option.bind_eq_some_iff.mp H
  obtain ⟨t370, A70, H⟩ := H
  replace H : ((lodestarref05_Check.f k l0_0 l0_1 a1_0 l1_1 l1_2).bind fun t371 => (if t370 = t371 then ((lodestarref05_Same.f k t360 t361 t364 a1_0 l1_1 l1_2).bind fun t372 => (if t372 = true then ((lodestarlaw05_awake.f k).bind fun t373 => (some t373)) else (some false))) else (some false))) = some true := H
  have A7 := Aside0.mk A70
  clear A70
  replace H := Option.bind_eq_some_iff.mp H
  obtain ⟨t371, A80, H⟩ := H
  replace H : (if t370 = t371 then ((lodestarref05_Same.f k t360 t361 t364 a1_0 l1_1 l1_2).bind fun t372 => (if t372 = true then ((lodestarlaw05_awake.f k).bind fun t373 => (some t373)) else (some false))) else (some false)) = some true := H
  have A8 := Aside0.mk A80
  clear A80
  by_cases c9 : t370 = t371
  ·rw [if_pos c9] at H
   have c9b0 : (t370 == t371) = true := beq_iff_eq.mpr c9
   have c9b1 : (t370 != t371) = false := bne_eq_false_iff_eq.mpr c9
   clear c9
   replace H := Option.bind_eq_some_iff.mp H
   obtain ⟨t372, A100, H⟩ := H
   replace H : (if t372 = true then ((lodestarlaw05_awake.f k).bind fun t373 => (some t373)) else (some false)) = some true := H
   have A10 := Aside0.mk A100
   clear A100
   by_cases c11 : t372 = true
   ·subst c11
    have H1 : ((lodestarlaw05_awake.f k).bind fun t373 => (some t373)) = some true := by rw [if_pos rfl] at H; exact H
    clear H
    have H := H1
    clear H1
    replace H := Option.bind_eq_some_iff.mp H
    obtain ⟨t373, A120, H⟩ := H
    replace H : (some t373) = some true := H
    have A12 := Aside0.mk A120
    clear A120
    have hE_ := Aside0.mk (Option.some.inj H)
    clear H
    go_enter Tryd.func7, Tryd.ntmps7
    try go_wp2_with (first | ((with_reducible refine gate_dst (N := 2) rfl ?_); refine box_event ?hg (N := 2) ?hd (cs := #[.slice A0_0 l0_0.length c0_0, .slice A0_1 l0_1.length c0_1]) (t := 51) ?hr ?_; (case hd => rfl); (case hg => rfl); (case hr => first | (go_simp; done) | (go_simp; rfl)); intro gb358 hg w13 hbox hb; have BK358 := Aside0.mk (hbox); have GW358 := Aside0.mk (gs (w := w) hg (bl HB.out)); have GE358 := Aside0.mk (gs (w := w) hg (bl HB.out)); replace HB := Aside0.mk (below_step (bl HB.out) hb); clear hb hbox hg) | ((with_reducible refine gate_dst (N := 3) rfl ?_); refine box_event ?hg (N := 3) ?hd (cs := #[.int .i64 a1_0, .slice A1_1 l1_1.length c1_1, .slice A1_2 l1_2.length c1_2]) (t := 25) ?hr ?_; (case hd => rfl); (case hg => rfl); (case hr => first | (go_simp; done) | (go_simp; rfl)); intro gb359 hg w14 hbox hb; have BK359 := Aside0.mk (hbox); have GW359 := Aside0.mk (gs (w := w) hg (bl HB.out)); have GE359 := Aside0.mk (gs (w := w) hg (bl HB.out)); replace HB := Aside0.mk (below_step (bl HB.out) hb); have NB358_359 := Aside0.mk ((gl (g := gb358) hg (pk BK358.out))); have NB359_358 := Aside0.mk ((gm (g := gb358) hg (pk BK358.out))); replace BK358 := Aside0.mk (blk_below (pk BK358.out) hb); clear hb hbox hg; have hnb15 := NB359_358.out; have hnc15 := NB358_359.out; obtain ⟨hcz16_0, hcz16_1, hcz16_2, hfz16_0, hfz16_1, hfz16_2⟩ := cz3 BK359.out) | ((with_reducible refine gate_callee (f := 11) rfl ?_); refine goesL_ (some 7) rfl rfl Tryd.func11 kr rfl #[.agg #[.int .i64 a1_0, .slice A1_1 l1_1.length c1_1, .slice A1_2 l1_2.length c1_2]] rfl ga ?_; (with_reducible refine (lodestarref05_Copy.calls k a1_0 _ _ l1_1 _ _ l1_2 t360 t361 t364 _ ?side1 ?side2 ?side3 ?side4 A3.out).mono ?_); (case side1 => repeat (first | exact (Kd.C_below HR1_1.out HB.out) | (with_reducible refine Kd.C_alloc ?_ _) | (with_reducible refine Kd.C_drewN ?_ _) | (with_reducible refine Kd.C_drew ?_))); (case side2 => exact HC1_1.out); (case side3 => repeat (first | exact (Kd.C_below HR1_2.out HB.out) | (with_reducible refine Kd.C_alloc ?_ _) | (with_reducible refine Kd.C_drewN ?_ _) | (with_reducible refine Kd.C_drew ?_))); (case side4 => exact HC1_2.out); rintro e w17 ⟨v362, v365, rfl, ho0, ho1, hb⟩; refine ⟨_, rfl, ?_⟩; have HO363 := Aside0.mk (Kd.S_lower ho0 (below_size (bl HB.out))); have HO366 := Aside0.mk (Kd.R_lower ho1 (below_size (bl HB.out))); replace BK358 := Aside0.mk (blk_below (pk BK358.out) hb); replace BK359 := Aside0.mk (blk_below (pk BK359.out) hb); replace HB := Aside0.mk (below_step (bl HB.out) hb); (try clear hb); (try clear hb2); (try clear hk); (try clear hi); (try clear ho0); (try clear ho1)) | ((with_reducible refine gate_dst (N := 5) rfl ?_); refine box_event ?hg (N := 5) ?hd (cs := #[.int .i64 0, .slice none 0 0, .slice none 0 0]) (t := 25) ?hr ?_; (case hd => rfl); (case hg => rfl); (case hr => first | (go_simp; done) | (go_simp; rfl)); intro gb367 hg w18 hbox hb; replace HO363 := Aside0.mk (Kd.S_below (pS HO363.out) hb); replace HO366 := Aside0.mk (Kd.R_below (pR HO366.out) hb); have BK367 := Aside0.mk (hbox); have GW367 := Aside0.mk (gs (w := w) hg (bl HB.out)); have GE367 := Aside0.mk (gs (w := w) hg (bl HB.out)); replace HB := Aside0.mk (below_step (bl HB.out) hb); have NB358_367 := Aside0.mk ((gl (g := gb358) hg (pk BK358.out))); have NB367_358 := Aside0.mk ((gm (g := gb358) hg (pk BK358.out))); replace BK358 := Aside0.mk (blk_below (pk BK358.out) hb); have NB359_367 := Aside0.mk ((gl (g := gb359) hg (pk BK359.out))); have NB367_359 := Aside0.mk ((gm (g := gb359) hg (pk BK359.out))); replace BK359 := Aside0.mk (blk_below (pk BK359.out) hb); clear hb hbox hg; have hnb19 := NB367_358.out; have hnc19 := NB358_367.out; have hnb20 := NB367_359.out; have hnc20 := NB359_367.out; obtain ⟨hcz21_0, hcz21_1, hcz21_2, hfz21_0, hfz21_1, hfz21_2⟩ := cz3 BK367.out; obtain ⟨Ao22, co22, eo22⟩ := Kd.S_slice HO363.out; subst eo22; obtain ⟨Ao23, co23, eo23⟩ := Kd.R_slice HO366.out; subst eo23))
    have n0_ : Aside0 (Kd.S k59 59 (((w18.setCell ⟨gb367, 0, none⟩ (.int .i64 t360)).setCell ⟨gb367, 1, none⟩ (.slice Ao22 t361.length co22)).setCell ⟨gb367, 2, none⟩ (.slice Ao23 t364.length co23)) w.heap.size (fun _ => True) (.slice Ao22 t361.length co22) t361) := ⟨by (with_reducible repeat (first | apply Kd.S_alloc | apply Kd.S_drewN | apply Kd.S_drew)); exact Kd.S_mono (Kd.S_far (p := ⟨gb367, 2, none⟩) (Kd.S_far (p := ⟨gb367, 1, none⟩) (Kd.S_far (p := ⟨gb367, 0, none⟩) (Kd.S_types HO363.out BK367.out (by decide)) (fun _ hk => hk.2) (.int .i64 t360)) (fun _ hk => hk.2) (.slice Ao22 t361.length co22)) (fun _ hk => hk.2) (.slice Ao23 t364.length co23)) (fun _ hk => trivial)⟩
    have n1_ : Aside0 (Kd.R k61 61 (((w18.setCell ⟨gb367, 0, none⟩ (.int .i64 t360)).setCell ⟨gb367, 1, none⟩ (.slice Ao22 t361.length co22)).setCell ⟨gb367, 2, none⟩ (.slice Ao23 t364.length co23)) w.heap.size (fun _ => True) (.slice Ao23 t364.length co23) t364) := ⟨by (with_reducible repeat (first | apply Kd.R_alloc | apply Kd.R_drewN | apply Kd.R_drew)); exact Kd.R_mono (Kd.R_far (p := ⟨gb367, 2, none⟩) (Kd.R_far (p := ⟨gb367, 1, none⟩) (Kd.R_far (p := ⟨gb367, 0, none⟩) (Kd.R_types HO366.out BK367.out (by decide)) (fun _ hk => hk.2) (.int .i64 t360)) (fun _ hk => hk.2) (.slice Ao22 t361.length co22)) (fun _ hk => hk.2) (.slice Ao23 t364.length co23)) (fun _ hk => trivial)⟩
    have n2_ : Aside0 ((((w18.setCell ⟨gb367, 0, none⟩ (.int .i64 t360)).setCell ⟨gb367, 1, none⟩ (.slice Ao22 t361.length co22)).setCell ⟨gb367, 2, none⟩ (.slice Ao23 t364.length co23)).heap[gb358]? = some (.cells #[.slice A0_0 l0_0.length c0_0, .slice A0_1 l0_1.length c0_1] 51 (0, 0))) := ⟨by refine pk ?_; refine blk_far ?_ NB358_367.out _; refine pk ?_; refine blk_far ?_ NB358_367.out _; refine pk ?_; refine blk_far ?_ NB358_367.out _; exact pk BK358.out⟩
    have n3_ : Aside0 ((((w18.setCell ⟨gb367, 0, none⟩ (.int .i64 t360)).setCell ⟨gb367, 1, none⟩ (.slice Ao22 t361.length co22)).setCell ⟨gb367, 2, none⟩ (.slice Ao23 t364.length co23)).heap[gb359]? = some (.cells #[.int .i64 a1_0, .slice A1_1 l1_1.length c1_1, .slice A1_2 l1_2.length c1_2] 25 (0, 0))) := ⟨by refine pk ?_; refine blk_far ?_ NB359_367.out _; refine pk ?_; refine blk_far ?_ NB359_367.out _; refine pk ?_; refine blk_far ?_ NB359_367.out _; exact pk BK359.out⟩
    have n4_ : Aside0 ((((w18.setCell ⟨gb367, 0, none⟩ (.int .i64 t360)).setCell ⟨gb367, 1, none⟩ (.slice Ao22 t361.length co22)).setCell ⟨gb367, 2, none⟩ (.slice Ao23 t364.length co23)).heap[gb367]? = some (.cells #[.int .i64 t360, .slice Ao22 t361.length co22, .slice Ao23 t364.length co23] 25 (0, 0))) := ⟨by refine pk ?_; refine blk_put (cs := #[.int .i64 t360, .slice Ao22 t361.length co22, .slice none 0 0]) ?_ 2 _ rfl; refine pk ?_; refine blk_put (cs := #[.int .i64 t360, .slice none 0 0, .slice none 0 0]) ?_ 1 _ rfl; refine pk ?_; refine blk_put (cs := #[.int .i64 0, .slice none 0 0, .slice none 0 0]) ?_ 0 _ rfl; exact pk BK367.out⟩
    have n5_ : Aside0 (Below w.heap.size w (((w18.setCell ⟨gb367, 0, none⟩ (.int .i64 t360)).setCell ⟨gb367, 1, none⟩ (.slice Ao22 t361.length co22)).setCell ⟨gb367, 2, none⟩ (.slice Ao23 t364.length co23))) := ⟨bl HB.out⟩
    (try clear HO363)
    (try clear HO366)
    (try clear BK358)
    (try clear BK359)
    (try clear BK367)
    (try clear HB)
    generalize (((w18.setCell ⟨gb367, 0, none⟩ (.int .i64 t360)).setCell ⟨gb367, 1, none⟩ (.slice Ao22 t361.length co22)).setCell ⟨gb367, 2, none⟩ (.slice Ao23 t364.length co23)) = w24 at n0_ n1_ n2_ n3_ n4_ n5_ ⊢
    have HO363 := n0_
    have HO366 := n1_
    have BK358 := n2_
    have BK359 := n3_
    have BK367 := n4_
    have HB := n5_
    clear n0_ n1_ n2_ n3_ n4_ n5_
    replace HO363 := Aside0.mk (Kd.S_drew HO363.out)
    replace HO366 := Aside0.mk (Kd.R_drew HO366.out)
    replace BK358 := Aside0.mk (blk_drew BK358.out)
    replace BK359 := Aside0.mk (blk_drew BK359.out)
    replace BK367 := Aside0.mk (blk_drew BK367.out)
    replace HB := Aside0.mk (below_drew1 HB.out)
    refine start_ (n := 23) (S := fun w' => w'.cell? ⟨gb358, 0, none⟩ = some (.slice A0_0 l0_0.length c0_0) ∧ w'.cell? ⟨gb358, 1, none⟩ = some (.slice A0_1 l0_1.length c0_1) ∧ w'.cell? ⟨gb367, 0, none⟩ = some (.int .i64 t360) ∧ w'.cell? ⟨gb367, 1, none⟩ = some (.slice Ao22 t361.length co22) ∧ w'.cell? ⟨gb367, 2, none⟩ = some (.slice Ao23 t364.length co23) ∧ w'.cell? ⟨gb359, 0, none⟩ = some (.int .i64 a1_0) ∧ w'.cell? ⟨gb359, 1, none⟩ = some (.slice A1_1 l1_1.length c1_1) ∧ w'.cell? ⟨gb359, 2, none⟩ = some (.slice A1_2 l1_2.length c1_2)) (ds := []) #[false, false, false, false, false, false, false, false, false, false, false, false, false, false, false, false, false, false, false, false, false, false, false] kr rfl rfl ⟨(blk_cell BK358.out 0).trans rfl, (blk_cell BK358.out 1).trans rfl, (blk_cell BK367.out 0).trans rfl, (blk_cell BK367.out 1).trans rfl, (blk_cell BK367.out 2).trans rfl, (blk_cell BK359.out 0).trans rfl, (blk_cell BK359.out 1).trans rfl, (blk_cell BK359.out 2).trans rfl⟩ (fun hHeld => ?_); refine with_tabW lodestarlaw05_PayloadChecks.tab2 lodestarlaw05_PayloadChecks.bits2 (fun HT_ HW_ => ?_)
    generalize w24.drew = w25 at HO363 HO366 BK358 BK359 BK367 HB hHeld ⊢
    refine take_ (i := 0) (N := some 8) (v := ?_) (a' := ?_) #[true, false, false, false, false, false, false, false, false, false, false, false, false, false, false, false, false, false, false, false, false, false, false] rfl rfl (take_ofW HT_.out HW_.out kr) (fun _ _ _ h => h) (Or.inl ⟨by rfl, ?_⟩) hHeld ?_ ?_
    rotate_left
    ·rintro w' ⟨s0, s1, s2, s3, s4, s5, s6, s7⟩
     go_simp
     exact rl
    rotate_left
    ·exact ap
    refine take_ (i := 2) (N := some 10) (v := ?_) (a' := ?_) #[true, false, true, false, false, false, false, false, false, false, false, false, false, false, false, false, false, false, false, false, false, false, false] rfl rfl (take_ofW HT_.out HW_.out kr) (fun _ _ _ h => h) (Or.inl ⟨by rfl, ?_⟩) hHeld ?_ ?_
    rotate_left
    ·rintro w' ⟨s0, s1, s2, s3, s4, s5, s6, s7⟩
     go_simp
     exact rl
    rotate_left
    ·exact ap
    refine one_ (i := 1) (N := some 9) #[true, true, true, false, false, false, false, false, false, false, false, false, false, false, false, false, false, false, false, false, false, false, false] rfl rfl (one_of HT_.out kr) (by decide) (fun K hK => ?_)
    refine goes_ Tryd.func22 kr rfl #[.agg #[.slice A0_0 l0_0.length c0_0, .slice A0_1 l0_1.length c0_1]] (by rfl) rfl rfl ga ?_
    with_reducible refine (payload_CheckSchema.calls k _ _ l0_0 _ _ l0_1 t368 _ ?side1 ?side2 ?side3 ?side4 A4.out).mono ?_
    (case side1 => repeat (first | exact (Kd.C_below HR0_0.out HB.out) | (with_reducible refine Kd.C_alloc ?_ _) | (with_reducible refine Kd.C_drewN ?_ _) | (with_reducible refine Kd.C_drew ?_)))
    (case side2 => exact HC0_0.out)
    (case side3 => repeat (first | exact (Kd.C_below HR0_1.out HB.out) | (with_reducible refine Kd.C_alloc ?_ _) | (with_reducible refine Kd.C_drewN ?_ _) | (with_reducible refine Kd.C_drew ?_)))
    (case side4 => exact HC0_1.out)
    rintro e w26 ⟨rfl, hb⟩
    refine ⟨_, rfl, ?_⟩
    replace HO363 := Aside0.mk (Kd.S_below (pS HO363.out) hb)
    replace HO366 := Aside0.mk (Kd.R_below (pR HO366.out) hb)
    replace BK358 := Aside0.mk (blk_below (pk BK358.out) hb)
    replace BK359 := Aside0.mk (blk_below (pk BK359.out) hb)
    replace BK367 := Aside0.mk (blk_below (pk BK367.out) hb)
    replace HB := Aside0.mk (below_step (bl HB.out) hb)
    (try clear hb)
    (try clear hb2)
    (try clear hk)
    (try clear hi)
    refine hK.out _ _ ⟨(blk_cell BK358.out 0).trans rfl, (blk_cell BK358.out 1).trans rfl, (blk_cell BK367.out 0).trans rfl, (blk_cell BK367.out 1).trans rfl, (blk_cell BK367.out 2).trans rfl, (blk_cell BK359.out 0).trans rfl, (blk_cell BK359.out 1).trans rfl, (blk_cell BK359.out 2).trans rfl⟩ (fun hHeld => ?_)
    clear hK K
    refine norm_ (a' := ?_) ?_ ?_
    rotate_left
    ·show Act.put _ (some 9) _ = _
     exact ap
    refine one_ (i := 3) (N := some 11) #[true, true, true, true, false, false, false, false, false, false, false, false, false, false, false, false, false, false, false, false, false, false, false] rfl rfl (one_of HT_.out kr) (by decide) (fun K hK => ?_)
    refine goes_ Tryd.func23 kr rfl #[.agg #[.slice A0_0 l0_0.length c0_0, .slice A0_1 l0_1.length c0_1]] (by rfl) rfl rfl ga ?_
    with_reducible refine (lodestarref05_CheckSchema.calls k _ _ l0_0 _ _ l0_1 t369 _ ?side1 ?side2 ?side3 ?side4 A5.out).mono ?_
    (case side1 => repeat (first | exact (Kd.C_below HR0_0.out HB.out) | (with_reducible refine Kd.C_alloc ?_ _) | (with_reducible refine Kd.C_drewN ?_ _) | (with_reducible refine Kd.C_drew ?_)))
    (case side2 => exact HC0_0.out)
    (case side3 => repeat (first | exact (Kd.C_below HR0_1.out HB.out) | (with_reducible refine Kd.C_alloc ?_ _) | (with_reducible refine Kd.C_drewN ?_ _) | (with_reducible refine Kd.C_drew ?_)))
    (case side4 => exact HC0_1.out)
    rintro e w27 ⟨rfl, hb⟩
    refine ⟨_, rfl, ?_⟩
    replace HO363 := Aside0.mk (Kd.S_below (pS HO363.out) hb)
    replace HO366 := Aside0.mk (Kd.R_below (pR HO366.out) hb)
    replace BK358 := Aside0.mk (blk_below (pk BK358.out) hb)
    replace BK359 := Aside0.mk (blk_below (pk BK359.out) hb)
    replace BK367 := Aside0.mk (blk_below (pk BK367.out) hb)
    replace HB := Aside0.mk (below_step (bl HB.out) hb)
    (try clear hb)
    (try clear hb2)
    (try clear hk)
    (try clear hi)
    refine hK.out _ _ ⟨(blk_cell BK358.out 0).trans rfl, (blk_cell BK358.out 1).trans rfl, (blk_cell BK367.out 0).trans rfl, (blk_cell BK367.out 1).trans rfl, (blk_cell BK367.out 2).trans rfl, (blk_cell BK359.out 0).trans rfl, (blk_cell BK359.out 1).trans rfl, (blk_cell BK359.out 2).trans rfl⟩ (fun hHeld => ?_)
    clear hK K
    refine norm_ (a' := ?_) ?_ ?_
    rotate_left
    ·show Act.put _ (some 11) _ = _
     exact ap
    refine pure_ (i := 4) (N := some 12) (v := ?_) (a' := ?_) #[true, true, true, true, true, false, false, false, false, false, false, false, false, false, false, false, false, false, false, false, false, false, false] rfl rfl (any_of HT_.out kr) (fun _ _ _ h => h) (Or.inl ⟨by rfl, ?_⟩) ?_ ?_
    rotate_left
    ·exact wl
    rotate_left
    ·exact ap
    refine pure_ (i := 5) (N := some 13) (v := ?_) (a' := ?_) #[true, true, true, true, true, true, false, false, false, false, false, false, false, false, false, false, false, false, false, false, false, false, false] rfl rfl (any_of HT_.out kr) (fun _ _ _ h => h) (Or.inl ⟨by rfl, ?_⟩) ?_ ?_
    rotate_left
    ·exact wl
    rotate_left
    ·exact ap
    refine take_ (i := 6) (N := some 14) (v := ?_) (a' := ?_) #[true, true, true, true, true, true, true, false, false, false, false, false, false, false, false, false, false, false, false, false, false, false, false] rfl rfl (take_ofW HT_.out HW_.out kr) (fun _ _ _ h => h) (Or.inl ⟨by rfl, ?_⟩) hHeld ?_ ?_
    rotate_left
    ·rintro w' ⟨s0, s1, s2, s3, s4, s5, s6, s7⟩
     go_simp
     exact rl
    rotate_left
    ·exact ap
    refine take_ (i := 7) (N := some 15) (v := ?_) (a' := ?_) #[true, true, true, true, true, true, true, true, false, false, false, false, false, false, false, false, false, false, false, false, false, false, false] rfl rfl (take_ofW HT_.out HW_.out kr) (fun _ _ _ h => h) (Or.inl ⟨by rfl, ?_⟩) hHeld ?_ ?_
    rotate_left
    ·rintro w' ⟨s0, s1, s2, s3, s4, s5, s6, s7⟩
     go_simp
     exact rl
    rotate_left
    ·exact ap
    refine take_ (i := 9) (N := some 17) (v := ?_) (a' := ?_) #[true, true, true, true, true, true, true, true, false, true, false, false, false, false, false, false, false, false, false, false, false, false, false] rfl rfl (take_ofW HT_.out HW_.out kr) (fun _ _ _ h => h) (Or.inl ⟨by rfl, ?_⟩) hHeld ?_ ?_
    rotate_left
    ·rintro w' ⟨s0, s1, s2, s3, s4, s5, s6, s7⟩
     go_simp
     exact rl
    rotate_left
    ·exact ap
    refine take_ (i := 10) (N := some 18) (v := ?_) (a' := ?_) #[true, true, true, true, true, true, true, true, false, true, true, false, false, false, false, false, false, false, false, false, false, false, false] rfl rfl (take_ofW HT_.out HW_.out kr) (fun _ _ _ h => h) (Or.inl ⟨by rfl, ?_⟩) hHeld ?_ ?_
    rotate_left
    ·rintro w' ⟨s0, s1, s2, s3, s4, s5, s6, s7⟩
     go_simp
     exact rl
    rotate_left
    ·exact ap
    refine one_ (i := 8) (N := some 16) #[true, true, true, true, true, true, true, true, true, true, true, false, false, false, false, false, false, false, false, false, false, false, false] rfl rfl (one_of HT_.out kr) (by decide) (fun K hK => ?_)
    refine goes_ Tryd.func24 kr rfl #[.agg #[.slice A0_0 l0_0.length c0_0, .slice A0_1 l0_1.length c0_1], .agg #[.int .i64 t360, .slice Ao22 t361.length co22, .slice Ao23 t364.length co23]] (by rfl) rfl rfl ga ?_
    with_reducible refine (payload_Check.calls k _ _ l0_0 _ _ l0_1 t360 _ _ t361 _ _ t364 t370 _ ?side1 ?side2 ?side3 ?side4 ?side5 ?side6 ?side7 ?side8 ?side9 A7.out).mono ?_
    (case side1 => repeat (first | exact (Kd.C_below HR0_0.out HB.out) | (with_reducible refine Kd.C_alloc ?_ _) | (with_reducible refine Kd.C_drewN ?_ _) | (with_reducible refine Kd.C_drew ?_)))
    (case side2 => exact HC0_0.out)
    (case side3 => repeat (first | exact (Kd.C_below HR0_1.out HB.out) | (with_reducible refine Kd.C_alloc ?_ _) | (with_reducible refine Kd.C_drewN ?_ _) | (with_reducible refine Kd.C_drew ?_)))
    (case side4 => exact HC0_1.out)
    (case side5 => repeat (first | exact (Kd.S_reads' HO363.out).2.2 | (with_reducible refine Kd.C_alloc ?_ _) | (with_reducible refine Kd.C_drewN ?_ _) | (with_reducible refine Kd.C_drew ?_)))
    (case side6 => exact (Kd.S_reads' HO363.out).2.1)
    (case side7 => repeat (first | exact (Kd.R_reads' HO366.out).2.2 | (with_reducible refine Kd.C_alloc ?_ _) | (with_reducible refine Kd.C_drewN ?_ _) | (with_reducible refine Kd.C_drew ?_)))
    (case side8 => exact (Kd.R_reads' HO366.out).2.1)
    (case side9 => exact LaidU.below HU.out (bl HB.out))
    rintro e w28 ⟨rfl, hb⟩
    refine ⟨_, rfl, ?_⟩
    replace HO363 := Aside0.mk (Kd.S_below (pS HO363.out) hb)
    replace HO366 := Aside0.mk (Kd.R_below (pR HO366.out) hb)
    replace BK358 := Aside0.mk (blk_below (pk BK358.out) hb)
    replace BK359 := Aside0.mk (blk_below (pk BK359.out) hb)
    replace BK367 := Aside0.mk (blk_below (pk BK367.out) hb)
    replace HB := Aside0.mk (below_step (bl HB.out) hb)
    (try clear hb)
    (try clear hb2)
    (try clear hk)
    (try clear hi)
    refine hK.out _ _ ⟨(blk_cell BK358.out 0).trans rfl, (blk_cell BK358.out 1).trans rfl, (blk_cell BK367.out 0).trans rfl, (blk_cell BK367.out 1).trans rfl, (blk_cell BK367.out 2).trans rfl, (blk_cell BK359.out 0).trans rfl, (blk_cell BK359.out 1).trans rfl, (blk_cell BK359.out 2).trans rfl⟩ (fun hHeld => ?_)
    clear hK K
    refine norm_ (a' := ?_) ?_ ?_
    rotate_left
    ·show Act.put _ (some 16) _ = _
     exact ap
    refine one_ (i := 11) (N := some 19) #[true, true, true, true, true, true, true, true, true, true, true, true, false, false, false, false, false, false, false, false, false, false, false] rfl rfl (one_of HT_.out kr) (by decide) (fun K hK => ?_)
    refine goes_ Tryd.func25 kr rfl #[.agg #[.slice A0_0 l0_0.length c0_0, .slice A0_1 l0_1.length c0_1], .agg #[.int .i64 a1_0, .slice A1_1 l1_1.length c1_1, .slice A1_2 l1_2.length c1_2]] (by rfl) rfl rfl ga ?_
    with_reducible refine (lodestarref05_Check.calls k _ _ l0_0 _ _ l0_1 a1_0 _ _ l1_1 _ _ l1_2 t371 _ ?side1 ?side2 ?side3 ?side4 ?side5 ?side6 ?side7 ?side8 A8.out).mono ?_
    (case side1 => repeat (first | exact (Kd.C_below HR0_0.out HB.out) | (with_reducible refine Kd.C_alloc ?_ _) | (with_reducible refine Kd.C_drewN ?_ _) | (with_reducible refine Kd.C_drew ?_)))
    (case side2 => exact HC0_0.out)
    (case side3 => repeat (first | exact (Kd.C_below HR0_1.out HB.out) | (with_reducible refine Kd.C_alloc ?_ _) | (with_reducible refine Kd.C_drewN ?_ _) | (with_reducible refine Kd.C_drew ?_)))
    (case side4 => exact HC0_1.out)
    (case side5 => repeat (first | exact (Kd.C_below HR1_1.out HB.out) | (with_reducible refine Kd.C_alloc ?_ _) | (with_reducible refine Kd.C_drewN ?_ _) | (with_reducible refine Kd.C_drew ?_)))
    (case side6 => exact HC1_1.out)
    (case side7 => repeat (first | exact (Kd.C_below HR1_2.out HB.out) | (with_reducible refine Kd.C_alloc ?_ _) | (with_reducible refine Kd.C_drewN ?_ _) | (with_reducible refine Kd.C_drew ?_)))
    (case side8 => exact HC1_2.out)
    rintro e w29 ⟨rfl, hb⟩
    refine ⟨_, rfl, ?_⟩
    replace HO363 := Aside0.mk (Kd.S_below (pS HO363.out) hb)
    replace HO366 := Aside0.mk (Kd.R_below (pR HO366.out) hb)
    replace BK358 := Aside0.mk (blk_below (pk BK358.out) hb)
    replace BK359 := Aside0.mk (blk_below (pk BK359.out) hb)
    replace BK367 := Aside0.mk (blk_below (pk BK367.out) hb)
    replace HB := Aside0.mk (below_step (bl HB.out) hb)
    (try clear hb)
    (try clear hb2)
    (try clear hk)
    (try clear hi)
    refine hK.out _ _ ⟨(blk_cell BK358.out 0).trans rfl, (blk_cell BK358.out 1).trans rfl, (blk_cell BK367.out 0).trans rfl, (blk_cell BK367.out 1).trans rfl, (blk_cell BK367.out 2).trans rfl, (blk_cell BK359.out 0).trans rfl, (blk_cell BK359.out 1).trans rfl, (blk_cell BK359.out 2).trans rfl⟩ (fun hHeld => ?_)
    clear hK K
    refine norm_ (a' := ?_) ?_ ?_
    rotate_left
    ·show Act.put _ (some 19) _ = _
     exact ap
    refine pure_ (i := 12) (N := some 20) (v := ?_) (a' := ?_) #[true, true, true, true, true, true, true, true, true, true, true, true, true, false, false, false, false, false, false, false, false, false, false] rfl rfl (any_of HT_.out kr) (fun _ _ _ h => h) (Or.inl ⟨by rfl, ?_⟩) ?_ ?_
    rotate_left
    ·exact wl
    rotate_left
    ·exact ap
    refine pure_ (i := 13) (N := some 21) (v := ?_) (a' := ?_) #[true, true, true, true, true, true, true, true, true, true, true, true, true, true, false, false, false, false, false, false, false, false, false] rfl rfl (any_of HT_.out kr) (fun _ _ _ h => h) (Or.inl ⟨by rfl, ?_⟩) ?_ ?_
    rotate_left
    ·exact wl
    rotate_left
    ·exact ap
    refine pure_ (i := 14) (N := some 22) (v := ?_) (a' := ?_) #[true, true, true, true, true, true, true, true, true, true, true, true, true, true, true, false, false, false, false, false, false, false, false] rfl rfl (any_of HT_.out kr) (fun _ _ _ h => h) (Or.inl ⟨by rfl, ?_⟩) ?_ ?_
    rotate_left
    ·exact wl
    rotate_left
    ·exact ap
    refine take_ (i := 15) (N := some 23) (v := ?_) (a' := ?_) #[true, true, true, true, true, true, true, true, true, true, true, true, true, true, true, true, false, false, false, false, false, false, false] rfl rfl (take_ofW HT_.out HW_.out kr) (fun _ _ _ h => h) (Or.inl ⟨by rfl, ?_⟩) hHeld ?_ ?_
    rotate_left
    ·rintro w' ⟨s0, s1, s2, s3, s4, s5, s6, s7⟩
     go_simp
     exact rl
    rotate_left
    ·exact ap
    refine take_ (i := 16) (N := some 24) (v := ?_) (a' := ?_) #[true, true, true, true, true, true, true, true, true, true, true, true, true, true, true, true, true, false, false, false, false, false, false] rfl rfl (take_ofW HT_.out HW_.out kr) (fun _ _ _ h => h) (Or.inl ⟨by rfl, ?_⟩) hHeld ?_ ?_
    rotate_left
    ·rintro w' ⟨s0, s1, s2, s3, s4, s5, s6, s7⟩
     go_simp
     exact rl
    rotate_left
    ·exact ap
    refine one_ (i := 17) (N := some 25) #[true, true, true, true, true, true, true, true, true, true, true, true, true, true, true, true, true, true, false, false, false, false, false] rfl rfl (one_of HT_.out kr) (by decide) (fun K hK => ?_)
    refine goes_ Tryd.func10 kr rfl #[.agg #[.int .i64 t360, .slice Ao22 t361.length co22, .slice Ao23 t364.length co23], .agg #[.int .i64 a1_0, .slice A1_1 l1_1.length c1_1, .slice A1_2 l1_2.length c1_2]] (by rfl) rfl rfl ga ?_
    with_reducible refine (lodestarref05_Same.calls k t360 _ _ t361 _ _ t364 a1_0 _ _ l1_1 _ _ l1_2 true _ ?side1 ?side2 ?side3 ?side4 ?side5 ?side6 ?side7 ?side8 A10.out).mono ?_
    (case side1 => repeat (first | exact (Kd.S_reads' HO363.out).2.2 | (with_reducible refine Kd.C_alloc ?_ _) | (with_reducible refine Kd.C_drewN ?_ _) | (with_reducible refine Kd.C_drew ?_)))
    (case side2 => exact (Kd.S_reads' HO363.out).2.1)
    (case side3 => repeat (first | exact (Kd.R_reads' HO366.out).2.2 | (with_reducible refine Kd.C_alloc ?_ _) | (with_reducible refine Kd.C_drewN ?_ _) | (with_reducible refine Kd.C_drew ?_)))
    (case side4 => exact (Kd.R_reads' HO366.out).2.1)
    (case side5 => repeat (first | exact (Kd.C_below HR1_1.out HB.out) | (with_reducible refine Kd.C_alloc ?_ _) | (with_reducible refine Kd.C_drewN ?_ _) | (with_reducible refine Kd.C_drew ?_)))
    (case side6 => exact HC1_1.out)
    (case side7 => repeat (first | exact (Kd.C_below HR1_2.out HB.out) | (with_reducible refine Kd.C_alloc ?_ _) | (with_reducible refine Kd.C_drewN ?_ _) | (with_reducible refine Kd.C_drew ?_)))
    (case side8 => exact HC1_2.out)
    rintro e w30 ⟨rfl, hb⟩
    refine ⟨_, rfl, ?_⟩
    replace HO363 := Aside0.mk (Kd.S_below (pS HO363.out) hb)
    replace HO366 := Aside0.mk (Kd.R_below (pR HO366.out) hb)
    replace BK358 := Aside0.mk (blk_below (pk BK358.out) hb)
    replace BK359 := Aside0.mk (blk_below (pk BK359.out) hb)
    replace BK367 := Aside0.mk (blk_below (pk BK367.out) hb)
    replace HB := Aside0.mk (below_step (bl HB.out) hb)
    (try clear hb)
    (try clear hb2)
    (try clear hk)
    (try clear hi)
    refine hK.out _ _ ⟨(blk_cell BK358.out 0).trans rfl, (blk_cell BK358.out 1).trans rfl, (blk_cell BK367.out 0).trans rfl, (blk_cell BK367.out 1).trans rfl, (blk_cell BK367.out 2).trans rfl, (blk_cell BK359.out 0).trans rfl, (blk_cell BK359.out 1).trans rfl, (blk_cell BK359.out 2).trans rfl⟩ (fun hHeld => ?_)
    clear hK K
    refine norm_ (a' := ?_) ?_ ?_
    rotate_left
    ·show Act.put _ (some 25) _ = _
     exact ap
    refine pure_ (i := 18) (N := some 26) (v := ?_) (a' := ?_) #[true, true, true, true, true, true, true, true, true, true, true, true, true, true, true, true, true, true, true, false, false, false, false] rfl rfl (any_of HT_.out kr) (fun _ _ _ h => h) (Or.inl ⟨by rfl, ?_⟩) ?_ ?_
    rotate_left
    ·exact wl
    rotate_left
    ·exact ap
    refine pure_ (i := 19) (N := some 27) (v := ?_) (a' := ?_) #[true, true, true, true, true, true, true, true, true, true, true, true, true, true, true, true, true, true, true, true, false, false, false] rfl rfl (any_of HT_.out kr) (fun _ _ _ h => h) (Or.inl ⟨by rfl, ?_⟩) ?_ ?_
    rotate_left
    ·exact wl
    rotate_left
    ·exact ap
    refine one_ (i := 20) (N := some 28) #[true, true, true, true, true, true, true, true, true, true, true, true, true, true, true, true, true, true, true, true, true, false, false] rfl rfl (one_of HT_.out kr) (by decide) (fun K hK => ?_)
    refine goes_ Tryd.func12 kr rfl #[] (by rfl) rfl rfl ga ?_
    with_reducible refine (lodestarlaw05_awake.calls k  t373 _ ?side1 A12.out).mono ?_
    (case side1 => exact LaidU.below HU.out (bl HB.out))
    rintro e w31 ⟨rfl, hb⟩
    refine ⟨_, rfl, ?_⟩
    replace HO363 := Aside0.mk (Kd.S_below (pS HO363.out) hb)
    replace HO366 := Aside0.mk (Kd.R_below (pR HO366.out) hb)
    replace BK358 := Aside0.mk (blk_below (pk BK358.out) hb)
    replace BK359 := Aside0.mk (blk_below (pk BK359.out) hb)
    replace BK367 := Aside0.mk (blk_below (pk BK367.out) hb)
    replace HB := Aside0.mk (below_step (bl HB.out) hb)
    (try clear hb)
    (try clear hb2)
    (try clear hk)
    (try clear hi)
    refine hK.out _ _ ⟨(blk_cell BK358.out 0).trans rfl, (blk_cell BK358.out 1).trans rfl, (blk_cell BK367.out 0).trans rfl, (blk_cell BK367.out 1).trans rfl, (blk_cell BK367.out 2).trans rfl, (blk_cell BK359.out 0).trans rfl, (blk_cell BK359.out 1).trans rfl, (blk_cell BK359.out 2).trans rfl⟩ (fun hHeld => ?_)
    clear hK K
    refine norm_ (a' := ?_) ?_ ?_
    rotate_left
    ·show Act.put _ (some 28) _ = _
     exact ap
    refine pure_ (i := 21) (N := some 29) (v := ?_) (a' := ?_) #[true, true, true, true, true, true, true, true, true, true, true, true, true, true, true, true, true, true, true, true, true, true, false] rfl rfl (any_of HT_.out kr) (fun _ _ _ h => h) (Or.inl ⟨by rfl, ?_⟩) ?_ ?_
    rotate_left
    ·exact wl
    rotate_left
    ·exact ap
    refine pure_ (i := 22) (N := some 4) (v := ?_) (a' := ?_) #[true, true, true, true, true, true, true, true, true, true, true, true, true, true, true, true, true, true, true, true, true, true, true] rfl rfl (any_of HT_.out kr) (fun _ _ _ h => h) (Or.inl ⟨by rfl, ?_⟩) ?_ ?_
    rotate_left
    ·exact wl
    rotate_left
    ·exact ap
    refine done_ (done_of HT_.out kr) ?_
    try go_wp2
    go_ret
    exact ⟨er1, bl HB.out⟩
   ·replace c11 := Bool.eq_false_iff.mpr c11
    subst c11
    have H1 : (some false) = some true := by rw [if_neg (show ¬ (false = true) by decide)] at H; exact H
    clear H
    have H := H1
    clear H1
    exact absurd (Option.some.inj H) (by simp)
  ·rw [if_neg c9] at H
   have c9b0 : (t370 == t371) = false := beq_eq_false_iff_ne.mpr c9
   have c9b1 : (t370 != t371) = true := bne_iff_ne.mpr c9
   exact absurd (Option.some.inj H) (by simp)
 ·rw [if_neg c6] at H
  have c6b0 : (t368 == t369) = false := beq_eq_false_iff_ne.mpr c6
  have c6b1 : (t368 != t369) = true := bne_iff_ne.mpr c6
  exact absurd (Option.some.inj H) (by simp)

end Go.Proofs.YtbeljekpknpadaaDoor.PPayU
