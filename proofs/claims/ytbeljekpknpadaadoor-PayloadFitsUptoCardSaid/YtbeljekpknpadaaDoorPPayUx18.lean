-- Written by a program of this session on top of the print: some functions by hand.
import Derived.Test.YtbeljekpknpadaaDoorPPayUx0
import Derived.Test.YtbeljekpknpadaaDoorPPayUx12
import Derived.Test.YtbeljekpknpadaaDoorPPayUx15
import Derived.Test.YtbeljekpknpadaaDoorPPayUx16
import Derived.Test.YtbeljekpknpadaaDoorPPayUx17
namespace Go.Proofs.YtbeljekpknpadaaDoor.PPayU
open Go.RowKit Go.Proofs.YtbeljekpknpadaaDoorW.PrintWords Go.Proofs.YtbeljekpknpadaaDoorW.PrintLast Go.Proofs.YtbeljekpknpadaaDoorW.PrintMore
attribute [local go_sem] max2_int min2_int max_two min_two max_three min_three max_four min_four   -- for this text's walks alone
set_option linter.unusedVariables false
set_option linter.unusedSimpArgs false

/-! ### lodestarref05_Check: function 25 -/
mutual
def lodestarref05_Check.l0 : Nat → Int → List (S89) → List (S93) → Int → List (S59) → List (S61) → Option (Int)
 | 0, _, _, _, _, _, _ => none
 | k + 1, x5, x339000, x339001, x340000, x340001, x340002 => if x5 < (x340001.length : Int) then (if 0 ≤ x5 then ((lodestarref05_Spec.f k x339000 x339001 ((rd_T59 x340001 x5).f0)).bind fun bt343 => (if bt343.2.2.2 = true then (if (((rd_T59 x340001 x5).f1).length : Int) = bt343.2.1 then ((lodestarref05_Range.f k ((rd_T59 x340001 x5).f1)).bind fun t350 => (if t350 = true then (if bt343.2.2.1 = 3 then ((lodestarref05_Zero.f k ((rd_T59 x340001 x5).f1)).bind fun t352 => (lodestarref05_Check.j1 k x5 t352 x339000 x339001 x340000 x340001 x340002)) else (lodestarref05_Check.j1 k x5 false x339000 x339001 x340000 x340001 x340002)) else (lodestarref05_Check.j1 k x5 true x339000 x339001 x340000 x340001 x340002))) else (lodestarref05_Check.j1 k x5 true x339000 x339001 x340000 x340001 x340002)) else (lodestarref05_Check.j1 k x5 true x339000 x339001 x340000 x340001 x340002))) else (none)) else (lodestarref05_Check.l1 k 0 x339000 x339001 x340000 x340001 x340002)
def lodestarref05_Check.j1 : Nat → Int → Bool → List (S89) → List (S93) → Int → List (S59) → List (S61) → Option (Int)
 | 0, _, _, _, _, _, _, _ => none
 | k + 1, x5, x71, x339000, x339001, x340000, x340001, x340002 => if x71 = true then (some 60) else (lodestarref05_Check.l0 k (wrap64 (x5 + 1)) x339000 x339001 x340000 x340001 x340002)
def lodestarref05_Check.l1 : Nat → Int → List (S89) → List (S93) → Int → List (S59) → List (S61) → Option (Int)
 | 0, _, _, _, _, _, _ => none
 | k + 1, x8, x339000, x339001, x340000, x340001, x340002 => if x8 < (x340002.length : Int) then (if 0 ≤ x8 then ((lodestarref05_Kind.f k x339000 x339001 ((rd_T61 x340002 x8).f0)).bind fun t354 => (if t354 = 0 then (lodestarref05_Check.j3 k x8 true x339000 x339001 x340000 x340001 x340002) else (if ((rd_T61 x340002 x8).f1.f0) = t354 then ((lodestarref05_Value.f k ((rd_T61 x340002 x8).f1.f0) ((rd_T61 x340002 x8).f1.f1) ((rd_T61 x340002 x8).f1.f2)).bind fun t357 => (lodestarref05_Check.j3 k x8 (!t357) x339000 x339001 x340000 x340001 x340002)) else (lodestarref05_Check.j3 k x8 true x339000 x339001 x340000 x340001 x340002)))) else (none)) else (some 0)
def lodestarref05_Check.j3 : Nat → Int → Bool → List (S89) → List (S93) → Int → List (S59) → List (S61) → Option (Int)
 | 0, _, _, _, _, _, _, _ => none
 | k + 1, x8, x109, x339000, x339001, x340000, x340001, x340002 => if x109 = true then (some 51) else (lodestarref05_Check.l1 k (wrap64 (x8 + 1)) x339000 x339001 x340000 x340001 x340002)
end
def lodestarref05_Check.f (k : Nat) (l0_0 : List (S89)) (l0_1 : List (S93)) (a1_0 : Int) (l1_1 : List (S59)) (l1_2 : List (S61)) : Option (Int) := (lodestarref05_CheckSchema.f k l0_0 l0_1).bind fun t340 => (if t340 = 0 then ((lodestarref05_shape.f k a1_0 l1_1 l1_2).bind fun t341 => (if t341 = true then (lodestarref05_Check.l0 k 0 l0_0 l0_1 a1_0 l1_1 l1_2) else (some 120))) else (some 50))
theorem lodestarref05_Check.mono_l : ∀ k, (∀ y0 y1 y2 y3 y4 y5, LeO (lodestarref05_Check.l0 k y0 y1 y2 y3 y4 y5) (lodestarref05_Check.l0 (k + 1) y0 y1 y2 y3 y4 y5)) ∧ (∀ y0 y1 y2 y3 y4 y5 y6, LeO (lodestarref05_Check.j1 k y0 y1 y2 y3 y4 y5 y6) (lodestarref05_Check.j1 (k + 1) y0 y1 y2 y3 y4 y5 y6)) ∧ (∀ y0 y1 y2 y3 y4 y5, LeO (lodestarref05_Check.l1 k y0 y1 y2 y3 y4 y5) (lodestarref05_Check.l1 (k + 1) y0 y1 y2 y3 y4 y5)) ∧ (∀ y0 y1 y2 y3 y4 y5 y6, LeO (lodestarref05_Check.j3 k y0 y1 y2 y3 y4 y5 y6) (lodestarref05_Check.j3 (k + 1) y0 y1 y2 y3 y4 y5 y6))
 | 0 => ⟨fun _ _ _ _ _ _ r h => by simp [lodestarref05_Check.l0] at h, fun _ _ _ _ _ _ _ r h => by simp [lodestarref05_Check.j1] at h, fun _ _ _ _ _ _ r h => by simp [lodestarref05_Check.l1] at h, fun _ _ _ _ _ _ _ r h => by simp [lodestarref05_Check.j3] at h⟩
 | k + 1 => by
  obtain ⟨ih0, ih1, ih2, ih3⟩ := lodestarref05_Check.mono_l k
  refine ⟨?_, ?_, ?_, ?_⟩
  all_goals intros
  all_goals first | unfold lodestarref05_Check.l0 | unfold lodestarref05_Check.j1 | unfold lodestarref05_Check.l1 | unfold lodestarref05_Check.j3
  all_goals repeat' first
   | (with_reducible exact ih0 _ _ _ _ _ _)
   | (with_reducible exact ih1 _ _ _ _ _ _ _)
   | (with_reducible exact ih2 _ _ _ _ _ _)
   | (with_reducible exact ih3 _ _ _ _ _ _ _)
   | (with_reducible exact lodestarref05_CheckSchema.mono _ _ _)
   | (with_reducible exact lodestarref05_Kind.mono _ _ _ _)
   | (with_reducible exact lodestarref05_Range.mono _ _)
   | (with_reducible exact lodestarref05_Spec.mono _ _ _ _)
   | (with_reducible exact lodestarref05_Value.mono _ _ _ _)
   | (with_reducible exact lodestarref05_Zero.mono _ _)
   | (with_reducible exact lodestarref05_shape.mono _ _ _ _)
   | (with_reducible exact LeO.refl _)
   | (with_reducible exact LeO.none _)
   | (with_reducible refine LeO.ite ?_ ?_)
   | (with_reducible refine LeO.bind ?_ (fun _ => ?_))
   | exact ih0 _ _ _ _ _ _
   | exact ih1 _ _ _ _ _ _ _
   | exact ih2 _ _ _ _ _ _
   | exact ih3 _ _ _ _ _ _ _
   | exact lodestarref05_CheckSchema.mono _ _ _
   | exact lodestarref05_Kind.mono _ _ _ _
   | exact lodestarref05_Range.mono _ _
   | exact lodestarref05_Spec.mono _ _ _ _
   | exact lodestarref05_Value.mono _ _ _ _
   | exact lodestarref05_Zero.mono _ _
   | exact lodestarref05_shape.mono _ _ _ _
   | exact LeO.none _
   | refine LeO.ite ?_ ?_
   | refine LeO.bind ?_ (fun _ => ?_)
theorem lodestarref05_Check.mono : ∀ a0 a1 a2 a3 a4 k, LeO (lodestarref05_Check.f k a0 a1 a2 a3 a4) (lodestarref05_Check.f (k + 1) a0 a1 a2 a3 a4) := by
 intro a0 a1 a2 a3 a4 k
 obtain ⟨ih0, ih1, ih2, ih3⟩ := lodestarref05_Check.mono_l k
 unfold lodestarref05_Check.f
 repeat' first
   | (with_reducible exact ih0 _ _ _ _ _ _)
   | (with_reducible exact ih1 _ _ _ _ _ _ _)
   | (with_reducible exact ih2 _ _ _ _ _ _)
   | (with_reducible exact ih3 _ _ _ _ _ _ _)
   | (with_reducible exact lodestarref05_CheckSchema.mono _ _ _)
   | (with_reducible exact lodestarref05_Kind.mono _ _ _ _)
   | (with_reducible exact lodestarref05_Range.mono _ _)
   | (with_reducible exact lodestarref05_Spec.mono _ _ _ _)
   | (with_reducible exact lodestarref05_Value.mono _ _ _ _)
   | (with_reducible exact lodestarref05_Zero.mono _ _)
   | (with_reducible exact lodestarref05_shape.mono _ _ _ _)
   | (with_reducible exact LeO.refl _)
   | (with_reducible exact LeO.none _)
   | (with_reducible refine LeO.ite ?_ ?_)
   | (with_reducible refine LeO.bind ?_ (fun _ => ?_))
   | exact ih0 _ _ _ _ _ _
   | exact ih1 _ _ _ _ _ _ _
   | exact ih2 _ _ _ _ _ _
   | exact ih3 _ _ _ _ _ _ _
   | exact lodestarref05_CheckSchema.mono _ _ _
   | exact lodestarref05_Kind.mono _ _ _ _
   | exact lodestarref05_Range.mono _ _
   | exact lodestarref05_Spec.mono _ _ _ _
   | exact lodestarref05_Value.mono _ _ _ _
   | exact lodestarref05_Zero.mono _ _
   | exact lodestarref05_shape.mono _ _ _ _
   | exact LeO.none _
   | refine LeO.ite ?_ ?_
   | refine LeO.bind ?_ (fun _ => ?_)
def lodestarref05_Check.T8 : Bool × List (List Nat × List Nat) := (true, [([], []), ([], []), ([1], [1]), ([], []), ([2, 3], [2, 3]), ([4], [4]), ([5], [5]), ([0, 6], [0, 6]), ([7], [7]), ([8], [8]), ([8], [8]), ([], []), ([11, 9, 7, 0, 1, 2, 3, 4, 5, 6, 7, 8, 9, 11], [9, 11]), ([10, 12, 0, 1, 2, 3, 4, 5, 6, 7, 8, 9, 10, 11, 12], [10])])
def lodestarref05_Check.B8 : List Nat := [0, 0, 2, 0, 14, 30, 62, 127, 255, 511, 511, 0, 3071, 8191]
theorem lodestarref05_Check.tab8 : rtab .any (opsOf Tryd.f25 8) = lodestarref05_Check.T8 := by kernel_rfl
theorem lodestarref05_Check.bits8 : waitsOk lodestarref05_Check.T8.2 lodestarref05_Check.B8 = true := by kernel_rfl
def lodestarref05_Check.T9 : Bool × List (List Nat × List Nat) := (true, [([], []), ([0], [0]), ([1], [1]), ([2], [2]), ([3, 2], [2, 3]), ([2], [2]), ([4, 5, 2], [2, 4, 5]), ([6, 2], [2, 6]), ([7, 2], [2, 7]), ([8, 2], [2, 8]), ([2], [2]), ([10, 2], [2, 10]), ([9, 11, 2], [2, 9, 11]), ([2, 12], [2, 12]), ([13, 2], [13]), ([14], [14]), ([15, 14], [14, 15]), ([14], [14]), ([16, 17, 14], [14, 16, 17]), ([18, 14], [14, 18]), ([19, 14], [14, 19]), ([20, 14, 14], [14, 20]), ([21, 14], [14, 21]), ([14, 22], [14, 22]), ([23, 21], [23]), ([24], [24]), ([25, 24], [24, 25]), ([26, 24], [24, 26]), ([27, 24, 24], [24, 27]), ([28], [28]), ([29, 28], [28, 29]), ([28], [28]), ([30, 31, 28], [28, 30, 31]), ([32, 28], [28, 32]), ([33, 28], [28, 33]), ([34, 28, 28], [28, 34]), ([28, 35, 24], [24, 28, 35]), ([24, 36], [24, 36])])
def lodestarref05_Check.B9 : List Nat := [0, 1, 3, 7, 15, 7, 63, 127, 255, 511, 7, 1031, 4095, 8191, 16383, 32767, 65535, 32767, 262143, 524287, 1048575, 2097151, 4194303, 8388607, 16777215, 33554431, 67108863, 134217727, 268435455, 536870911, 1073741823, 536870911, 4294967295, 8589934591, 17179869183, 34359738367, 68719476735, 137438953471]
theorem lodestarref05_Check.tab9 : rtab .any (opsOf Tryd.f25 9) = lodestarref05_Check.T9 := by kernel_rfl
theorem lodestarref05_Check.bits9 : waitsOk lodestarref05_Check.T9.2 lodestarref05_Check.B9 = true := by kernel_rfl
def lodestarref05_Check.T14 : Bool × List (List Nat × List Nat) := (true, [([], []), ([], []), ([1], [1]), ([], []), ([2, 3], [2, 3]), ([4], [4]), ([5], [5]), ([0, 6], [0, 6]), ([7, 7, 0, 1, 2, 3, 4, 5, 6, 7], [7])])
def lodestarref05_Check.B14 : List Nat := [0, 0, 2, 0, 14, 30, 62, 127, 255]
theorem lodestarref05_Check.tab14 : rtab .any (opsOf Tryd.f25 14) = lodestarref05_Check.T14 := by kernel_rfl
theorem lodestarref05_Check.bits14 : waitsOk lodestarref05_Check.T14.2 lodestarref05_Check.B14 = true := by kernel_rfl
set_option maxHeartbeats 8000000 in
set_option maxRecDepth 100000 in
theorem lodestarref05_Check.calls (k : Nat) (A0_0 : Option Addr) (c0_0 : Nat) (l0_0 : List (S89)) (A0_1 : Option Addr) (c0_1 : Nat) (l0_1 : List (S93)) (a1_0 : Int) (A1_1 : Option Addr) (c1_1 : Nat) (l1_1 : List (S59)) (A1_2 : Option Addr) (c1_2 : Nat) (l1_2 : List (S61)) (r : Int) (w : World) (hr0_0 : Kd.C k89 w A0_0 l0_0.length l0_0) (hc0_0 : l0_0.length ≤ c0_0) (hr0_1 : Kd.C k93 w A0_1 l0_1.length l0_1) (hc0_1 : l0_1.length ≤ c0_1) (hr1_1 : Kd.C k59 w A1_1 l1_1.length l1_1) (hc1_1 : l1_1.length ≤ c1_1) (hr1_2 : Kd.C k61 w A1_2 l1_2.length l1_2) (hc1_2 : l1_2.length ≤ c1_2) (h : lodestarref05_Check.f k l0_0 l0_1 a1_0 l1_1 l1_2 = some r) :
  Calls Tryd.prog 25 #[.agg #[.slice A0_0 l0_0.length c0_0, .slice A0_1 l0_1.length c0_1], .agg #[.int .i64 a1_0, .slice A1_1 l1_1.length c1_1, .slice A1_2 l1_2.length c1_2]] w fun e w' => e = .returned (.int .i64 r) ∧ Below w.heap.size w w' := by
 have hu51 := Tryd.underlying51
 have hu25 := Tryd.underlying25
 have hu89 := Tryd.underlying89
 have hu33 := Tryd.underlying33
 have HR0_0 := Aside0.mk hr0_0
 have HC0_0 := Aside0.mk hc0_0
 clear hr0_0 hc0_0
 have HR0_1 := Aside0.mk hr0_1
 have HC0_1 := Aside0.mk hc0_1
 clear hr0_1 hc0_1
 have HR1_1 := Aside0.mk hr1_1
 have HC1_1 := Aside0.mk hc1_1
 clear hr1_1 hc1_1
 have HR1_2 := Aside0.mk hr1_2
 have HC1_2 := Aside0.mk hc1_2
 clear hr1_2 hc1_2
 have HB := Aside0.mk (Below.refl w.heap.size w)
 have H : ((lodestarref05_CheckSchema.f k l0_0 l0_1).bind fun t340 => (if t340 = 0 then ((lodestarref05_shape.f k a1_0 l1_1 l1_2).bind fun t341 => (if t341 = true then (lodestarref05_Check.l0 k 0 l0_0 l0_1 a1_0 l1_1 l1_2) else (some 120))) else (some 50))) = some r := h
 clear h
 replace H := Option.bind_eq_some_iff.mp H
 obtain ⟨t340, A30, H⟩ := H
 replace H : (if t340 = 0 then ((lodestarref05_shape.f k a1_0 l1_1 l1_2).bind fun t341 => (if t341 = true then (lodestarref05_Check.l0 k 0 l0_0 l0_1 a1_0 l1_1 l1_2) else (some 120))) else (some 50)) = some r := H
 have A3 := Aside0.mk A30
 clear A30
 by_cases c4 : t340 = 0
 ·rw [if_pos c4] at H
  have c4b0 : (t340 == 0) = true := beq_iff_eq.mpr c4
  have c4b1 : (t340 != 0) = false := bne_eq_false_iff_eq.mpr c4
  clear c4
  replace H := Option.bind_eq_some_iff.mp H
  obtain ⟨t341, A50, H⟩ := H
  replace H : (if t341 = true then (lodestarref05_Check.l0 k 0 l0_0 l0_1 a1_0 l1_1 l1_2) else (some 120)) = some r := H
  have A5 := Aside0.mk A50
  clear A50
  by_cases c6 : t341 = true
  ·subst c6
   have H1 : (lodestarref05_Check.l0 k 0 l0_0 l0_1 a1_0 l1_1 l1_2) = some r := by rw [if_pos rfl] at H; exact H
   clear H
   have H := H1
   clear H1
   have H' := Aside0.mk H
   clear H
   go_enter Tryd.func25, Tryd.ntmps25
   go_wp2_with (first | ((with_reducible refine gate_dst (N := 2) rfl ?_); (try (refine gate_guard (by rfl) ?_; dsimp only)); refine box_event ?hg (N := 2) ?hd (cs := #[.slice A0_0 l0_0.length c0_0, .slice A0_1 l0_1.length c0_1]) (t := 51) ?hr ?_; (case hd => rfl); (case hg => rfl); (case hr => first | (go_simp; done) | (go_simp; rfl)); intro gb338 hg w7 hbox hb; have BK338 := Aside0.mk (hbox); have GW338 := Aside0.mk (gs (w := w) hg (bl HB.out)); have GE338 := Aside0.mk (gs (w := w) hg (bl HB.out)); replace HB := Aside0.mk (below_step (bl HB.out) hb); clear hb hbox hg) | ((with_reducible refine gate_dst (N := 3) rfl ?_); (try (refine gate_guard (by rfl) ?_; dsimp only)); refine box_event ?hg (N := 3) ?hd (cs := #[.int .i64 a1_0, .slice A1_1 l1_1.length c1_1, .slice A1_2 l1_2.length c1_2]) (t := 25) ?hr ?_; (case hd => rfl); (case hg => rfl); (case hr => first | (go_simp; done) | (go_simp; rfl)); intro gb339 hg w8 hbox hb; have BK339 := Aside0.mk (hbox); have GW339 := Aside0.mk (gs (w := w) hg (bl HB.out)); have GE339 := Aside0.mk (gs (w := w) hg (bl HB.out)); replace HB := Aside0.mk (below_step (bl HB.out) hb); have NB338_339 := Aside0.mk ((gl (g := gb338) hg (pk BK338.out))); have NB339_338 := Aside0.mk ((gm (g := gb338) hg (pk BK338.out))); replace BK338 := Aside0.mk (blk_below (pk BK338.out) hb); clear hb hbox hg; have hnb9 := NB338_339.out; have hnc9 := NB339_338.out; obtain ⟨hcz10_0, hcz10_1, hfz10_0, hfz10_1⟩ := cz2 BK338.out) | ((with_reducible refine gate_callee (f := 23) rfl ?_); refine goesL_ (some 11) rfl rfl Tryd.func23 kr rfl #[.agg #[.slice A0_0 l0_0.length c0_0, .slice A0_1 l0_1.length c0_1]] rfl ga ?_; (with_reducible refine (lodestarref05_CheckSchema.calls k _ _ l0_0 _ _ l0_1 t340 _ ?side1 ?side2 ?side3 ?side4 A3.out).mono ?_); (case side1 => repeat (first | exact (Kd.C_below HR0_0.out HB.out) | (with_reducible refine Kd.C_alloc ?_ _) | (with_reducible refine Kd.C_drewN ?_ _) | (with_reducible refine Kd.C_drew ?_))); (case side2 => exact HC0_0.out); (case side3 => repeat (first | exact (Kd.C_below HR0_1.out HB.out) | (with_reducible refine Kd.C_alloc ?_ _) | (with_reducible refine Kd.C_drewN ?_ _) | (with_reducible refine Kd.C_drew ?_))); (case side4 => exact HC0_1.out); rintro e w11 ⟨rfl, hb⟩; refine ⟨_, rfl, ?_⟩; replace BK338 := Aside0.mk (blk_below (pk BK338.out) hb); replace BK339 := Aside0.mk (blk_below (pk BK339.out) hb); replace HB := Aside0.mk (below_step (bl HB.out) hb); (try clear hb); (try clear hb2); (try clear hk); (try clear hi); obtain ⟨hcz12_0, hcz12_1, hcz12_2, hfz12_0, hfz12_1, hfz12_2⟩ := cz3 BK339.out) | ((with_reducible refine gate_callee (f := 43) rfl ?_); refine goesL_ (some 14) rfl rfl Tryd.func43 kr rfl #[.agg #[.int .i64 a1_0, .slice A1_1 l1_1.length c1_1, .slice A1_2 l1_2.length c1_2]] rfl ga ?_; (with_reducible refine (lodestarref05_shape.calls k a1_0 _ _ l1_1 _ _ l1_2 true _ ?side1 ?side2 ?side3 ?side4 A5.out).mono ?_); (case side1 => repeat (first | exact (Kd.C_below HR1_1.out HB.out) | (with_reducible refine Kd.C_alloc ?_ _) | (with_reducible refine Kd.C_drewN ?_ _) | (with_reducible refine Kd.C_drew ?_))); (case side2 => exact HC1_1.out); (case side3 => repeat (first | exact (Kd.C_below HR1_2.out HB.out) | (with_reducible refine Kd.C_alloc ?_ _) | (with_reducible refine Kd.C_drewN ?_ _) | (with_reducible refine Kd.C_drew ?_))); (case side4 => exact HC1_2.out); rintro e w13 ⟨rfl, hb⟩; refine ⟨_, rfl, ?_⟩; replace BK338 := Aside0.mk (blk_below (pk BK338.out) hb); replace BK339 := Aside0.mk (blk_below (pk BK339.out) hb); replace HB := Aside0.mk (below_step (bl HB.out) hb); (try clear hb); (try clear hb2); (try clear hk); (try clear hi)))
   go_loopg [5] k (fun kq v5 w' => ∃ (x5_1 : Int), v5 = .int .i64 x5_1 ∧ Aside0 (lodestarref05_Check.l0 kq x5_1 l0_0 l0_1 a1_0 l1_1 l1_2 = some r) ∧ Aside0 (kq ≤ k) ∧ Aside0 (w'.heap[gb338]? = some (.cells #[(.slice A0_0 l0_0.length c0_0), (.slice A0_1 l0_1.length c0_1)] 51 (0, 0))) ∧ Aside0 (w'.heap[gb339]? = some (.cells #[.int .i64 a1_0, (.slice A1_1 l1_1.length c1_1), (.slice A1_2 l1_2.length c1_2)] 25 (0, 0))) ∧ Aside0 (Below w.heap.size w w'))
   case atStart => exact ⟨(0), hsr, H', ⟨Nat.le_refl _⟩, ⟨pk BK338.out⟩, ⟨pk BK339.out⟩, ⟨bl HB.out⟩⟩
   case round =>
    clear H'
    try clear c1
    try clear c2
    try clear p2
    try clear c4
    try clear c4b0
    try clear c4b1
    try clear c6
    try clear p6
    try clear c9
    try clear hcz12_0 hcz12_1 hcz12_2 hfz12_0 hfz12_1 hfz12_2
    try clear hcz10_0 hcz10_1 hfz10_0 hfz10_1
    obtain ⟨x5_1, rfl, HA, HK1, BK338, BK339, HB⟩ := hrel
    cases gk with
    | zero => exact absurd HA.out (by simp [lodestarref05_Check.l0])
    | succ k1 =>
     have H := HA.out
     clear HA
     simp only [lodestarref05_Check.l0] at H
     by_cases c14 : x5_1 < (l1_1.length : Int)
     ·rw [if_pos c14] at H
      have c14b0 : decide (x5_1 < (l1_1.length : Int)) = true := decide_eq_true c14
      clear c14
      by_cases c15 : 0 ≤ x5_1
      ·rw [if_pos c15] at H
       have c15b0 : decide (0 ≤ x5_1) = true := decide_eq_true c15
       clear c15
       replace H := Option.bind_eq_some_iff.mp H
       obtain ⟨⟨t343, t344, t345, t346⟩, A160, H⟩ := H
       replace H : (if t346 = true then (if (((rd_T59 l1_1 x5_1).f1).length : Int) = t344 then ((lodestarref05_Range.f k1 ((rd_T59 l1_1 x5_1).f1)).bind fun t350 => (if t350 = true then (if t345 = 3 then ((lodestarref05_Zero.f k1 ((rd_T59 l1_1 x5_1).f1)).bind fun t352 => (lodestarref05_Check.j1 k1 x5_1 t352 l0_0 l0_1 a1_0 l1_1 l1_2)) else (lodestarref05_Check.j1 k1 x5_1 false l0_0 l0_1 a1_0 l1_1 l1_2)) else (lodestarref05_Check.j1 k1 x5_1 true l0_0 l0_1 a1_0 l1_1 l1_2))) else (lodestarref05_Check.j1 k1 x5_1 true l0_0 l0_1 a1_0 l1_1 l1_2)) else (lodestarref05_Check.j1 k1 x5_1 true l0_0 l0_1 a1_0 l1_1 l1_2)) = some r := H
       have A16 := Aside0.mk A160
       clear A160
       have HC17 := Aside0.mk H
       clear H
       have hnb18 := NB339_338.out
       have hnc18 := NB338_339.out
       obtain ⟨hcz19_0, hcz19_1, hcz19_2, hfz19_0, hfz19_1, hfz19_2⟩ := cz3 BK339.out
       try go_wp2
       replace BK338 := Aside0.mk (blk_drew BK338.out)
       replace BK339 := Aside0.mk (blk_drew BK339.out)
       replace HB := Aside0.mk (below_drew1 HB.out)
       have p342 : 0 ≤ (x5_1 : Int) := of_decide_eq_true ha
       have q342 : x5_1 < (l1_1.length : Int) := of_decide_eq_true ha
       obtain ⟨ad342, A342_1, c342_1, e342, hx342_0, hx342_1, hl342_1, hi342_1⟩ := at_T59 HR1_1.out x5_1 p342 q342
       have hw342_1 := hx342_1
       have hw342_0 := hx342_0
       cases e342
       replace hx342_0 := (HB.out.cell (World.block_lt_of_cell? w _ hx342_0)).trans hx342_0
       replace hx342_1 := (HB.out.cell (World.block_lt_of_cell? w _ hx342_1)).trans hx342_1
       have HR342_1 := Aside0.mk hi342_1
       have HC342_1 := Aside0.mk hl342_1
       clear hi342_1 hl342_1
       replace p342 := eq_true p342
       replace q342 := eq_true q342
       refine start_ (n := 14) (S := fun w' => w'.cell? ⟨gb338, 0, none⟩ = some (.slice A0_0 l0_0.length c0_0) ∧ w'.cell? ⟨gb338, 1, none⟩ = some (.slice A0_1 l0_1.length c0_1) ∧ w'.cell? ⟨gb339, 0, none⟩ = some (.int .i64 a1_0) ∧ w'.cell? ⟨gb339, 1, none⟩ = some (.slice (some ad342) l1_1.length c1_1) ∧ w'.cell? ⟨gb339, 2, none⟩ = some (.slice A1_2 l1_2.length c1_2) ∧ w'.cell? (ad342.add ((x5_1).toNat * 2)) = some (.string ((rd_T59 l1_1 x5_1).f0)) ∧ w'.cell? ⟨(ad342.add ((x5_1).toNat * 2)).block, (ad342.add ((x5_1).toNat * 2)).off + 1, none⟩ = some (.slice A342_1 ((rd_T59 l1_1 x5_1).f1).length c342_1)) (ds := []) #[false, false, false, false, false, false, false, false, false, false, false, false, false, false] kr rfl rfl ⟨(blk_cell BK338.out 0).trans rfl, (blk_cell BK338.out 1).trans rfl, (blk_cell BK339.out 0).trans rfl, (blk_cell BK339.out 1).trans rfl, (blk_cell BK339.out 2).trans rfl, ((HB.out.cell (World.block_lt_of_cell? w _ hw342_0)).trans hw342_0), ((HB.out.cell (World.block_lt_of_cell? w _ hw342_1)).trans hw342_1)⟩ (fun hHeld => ?_); refine with_tabW lodestarref05_Check.tab8 lodestarref05_Check.bits8 (fun HT_ HW_ => ?_)
       generalize wr.drew = w20 at BK338 BK339 HB HR342_1 hx342_0 hx342_1 hHeld ⊢
       refine pure_ (i := 1) (N := some 25) (v := ?_) (a' := ?_) #[false, true, false, false, false, false, false, false, false, false, false, false, false, false] rfl rfl (any_of HT_.out kr) (fun _ _ _ h => h) (Or.inl ⟨by rfl, ?_⟩) ?_ ?_
       rotate_left
       ·exact wl
       rotate_left
       ·exact ap
       refine pure_ (i := 3) (N := some 27) (v := ?_) (a' := ?_) #[false, true, false, true, false, false, false, false, false, false, false, false, false, false] rfl rfl (any_of HT_.out kr) (fun _ _ _ h => h) (Or.inl ⟨by rfl, ?_⟩) ?_ ?_
       rotate_left
       ·exact wl
       rotate_left
       ·exact ap
       refine take_ (i := 0) (N := some 24) (v := ?_) (a' := ?_) #[true, true, false, true, false, false, false, false, false, false, false, false, false, false] rfl rfl (take_ofW HT_.out HW_.out kr) (fun _ _ _ h => h) (Or.inl ⟨by rfl, ?_⟩) hHeld ?_ ?_
       rotate_left
       ·rintro w' ⟨s0, s1, s2, s3, s4, s5, s6⟩
        go_simp
        exact rl
       rotate_left
       ·exact ap
       refine take_ (i := 2) (N := some 26) (v := ?_) (a' := ?_) #[true, true, true, true, false, false, false, false, false, false, false, false, false, false] rfl rfl (take_ofW HT_.out HW_.out kr) (fun _ _ _ h => h) (Or.inl ⟨by rfl, ?_⟩) hHeld ?_ ?_
       rotate_left
       ·rintro w' ⟨s0, s1, s2, s3, s4, s5, s6⟩
        go_simp
        exact rl
       rotate_left
       ·exact ap
       refine pure_ (i := 4) (N := some 28) (v := ?_) (a' := ?_) #[true, true, true, true, true, false, false, false, false, false, false, false, false, false] rfl rfl (any_of HT_.out kr) (fun _ _ _ h => h) (Or.inl ⟨by rfl, ?_⟩) ?_ ?_
       rotate_left
       ·exact wl
       rotate_left
       ·exact ap
       refine pure_ (i := 5) (N := some 29) (v := ?_) (a' := ?_) #[true, true, true, true, true, true, false, false, false, false, false, false, false, false] rfl rfl (any_of HT_.out kr) (fun _ _ _ h => h) (Or.inl ⟨by rfl, ?_⟩) ?_ ?_
       rotate_left
       ·exact wl
       rotate_left
       ·exact ap
       refine take_ (i := 6) (N := some 30) (v := ?_) (a' := ?_) #[true, true, true, true, true, true, true, false, false, false, false, false, false, false] rfl rfl (take_ofW HT_.out HW_.out kr) (fun _ _ _ h => h) (Or.inl ⟨by rfl, ?_⟩) hHeld ?_ ?_
       rotate_left
       ·rintro w' ⟨s0, s1, s2, s3, s4, s5, s6⟩
        go_simp
        exact rl
       rotate_left
       ·exact ap
       refine join_ (σ := Nat) 2 #[true, true, true, true, true, true, true, true, true, true, true, true, false, false] (fun s_ => [(31, .tuple #[.agg #[.string t343, .int .i64 t344, .int .i64 t345], .bool t346]), (6, .pointer (some ⟨s_, 0, none⟩)), (23, .tuple #[.agg #[.string t343, .int .i64 t344, .int .i64 t345], .bool t346]), (32, .agg #[.string t343, .int .i64 t344, .int .i64 t345]), (33, .bool t346)]) (fun s_ w' => (w'.cell? ⟨gb338, 0, none⟩ = some (.slice A0_0 l0_0.length c0_0) ∧ w'.cell? ⟨gb338, 1, none⟩ = some (.slice A0_1 l0_1.length c0_1) ∧ w'.cell? ⟨gb339, 0, none⟩ = some (.int .i64 a1_0) ∧ w'.cell? ⟨gb339, 1, none⟩ = some (.slice (some ad342) l1_1.length c1_1) ∧ w'.cell? ⟨gb339, 2, none⟩ = some (.slice A1_2 l1_2.length c1_2) ∧ w'.cell? (ad342.add ((x5_1).toNat * 2)) = some (.string ((rd_T59 l1_1 x5_1).f0)) ∧ w'.cell? ⟨(ad342.add ((x5_1).toNat * 2)).block, (ad342.add ((x5_1).toNat * 2)).off + 1, none⟩ = some (.slice A342_1 ((rd_T59 l1_1 x5_1).f1).length c342_1)) ∧ (w'.heap[gb338]? = some (.cells #[.slice A0_0 l0_0.length c0_0, .slice A0_1 l0_1.length c0_1] 51 (0, 0))) ∧ (w'.heap[gb339]? = some (.cells #[.int .i64 a1_0, .slice (some ad342) l1_1.length c1_1, .slice A1_2 l1_2.length c1_2] 25 (0, 0))) ∧ (w'.heap[s_]? = some (.cells #[.string (⟨#[]⟩ : ByteArray), .int .i64 0, .int .i64 0] 89 (0, 0))) ∧ (w.heap.size ≤ s_) ∧ (w.heap.size ≤ s_) ∧ (gb338 ≠ s_) ∧ (s_ ≠ gb338) ∧ (gb339 ≠ s_) ∧ (s_ ≠ gb339) ∧ (Below w.heap.size w w')) ?_ ?_
       rotate_left
       ·intro hCont
        refine two_ (i := 7) (j := 11) (Ni := some 31) (Nj := some 6) #[true, true, true, true, true, true, true, true, false, false, false, false, false, false] #[true, true, true, true, true, true, true, false, false, false, false, true, false, false] rfl rfl rfl rfl (two_of HT_.out kr) (by decide) (by decide) (fun K hK => ?_) (fun K hK => ?_)
        ·skip
         refine goes_ Tryd.func56 kr rfl #[.agg #[.slice A0_0 l0_0.length c0_0, .slice A0_1 l0_1.length c0_1], .string ((rd_T59 l1_1 x5_1).f0)] (by rfl) rfl rfl ga ?_
         with_reducible refine (lodestarref05_Spec.calls k1 _ _ l0_0 _ _ l0_1 ((rd_T59 l1_1 x5_1).f0) t343 t344 t345 t346 _ ?side1 ?side2 ?side3 ?side4 A16.out).mono ?_
         (case side1 => repeat (first | exact (Kd.C_below HR0_0.out HB.out) | (with_reducible refine Kd.C_alloc ?_ _) | (with_reducible refine Kd.C_drewN ?_ _) | (with_reducible refine Kd.C_drew ?_)))
         (case side2 => exact HC0_0.out)
         (case side3 => repeat (first | exact (Kd.C_below HR0_1.out HB.out) | (with_reducible refine Kd.C_alloc ?_ _) | (with_reducible refine Kd.C_drewN ?_ _) | (with_reducible refine Kd.C_drew ?_)))
         (case side4 => exact HC0_1.out)
         rintro e w21 ⟨rfl, hb⟩
         refine ⟨_, rfl, ?_⟩
         replace BK338 := Aside0.mk (blk_below (pk BK338.out) hb)
         replace BK339 := Aside0.mk (blk_below (pk BK339.out) hb)
         replace HB := Aside0.mk (below_step (bl HB.out) hb)
         (try clear hb)
         (try clear hb2)
         (try clear hk)
         (try clear hi)
         refine hK.out _ _ ⟨(blk_cell BK338.out 0).trans rfl, (blk_cell BK338.out 1).trans rfl, (blk_cell BK339.out 0).trans rfl, (blk_cell BK339.out 1).trans rfl, (blk_cell BK339.out 2).trans rfl, ((HB.out.cell (World.block_lt_of_cell? w _ hw342_0)).trans hw342_0), ((HB.out.cell (World.block_lt_of_cell? w _ hw342_1)).trans hw342_1)⟩ (fun hHeld => ?_)
         clear hK K
         refine norm_ (a' := ?_) ?_ ?_
         rotate_left
         ·show Act.put _ (some 31) _ = _
          exact ap
         refine pure_ (i := 8) (N := some 23) (v := ?_) (a' := ?_) #[true, true, true, true, true, true, true, true, true, false, false, false, false, false] rfl rfl (any_of HT_.out kr) (fun _ _ _ h => h) (Or.inl ⟨by rfl, ?_⟩) ?_ ?_
         rotate_left
         ·exact wl
         rotate_left
         ·exact ap
         refine pure_ (i := 9) (N := some 32) (v := ?_) (a' := ?_) #[true, true, true, true, true, true, true, true, true, true, false, false, false, false] rfl rfl (any_of HT_.out kr) (fun _ _ _ h => h) (Or.inl ⟨by rfl, ?_⟩) ?_ ?_
         rotate_left
         ·exact wl
         rotate_left
         ·exact ap
         refine pure_ (i := 10) (N := some 33) (v := ?_) (a' := ?_) #[true, true, true, true, true, true, true, true, true, true, true, false, false, false] rfl rfl (any_of HT_.out kr) (fun _ _ _ h => h) (Or.inl ⟨by rfl, ?_⟩) ?_ ?_
         rotate_left
         ·exact wl
         rotate_left
         ·exact ap
         refine one_ (i := 11) (N := some 6) #[true, true, true, true, true, true, true, true, true, true, true, true, false, false] rfl rfl (one_of HT_.out kr) (by decide) (fun K hK => ?_)
         refine box_step ?hg (N := 6) ?hd (cs := #[.string (⟨#[]⟩ : ByteArray), .int .i64 0, .int .i64 0]) (t := 89) ?hr ?_; (case hd => rfl); (case hg => rfl); (case hr => first | (go_simp; done) | (go_simp; rfl))
         intro gb347 hg w22 hbox hb
         have BK347 := Aside0.mk (hbox)
         have GW347 := Aside0.mk (gs (w := w) hg (bl HB.out))
         have GE347 := Aside0.mk (gs (w := w) hg (bl HB.out))
         replace HB := Aside0.mk (below_step (bl HB.out) hb)
         have NB338_347 := Aside0.mk ((gl (g := gb338) hg (pk BK338.out)))
         have NB347_338 := Aside0.mk ((gm (g := gb338) hg (pk BK338.out)))
         replace BK338 := Aside0.mk (blk_below (pk BK338.out) hb)
         have NB339_347 := Aside0.mk ((gl (g := gb339) hg (pk BK339.out)))
         have NB347_339 := Aside0.mk ((gm (g := gb339) hg (pk BK339.out)))
         replace BK339 := Aside0.mk (blk_below (pk BK339.out) hb)
         clear hb hbox hg
         refine hK.out _ _ ⟨(blk_cell BK338.out 0).trans rfl, (blk_cell BK338.out 1).trans rfl, (blk_cell BK339.out 0).trans rfl, (blk_cell BK339.out 1).trans rfl, (blk_cell BK339.out 2).trans rfl, ((HB.out.cell (World.block_lt_of_cell? w _ hw342_0)).trans hw342_0), ((HB.out.cell (World.block_lt_of_cell? w _ hw342_1)).trans hw342_1)⟩ (fun hHeld => ?_)
         clear hK K
         refine norm_ (a' := ?_) ?_ ?_
         rotate_left
         ·show Act.put _ (some 6) _ = _
          exact ap
         exact norm_ (by simp only [putAll, Act.put, List.setIfInBounds_toArray, List.set_cons_zero, List.set_cons_succ]) (hCont (gb347) _ ⟨hHeld, (pk BK338.out), (pk BK339.out), (pk BK347.out), GW347.out, GE347.out, NB338_347.out, NB347_338.out, NB339_347.out, NB347_339.out, (bl HB.out)⟩)
        ·skip
         refine box_step ?hg (N := 6) ?hd (cs := #[.string (⟨#[]⟩ : ByteArray), .int .i64 0, .int .i64 0]) (t := 89) ?hr ?_; (case hd => rfl); (case hg => rfl); (case hr => first | (go_simp; done) | (go_simp; rfl))
         intro gb347 hg w21 hbox hb
         have BK347 := Aside0.mk (hbox)
         have GW347 := Aside0.mk (gs (w := w) hg (bl HB.out))
         have GE347 := Aside0.mk (gs (w := w) hg (bl HB.out))
         replace HB := Aside0.mk (below_step (bl HB.out) hb)
         have NB338_347 := Aside0.mk ((gl (g := gb338) hg (pk BK338.out)))
         have NB347_338 := Aside0.mk ((gm (g := gb338) hg (pk BK338.out)))
         replace BK338 := Aside0.mk (blk_below (pk BK338.out) hb)
         have NB339_347 := Aside0.mk ((gl (g := gb339) hg (pk BK339.out)))
         have NB347_339 := Aside0.mk ((gm (g := gb339) hg (pk BK339.out)))
         replace BK339 := Aside0.mk (blk_below (pk BK339.out) hb)
         clear hb hbox hg
         refine hK.out _ _ ⟨(blk_cell BK338.out 0).trans rfl, (blk_cell BK338.out 1).trans rfl, (blk_cell BK339.out 0).trans rfl, (blk_cell BK339.out 1).trans rfl, (blk_cell BK339.out 2).trans rfl, ((HB.out.cell (World.block_lt_of_cell? w _ hw342_0)).trans hw342_0), ((HB.out.cell (World.block_lt_of_cell? w _ hw342_1)).trans hw342_1)⟩ (fun hHeld => ?_)
         clear hK K
         refine norm_ (a' := ?_) ?_ ?_
         rotate_left
         ·show Act.put _ (some 6) _ = _
          exact ap
         refine one_ (i := 7) (N := some 31) #[true, true, true, true, true, true, true, true, false, false, false, true, false, false] rfl rfl (one_of HT_.out kr) (by decide) (fun K hK => ?_)
         refine goes_ Tryd.func56 kr rfl #[.agg #[.slice A0_0 l0_0.length c0_0, .slice A0_1 l0_1.length c0_1], .string ((rd_T59 l1_1 x5_1).f0)] (by rfl) rfl rfl ga ?_
         with_reducible refine (lodestarref05_Spec.calls k1 _ _ l0_0 _ _ l0_1 ((rd_T59 l1_1 x5_1).f0) t343 t344 t345 t346 _ ?side1 ?side2 ?side3 ?side4 A16.out).mono ?_
         (case side1 => repeat (first | exact (Kd.C_below HR0_0.out HB.out) | (with_reducible refine Kd.C_alloc ?_ _) | (with_reducible refine Kd.C_drewN ?_ _) | (with_reducible refine Kd.C_drew ?_)))
         (case side2 => exact HC0_0.out)
         (case side3 => repeat (first | exact (Kd.C_below HR0_1.out HB.out) | (with_reducible refine Kd.C_alloc ?_ _) | (with_reducible refine Kd.C_drewN ?_ _) | (with_reducible refine Kd.C_drew ?_)))
         (case side4 => exact HC0_1.out)
         rintro e w22 ⟨rfl, hb⟩
         refine ⟨_, rfl, ?_⟩
         replace BK338 := Aside0.mk (blk_below (pk BK338.out) hb)
         replace BK339 := Aside0.mk (blk_below (pk BK339.out) hb)
         replace BK347 := Aside0.mk (blk_below (pk BK347.out) hb)
         replace HB := Aside0.mk (below_step (bl HB.out) hb)
         (try clear hb)
         (try clear hb2)
         (try clear hk)
         (try clear hi)
         refine hK.out _ _ ⟨(blk_cell BK338.out 0).trans rfl, (blk_cell BK338.out 1).trans rfl, (blk_cell BK339.out 0).trans rfl, (blk_cell BK339.out 1).trans rfl, (blk_cell BK339.out 2).trans rfl, ((HB.out.cell (World.block_lt_of_cell? w _ hw342_0)).trans hw342_0), ((HB.out.cell (World.block_lt_of_cell? w _ hw342_1)).trans hw342_1)⟩ (fun hHeld => ?_)
         clear hK K
         refine norm_ (a' := ?_) ?_ ?_
         rotate_left
         ·show Act.put _ (some 31) _ = _
          exact ap
         refine pure_ (i := 8) (N := some 23) (v := ?_) (a' := ?_) #[true, true, true, true, true, true, true, true, true, false, false, true, false, false] rfl rfl (any_of HT_.out kr) (fun _ _ _ h => h) (Or.inl ⟨by rfl, ?_⟩) ?_ ?_
         rotate_left
         ·exact wl
         rotate_left
         ·exact ap
         refine pure_ (i := 9) (N := some 32) (v := ?_) (a' := ?_) #[true, true, true, true, true, true, true, true, true, true, false, true, false, false] rfl rfl (any_of HT_.out kr) (fun _ _ _ h => h) (Or.inl ⟨by rfl, ?_⟩) ?_ ?_
         rotate_left
         ·exact wl
         rotate_left
         ·exact ap
         refine pure_ (i := 10) (N := some 33) (v := ?_) (a' := ?_) #[true, true, true, true, true, true, true, true, true, true, true, true, false, false] rfl rfl (any_of HT_.out kr) (fun _ _ _ h => h) (Or.inl ⟨by rfl, ?_⟩) ?_ ?_
         rotate_left
         ·exact wl
         rotate_left
         ·exact ap
         exact norm_ (by simp only [putAll, Act.put, List.setIfInBounds_toArray, List.set_cons_zero, List.set_cons_succ]) (hCont (gb347) _ ⟨hHeld, (pk BK338.out), (pk BK339.out), (pk BK347.out), GW347.out, GE347.out, NB338_347.out, NB347_338.out, NB339_347.out, NB347_339.out, (bl HB.out)⟩)
       rintro gb347 w23 ⟨hS_, h0_, h1_, h2_, h3_, h4_, h5_, h6_, h7_, h8_, h9_⟩
       have n0_ : Aside0 (w23.heap[gb338]? = some (.cells #[.slice A0_0 l0_0.length c0_0, .slice A0_1 l0_1.length c0_1] 51 (0, 0))) := ⟨h0_⟩
       have n1_ : Aside0 (w23.heap[gb339]? = some (.cells #[.int .i64 a1_0, .slice (some ad342) l1_1.length c1_1, .slice A1_2 l1_2.length c1_2] 25 (0, 0))) := ⟨h1_⟩
       have n2_ : Aside0 (w23.heap[gb347]? = some (.cells #[.string (⟨#[]⟩ : ByteArray), .int .i64 0, .int .i64 0] 89 (0, 0))) := ⟨h2_⟩
       have n3_ : Aside0 (w.heap.size ≤ gb347) := ⟨h3_⟩
       have n4_ : Aside0 (w.heap.size ≤ gb347) := ⟨h4_⟩
       have n5_ : Aside0 (gb338 ≠ gb347) := ⟨h5_⟩
       have n6_ : Aside0 (gb347 ≠ gb338) := ⟨h6_⟩
       have n7_ : Aside0 (gb339 ≠ gb347) := ⟨h7_⟩
       have n8_ : Aside0 (gb347 ≠ gb339) := ⟨h8_⟩
       have n9_ : Aside0 (Below w.heap.size w w23) := ⟨h9_⟩
       clear BK338
       clear BK339
       clear HB
       clear h0_ h1_ h2_ h3_ h4_ h5_ h6_ h7_ h8_ h9_
       have BK338 := n0_
       have BK339 := n1_
       have BK347 := n2_
       have GW347 := n3_
       have GE347 := n4_
       have NB338_347 := n5_
       have NB347_338 := n6_
       have NB339_347 := n7_
       have NB347_339 := n8_
       have HB := n9_
       clear n0_ n1_ n2_ n3_ n4_ n5_ n6_ n7_ n8_ n9_
       have hHeld : w23.cell? ⟨gb338, 0, none⟩ = some (.slice A0_0 l0_0.length c0_0) ∧ w23.cell? ⟨gb338, 1, none⟩ = some (.slice A0_1 l0_1.length c0_1) ∧ w23.cell? ⟨gb339, 0, none⟩ = some (.int .i64 a1_0) ∧ w23.cell? ⟨gb339, 1, none⟩ = some (.slice (some ad342) l1_1.length c1_1) ∧ w23.cell? ⟨gb339, 2, none⟩ = some (.slice A1_2 l1_2.length c1_2) ∧ w23.cell? (ad342.add ((x5_1).toNat * 2)) = some (.string ((rd_T59 l1_1 x5_1).f0)) ∧ w23.cell? ⟨(ad342.add ((x5_1).toNat * 2)).block, (ad342.add ((x5_1).toNat * 2)).off + 1, none⟩ = some (.slice A342_1 ((rd_T59 l1_1 x5_1).f1).length c342_1) := hS_
       refine norm_ (a' := ?_) ?_ ?_
       rotate_left
       ·simp only [putAll, Act.put, List.setIfInBounds_toArray, List.set_cons_zero, List.set_cons_succ]
        rfl
       refine one_ (i := 12) (N := none) #[true, true, true, true, true, true, true, true, true, true, true, true, true, false] rfl rfl (one_of HT_.out kr) (by decide) (fun K hK => ?_)
       have hs24 : w23.cell? ⟨gb347, 0, none⟩ = some (.string (⟨#[]⟩ : ByteArray)) := (blk_cell BK347.out 0).trans rfl
       have hfs24 := blk_frozen BK347.out 0
       have hns24_0 := NB338_347.out
       have hns24_1 := NB339_347.out
       have hms24_0 := NB347_338.out
       have hms24_1 := NB347_339.out
       have hs25 : w23.cell? ⟨gb347, 1, none⟩ = some (.int .i64 0) := (blk_cell BK347.out 1).trans rfl
       have hfs25 := blk_frozen BK347.out 1
       have hns25_0 := NB338_347.out
       have hns25_1 := NB339_347.out
       have hms25_0 := NB347_338.out
       have hms25_1 := NB347_339.out
       have hs26 : w23.cell? ⟨gb347, 2, none⟩ = some (.int .i64 0) := (blk_cell BK347.out 2).trans rfl
       have hfs26 := blk_frozen BK347.out 2
       have hns26_0 := NB338_347.out
       have hns26_1 := NB339_347.out
       have hms26_0 := NB347_338.out
       have hms26_1 := NB347_339.out
       refine skip_ (w1 := ?_) (by rfl) rfl ?_ ?_
       rotate_left
       ·go_simp
        rfl
       refine hK.out _ _ ⟨((cell_far (p := ⟨gb347, _, none⟩) NB338_347.out _).trans (((cell_far (p := ⟨gb347, _, none⟩) NB338_347.out _).trans (((cell_far (p := ⟨gb347, _, none⟩) NB338_347.out _).trans (hHeld.1)))))), ((cell_far (p := ⟨gb347, _, none⟩) NB338_347.out _).trans (((cell_far (p := ⟨gb347, _, none⟩) NB338_347.out _).trans (((cell_far (p := ⟨gb347, _, none⟩) NB338_347.out _).trans (hHeld.2.1)))))), ((cell_far (p := ⟨gb347, _, none⟩) NB339_347.out _).trans (((cell_far (p := ⟨gb347, _, none⟩) NB339_347.out _).trans (((cell_far (p := ⟨gb347, _, none⟩) NB339_347.out _).trans (hHeld.2.2.1)))))), ((cell_far (p := ⟨gb347, _, none⟩) NB339_347.out _).trans (((cell_far (p := ⟨gb347, _, none⟩) NB339_347.out _).trans (((cell_far (p := ⟨gb347, _, none⟩) NB339_347.out _).trans (hHeld.2.2.2.1)))))), ((cell_far (p := ⟨gb347, _, none⟩) NB339_347.out _).trans (((cell_far (p := ⟨gb347, _, none⟩) NB339_347.out _).trans (((cell_far (p := ⟨gb347, _, none⟩) NB339_347.out _).trans (hHeld.2.2.2.2.1)))))), ((cell_far (p := ⟨gb347, _, none⟩) (by first | exact Nat.ne_of_lt (Nat.lt_of_lt_of_le (by have := World.block_lt_of_cell? _ _ hw342_0; first | rwa [add_block] at this | exact this) GW347.out) | (rw [add_block]; exact Nat.ne_of_lt (Nat.lt_of_lt_of_le (by have := World.block_lt_of_cell? _ _ hw342_0; first | rwa [add_block] at this | exact this) GW347.out)) | (show (Addr.add _ _).block ≠ _; rw [add_block]; exact Nat.ne_of_lt (Nat.lt_of_lt_of_le (by have := World.block_lt_of_cell? _ _ hw342_0; first | rwa [add_block] at this | exact this) GW347.out)) | (dsimp only; exact Nat.ne_of_lt (Nat.lt_of_lt_of_le (by have := World.block_lt_of_cell? _ _ hw342_0; first | rwa [add_block] at this | exact this) GW347.out))) _).trans (((cell_far (p := ⟨gb347, _, none⟩) (by first | exact Nat.ne_of_lt (Nat.lt_of_lt_of_le (by have := World.block_lt_of_cell? _ _ hw342_0; first | rwa [add_block] at this | exact this) GW347.out) | (rw [add_block]; exact Nat.ne_of_lt (Nat.lt_of_lt_of_le (by have := World.block_lt_of_cell? _ _ hw342_0; first | rwa [add_block] at this | exact this) GW347.out)) | (show (Addr.add _ _).block ≠ _; rw [add_block]; exact Nat.ne_of_lt (Nat.lt_of_lt_of_le (by have := World.block_lt_of_cell? _ _ hw342_0; first | rwa [add_block] at this | exact this) GW347.out)) | (dsimp only; exact Nat.ne_of_lt (Nat.lt_of_lt_of_le (by have := World.block_lt_of_cell? _ _ hw342_0; first | rwa [add_block] at this | exact this) GW347.out))) _).trans (((cell_far (p := ⟨gb347, _, none⟩) (by first | exact Nat.ne_of_lt (Nat.lt_of_lt_of_le (by have := World.block_lt_of_cell? _ _ hw342_0; first | rwa [add_block] at this | exact this) GW347.out) | (rw [add_block]; exact Nat.ne_of_lt (Nat.lt_of_lt_of_le (by have := World.block_lt_of_cell? _ _ hw342_0; first | rwa [add_block] at this | exact this) GW347.out)) | (show (Addr.add _ _).block ≠ _; rw [add_block]; exact Nat.ne_of_lt (Nat.lt_of_lt_of_le (by have := World.block_lt_of_cell? _ _ hw342_0; first | rwa [add_block] at this | exact this) GW347.out)) | (dsimp only; exact Nat.ne_of_lt (Nat.lt_of_lt_of_le (by have := World.block_lt_of_cell? _ _ hw342_0; first | rwa [add_block] at this | exact this) GW347.out))) _).trans (hHeld.2.2.2.2.2.1)))))), ((cell_far (p := ⟨gb347, _, none⟩) (by first | exact Nat.ne_of_lt (Nat.lt_of_lt_of_le (by have := World.block_lt_of_cell? _ _ hw342_1; first | rwa [add_block] at this | exact this) GW347.out) | (rw [add_block]; exact Nat.ne_of_lt (Nat.lt_of_lt_of_le (by have := World.block_lt_of_cell? _ _ hw342_1; first | rwa [add_block] at this | exact this) GW347.out)) | (show (Addr.add _ _).block ≠ _; rw [add_block]; exact Nat.ne_of_lt (Nat.lt_of_lt_of_le (by have := World.block_lt_of_cell? _ _ hw342_1; first | rwa [add_block] at this | exact this) GW347.out)) | (dsimp only; exact Nat.ne_of_lt (Nat.lt_of_lt_of_le (by have := World.block_lt_of_cell? _ _ hw342_1; first | rwa [add_block] at this | exact this) GW347.out))) _).trans (((cell_far (p := ⟨gb347, _, none⟩) (by first | exact Nat.ne_of_lt (Nat.lt_of_lt_of_le (by have := World.block_lt_of_cell? _ _ hw342_1; first | rwa [add_block] at this | exact this) GW347.out) | (rw [add_block]; exact Nat.ne_of_lt (Nat.lt_of_lt_of_le (by have := World.block_lt_of_cell? _ _ hw342_1; first | rwa [add_block] at this | exact this) GW347.out)) | (show (Addr.add _ _).block ≠ _; rw [add_block]; exact Nat.ne_of_lt (Nat.lt_of_lt_of_le (by have := World.block_lt_of_cell? _ _ hw342_1; first | rwa [add_block] at this | exact this) GW347.out)) | (dsimp only; exact Nat.ne_of_lt (Nat.lt_of_lt_of_le (by have := World.block_lt_of_cell? _ _ hw342_1; first | rwa [add_block] at this | exact this) GW347.out))) _).trans (((cell_far (p := ⟨gb347, _, none⟩) (by first | exact Nat.ne_of_lt (Nat.lt_of_lt_of_le (by have := World.block_lt_of_cell? _ _ hw342_1; first | rwa [add_block] at this | exact this) GW347.out) | (rw [add_block]; exact Nat.ne_of_lt (Nat.lt_of_lt_of_le (by have := World.block_lt_of_cell? _ _ hw342_1; first | rwa [add_block] at this | exact this) GW347.out)) | (show (Addr.add _ _).block ≠ _; rw [add_block]; exact Nat.ne_of_lt (Nat.lt_of_lt_of_le (by have := World.block_lt_of_cell? _ _ hw342_1; first | rwa [add_block] at this | exact this) GW347.out)) | (dsimp only; exact Nat.ne_of_lt (Nat.lt_of_lt_of_le (by have := World.block_lt_of_cell? _ _ hw342_1; first | rwa [add_block] at this | exact this) GW347.out))) _).trans (hHeld.2.2.2.2.2.2))))))⟩ (fun hHeld => ?_)
       clear hK K
       refine pure_ (i := 13) (N := some 7) (v := ?_) (a' := ?_) #[true, true, true, true, true, true, true, true, true, true, true, true, true, true] rfl rfl (any_of HT_.out kr) (fun _ _ _ h => h) (Or.inl ⟨by rfl, ?_⟩) ?_ ?_
       rotate_left
       ·exact wl
       rotate_left
       ·exact ap
       refine done_ (done_of HT_.out kr) ?_
       go_upto_region 9 with (fail)
       go_cut [71] (fun v71 wc => ∃ (kq : Nat) (x71_16 : Bool), v71 = .bool x71_16 ∧ Aside0 (lodestarref05_Check.j1 kq x5_1 x71_16 l0_0 l0_1 a1_0 l1_1 l1_2 = some r) ∧ Aside0 (kq ≤ k1) ∧ Aside0 (wc.heap[gb338]? = some (.cells #[(.slice A0_0 l0_0.length c0_0), (.slice A0_1 l0_1.length c0_1)] 51 (0, 0))) ∧ Aside0 (wc.heap[gb339]? = some (.cells #[.int .i64 a1_0, (.slice (some ad342) l1_1.length c1_1), (.slice A1_2 l1_2.length c1_2)] 25 (0, 0))) ∧ Aside0 (wc.heap[gb347]? = some (.cells #[.string t343, .int .i64 t344, .int .i64 t345] 89 (0, 0))) ∧ Aside0 (Below w.heap.size w wc))
       case first =>
        have H := HC17.out
        clear HC17
        by_cases c27 : t346 = true
        ·subst c27
         have H1 : (if (((rd_T59 l1_1 x5_1).f1).length : Int) = t344 then ((lodestarref05_Range.f k1 ((rd_T59 l1_1 x5_1).f1)).bind fun t350 => (if t350 = true then (if t345 = 3 then ((lodestarref05_Zero.f k1 ((rd_T59 l1_1 x5_1).f1)).bind fun t352 => (lodestarref05_Check.j1 k1 x5_1 t352 l0_0 l0_1 a1_0 l1_1 l1_2)) else (lodestarref05_Check.j1 k1 x5_1 false l0_0 l0_1 a1_0 l1_1 l1_2)) else (lodestarref05_Check.j1 k1 x5_1 true l0_0 l0_1 a1_0 l1_1 l1_2))) else (lodestarref05_Check.j1 k1 x5_1 true l0_0 l0_1 a1_0 l1_1 l1_2)) = some r := by rw [if_pos rfl] at H; exact H
         clear H
         have H := H1
         clear H1
         by_cases c28 : (((rd_T59 l1_1 x5_1).f1).length : Int) = t344
         ·rw [if_pos c28] at H
          have c28b0 : ((((rd_T59 l1_1 x5_1).f1).length : Int) == t344) = true := beq_iff_eq.mpr c28
          have c28b1 : ((((rd_T59 l1_1 x5_1).f1).length : Int) != t344) = false := bne_eq_false_iff_eq.mpr c28
          clear c28
          (first | rw [c28b0] | (simp only [i64_w, i32_w]; rw [c28b0]) | skip)
          replace H := Option.bind_eq_some_iff.mp H
          obtain ⟨t350, A290, H⟩ := H
          replace H : (if t350 = true then (if t345 = 3 then ((lodestarref05_Zero.f k1 ((rd_T59 l1_1 x5_1).f1)).bind fun t352 => (lodestarref05_Check.j1 k1 x5_1 t352 l0_0 l0_1 a1_0 l1_1 l1_2)) else (lodestarref05_Check.j1 k1 x5_1 false l0_0 l0_1 a1_0 l1_1 l1_2)) else (lodestarref05_Check.j1 k1 x5_1 true l0_0 l0_1 a1_0 l1_1 l1_2)) = some r := H
          have A29 := Aside0.mk A290
          clear A290
          by_cases c30 : t350 = true
          ·subst c30
           have H1 : (if t345 = 3 then ((lodestarref05_Zero.f k1 ((rd_T59 l1_1 x5_1).f1)).bind fun t352 => (lodestarref05_Check.j1 k1 x5_1 t352 l0_0 l0_1 a1_0 l1_1 l1_2)) else (lodestarref05_Check.j1 k1 x5_1 false l0_0 l0_1 a1_0 l1_1 l1_2)) = some r := by rw [if_pos rfl] at H; exact H
           clear H
           have H := H1
           clear H1
           by_cases c31 : t345 = 3
           ·rw [if_pos c31] at H
            have c31b0 : (t345 == 3) = true := beq_iff_eq.mpr c31
            have c31b1 : (t345 != 3) = false := bne_eq_false_iff_eq.mpr c31
            clear c31
            replace H := Option.bind_eq_some_iff.mp H
            obtain ⟨t352, A320, H⟩ := H
            replace H : (lodestarref05_Check.j1 k1 x5_1 t352 l0_0 l0_1 a1_0 l1_1 l1_2) = some r := H
            have A32 := Aside0.mk A320
            clear A320
            have H' := Aside0.mk H
            clear H
            try go_wp2
            have n0_ : Aside0 ((((w23.setCell ⟨gb347, 0, none⟩ (.string t343)).setCell ⟨gb347, 1, none⟩ (.int .i64 t344)).setCell ⟨gb347, 2, none⟩ (.int .i64 t345)).heap[gb338]? = some (.cells #[.slice A0_0 l0_0.length c0_0, .slice A0_1 l0_1.length c0_1] 51 (0, 0))) := ⟨by refine pk ?_; refine blk_far ?_ NB338_347.out _; refine pk ?_; refine blk_far ?_ NB338_347.out _; refine pk ?_; refine blk_far ?_ NB338_347.out _; exact pk BK338.out⟩
            have n1_ : Aside0 ((((w23.setCell ⟨gb347, 0, none⟩ (.string t343)).setCell ⟨gb347, 1, none⟩ (.int .i64 t344)).setCell ⟨gb347, 2, none⟩ (.int .i64 t345)).heap[gb339]? = some (.cells #[.int .i64 a1_0, .slice (some ad342) l1_1.length c1_1, .slice A1_2 l1_2.length c1_2] 25 (0, 0))) := ⟨by refine pk ?_; refine blk_far ?_ NB339_347.out _; refine pk ?_; refine blk_far ?_ NB339_347.out _; refine pk ?_; refine blk_far ?_ NB339_347.out _; exact pk BK339.out⟩
            have n2_ : Aside0 ((((w23.setCell ⟨gb347, 0, none⟩ (.string t343)).setCell ⟨gb347, 1, none⟩ (.int .i64 t344)).setCell ⟨gb347, 2, none⟩ (.int .i64 t345)).heap[gb347]? = some (.cells #[.string t343, .int .i64 t344, .int .i64 t345] 89 (0, 0))) := ⟨by refine pk ?_; refine blk_put (cs := #[.string t343, .int .i64 t344, .int .i64 0]) ?_ 2 _ rfl; refine pk ?_; refine blk_put (cs := #[.string t343, .int .i64 0, .int .i64 0]) ?_ 1 _ rfl; refine pk ?_; refine blk_put (cs := #[.string (⟨#[]⟩ : ByteArray), .int .i64 0, .int .i64 0]) ?_ 0 _ rfl; exact pk BK347.out⟩
            have n3_ : Aside0 (Below w.heap.size w (((w23.setCell ⟨gb347, 0, none⟩ (.string t343)).setCell ⟨gb347, 1, none⟩ (.int .i64 t344)).setCell ⟨gb347, 2, none⟩ (.int .i64 t345))) := ⟨bl HB.out⟩
            (try clear BK338)
            (try clear BK339)
            (try clear BK347)
            (try clear HB)
            generalize (((w23.setCell ⟨gb347, 0, none⟩ (.string t343)).setCell ⟨gb347, 1, none⟩ (.int .i64 t344)).setCell ⟨gb347, 2, none⟩ (.int .i64 t345)) = w33 at n0_ n1_ n2_ n3_ ⊢
            have BK338 := n0_
            have BK339 := n1_
            have BK347 := n2_
            have HB := n3_
            clear n0_ n1_ n2_ n3_
            replace BK338 := Aside0.mk (blk_drew BK338.out)
            replace BK339 := Aside0.mk (blk_drew BK339.out)
            replace BK347 := Aside0.mk (blk_drew BK347.out)
            replace HB := Aside0.mk (below_drew1 HB.out)
            have p348 : 0 ≤ (x5_1 : Int) := of_decide_eq_true ha
            have q348 : x5_1 < (l1_1.length : Int) := of_decide_eq_true ha
            obtain ⟨ad348, A348_1, c348_1, e348, hx348_0, hx348_1, hl348_1, hi348_1⟩ := at_T59 HR1_1.out x5_1 p348 q348
            have hw348_1 := hx348_1
            have hw348_0 := hx348_0
            obtain rfl : ad342 = ad348 := (by injection e348)
            replace hx348_0 := (HB.out.cell (World.block_lt_of_cell? w _ hx348_0)).trans hx348_0
            replace hx348_1 := (HB.out.cell (World.block_lt_of_cell? w _ hx348_1)).trans hx348_1
            have HR348_1 := Aside0.mk hi348_1
            have HC348_1 := Aside0.mk hl348_1
            clear hi348_1 hl348_1
            replace p348 := eq_true p348
            replace q348 := eq_true q348
            have p349 : 0 ≤ (x5_1 : Int) := of_decide_eq_true ha
            have q349 : x5_1 < (l1_1.length : Int) := of_decide_eq_true ha
            obtain ⟨ad349, A349_1, c349_1, e349, hx349_0, hx349_1, hl349_1, hi349_1⟩ := at_T59 HR1_1.out x5_1 p349 q349
            have hw349_1 := hx349_1
            have hw349_0 := hx349_0
            obtain rfl : ad342 = ad349 := (by injection e349)
            replace hx349_0 := (HB.out.cell (World.block_lt_of_cell? w _ hx349_0)).trans hx349_0
            replace hx349_1 := (HB.out.cell (World.block_lt_of_cell? w _ hx349_1)).trans hx349_1
            have HR349_1 := Aside0.mk hi349_1
            have HC349_1 := Aside0.mk hl349_1
            clear hi349_1 hl349_1
            replace p349 := eq_true p349
            replace q349 := eq_true q349
            have ea_ := Option.some.inj (hx348_1.symm.trans hx349_1)
            injection ea_ with ea_ en_ ec_
            subst ea_
            subst ec_
            clear en_
            have p351 : 0 ≤ (x5_1 : Int) := of_decide_eq_true ha
            have q351 : x5_1 < (l1_1.length : Int) := of_decide_eq_true ha
            obtain ⟨ad351, A351_1, c351_1, e351, hx351_0, hx351_1, hl351_1, hi351_1⟩ := at_T59 HR1_1.out x5_1 p351 q351
            have hw351_1 := hx351_1
            have hw351_0 := hx351_0
            obtain rfl : ad342 = ad351 := (by injection e351)
            replace hx351_0 := (HB.out.cell (World.block_lt_of_cell? w _ hx351_0)).trans hx351_0
            replace hx351_1 := (HB.out.cell (World.block_lt_of_cell? w _ hx351_1)).trans hx351_1
            have HR351_1 := Aside0.mk hi351_1
            have HC351_1 := Aside0.mk hl351_1
            clear hi351_1 hl351_1
            replace p351 := eq_true p351
            replace q351 := eq_true q351
            have ea_ := Option.some.inj (hx348_1.symm.trans hx351_1)
            injection ea_ with ea_ en_ ec_
            subst ea_
            subst ec_
            clear en_
            refine start_ (n := 38) (S := fun w' => w'.cell? ⟨gb339, 0, none⟩ = some (.int .i64 a1_0) ∧ w'.cell? ⟨gb339, 1, none⟩ = some (.slice (some ad342) l1_1.length c1_1) ∧ w'.cell? ⟨gb339, 2, none⟩ = some (.slice A1_2 l1_2.length c1_2) ∧ w'.cell? ⟨gb347, 0, none⟩ = some (.string t343) ∧ w'.cell? ⟨gb347, 1, none⟩ = some (.int .i64 t344) ∧ w'.cell? ⟨gb347, 2, none⟩ = some (.int .i64 t345) ∧ w'.cell? (ad342.add ((x5_1).toNat * 2)) = some (.string ((rd_T59 l1_1 x5_1).f0)) ∧ w'.cell? ⟨(ad342.add ((x5_1).toNat * 2)).block, (ad342.add ((x5_1).toNat * 2)).off + 1, none⟩ = some (.slice A348_1 ((rd_T59 l1_1 x5_1).f1).length c348_1) ∧ w'.cell? (ad342.add ((x5_1).toNat * 2)) = some (.string ((rd_T59 l1_1 x5_1).f0)) ∧ w'.cell? ⟨(ad342.add ((x5_1).toNat * 2)).block, (ad342.add ((x5_1).toNat * 2)).off + 1, none⟩ = some (.slice A348_1 ((rd_T59 l1_1 x5_1).f1).length c348_1) ∧ w'.cell? (ad342.add ((x5_1).toNat * 2)) = some (.string ((rd_T59 l1_1 x5_1).f0)) ∧ w'.cell? ⟨(ad342.add ((x5_1).toNat * 2)).block, (ad342.add ((x5_1).toNat * 2)).off + 1, none⟩ = some (.slice A348_1 ((rd_T59 l1_1 x5_1).f1).length c348_1)) (ds := []) #[false, false, false, false, false, false, false, false, false, false, false, false, false, false, false, false, false, false, false, false, false, false, false, false, false, false, false, false, false, false, false, false, false, false, false, false, false, false] kr rfl rfl ⟨(blk_cell BK339.out 0).trans rfl, (blk_cell BK339.out 1).trans rfl, (blk_cell BK339.out 2).trans rfl, (blk_cell BK347.out 0).trans rfl, (blk_cell BK347.out 1).trans rfl, (blk_cell BK347.out 2).trans rfl, ((HB.out.cell (World.block_lt_of_cell? w _ hw348_0)).trans hw348_0), ((HB.out.cell (World.block_lt_of_cell? w _ hw348_1)).trans hw348_1), ((HB.out.cell (World.block_lt_of_cell? w _ hw349_0)).trans hw349_0), ((HB.out.cell (World.block_lt_of_cell? w _ hw349_1)).trans hw349_1), ((HB.out.cell (World.block_lt_of_cell? w _ hw351_0)).trans hw351_0), ((HB.out.cell (World.block_lt_of_cell? w _ hw351_1)).trans hw351_1)⟩ (fun hHeld => ?_); refine with_tabW lodestarref05_Check.tab9 lodestarref05_Check.bits9 (fun HT_ HW_ => ?_)
            generalize w33.drew = w34 at BK338 BK339 BK347 HB HR348_1 HR349_1 HR351_1 hx348_0 hx348_1 hx349_0 hx349_1 hx351_0 hx351_1 hHeld ⊢
            refine pure_ (i := 0) (N := some 34) (v := ?_) (a' := ?_) #[true, false, false, false, false, false, false, false, false, false, false, false, false, false, false, false, false, false, false, false, false, false, false, false, false, false, false, false, false, false, false, false, false, false, false, false, false, false] rfl rfl (any_of HT_.out kr) (fun _ _ _ h => h) (Or.inl ⟨by rfl, ?_⟩) ?_ ?_
            rotate_left
            ·exact wl
            rotate_left
            ·exact ap
            refine pure_ (i := 1) (N := some 35) (v := ?_) (a' := ?_) #[true, true, false, false, false, false, false, false, false, false, false, false, false, false, false, false, false, false, false, false, false, false, false, false, false, false, false, false, false, false, false, false, false, false, false, false, false, false] rfl rfl (any_of HT_.out kr) (fun _ _ _ h => h) (Or.inl ⟨by rfl, ?_⟩) ?_ ?_
            rotate_left
            ·exact wl
            rotate_left
            ·exact ap
            refine pure_ (i := 2) (N := some 36) (v := ?_) (a' := ?_) #[true, true, true, false, false, false, false, false, false, false, false, false, false, false, false, false, false, false, false, false, false, false, false, false, false, false, false, false, false, false, false, false, false, false, false, false, false, false] rfl rfl (any_of HT_.out kr) (fun _ _ _ h => h) (Or.inl ⟨by rfl, ?_⟩) ?_ ?_
            rotate_left
            ·exact wl
            rotate_left
            ·exact ap
            refine pure_ (i := 3) (N := some 37) (v := ?_) (a' := ?_) #[true, true, true, true, false, false, false, false, false, false, false, false, false, false, false, false, false, false, false, false, false, false, false, false, false, false, false, false, false, false, false, false, false, false, false, false, false, false] rfl rfl (any_of HT_.out kr) (fun _ _ _ h => h) (Or.inl ⟨by rfl, ?_⟩) ?_ ?_
            rotate_left
            ·exact wl
            rotate_left
            ·exact ap
            refine pure_ (i := 5) (N := some 39) (v := ?_) (a' := ?_) #[true, true, true, true, false, true, false, false, false, false, false, false, false, false, false, false, false, false, false, false, false, false, false, false, false, false, false, false, false, false, false, false, false, false, false, false, false, false] rfl rfl (any_of HT_.out kr) (fun _ _ _ h => h) (Or.inl ⟨by rfl, ?_⟩) ?_ ?_
            rotate_left
            ·exact wl
            rotate_left
            ·exact ap
            refine pure_ (i := 10) (N := some 44) (v := ?_) (a' := ?_) #[true, true, true, true, false, true, false, false, false, false, true, false, false, false, false, false, false, false, false, false, false, false, false, false, false, false, false, false, false, false, false, false, false, false, false, false, false, false] rfl rfl (any_of HT_.out kr) (fun _ _ _ h => h) (Or.inl ⟨by rfl, ?_⟩) ?_ ?_
            rotate_left
            ·exact wl
            rotate_left
            ·exact ap
            refine take_ (i := 4) (N := some 38) (v := ?_) (a' := ?_) #[true, true, true, true, true, true, false, false, false, false, true, false, false, false, false, false, false, false, false, false, false, false, false, false, false, false, false, false, false, false, false, false, false, false, false, false, false, false] rfl rfl (take_ofW HT_.out HW_.out kr) (fun _ _ _ h => h) (Or.inl ⟨by rfl, ?_⟩) hHeld ?_ ?_
            rotate_left
            ·rintro w' ⟨s0, s1, s2, s3, s4, s5, s6, s7, s8, s9, s10, s11⟩
             go_simp
             exact rl
            rotate_left
            ·exact ap
            refine pure_ (i := 6) (N := some 40) (v := ?_) (a' := ?_) #[true, true, true, true, true, true, true, false, false, false, true, false, false, false, false, false, false, false, false, false, false, false, false, false, false, false, false, false, false, false, false, false, false, false, false, false, false, false] rfl rfl (any_of HT_.out kr) (fun _ _ _ h => h) (Or.inl ⟨by rfl, ?_⟩) ?_ ?_
            rotate_left
            ·exact wl
            rotate_left
            ·exact ap
            refine pure_ (i := 7) (N := some 41) (v := ?_) (a' := ?_) #[true, true, true, true, true, true, true, true, false, false, true, false, false, false, false, false, false, false, false, false, false, false, false, false, false, false, false, false, false, false, false, false, false, false, false, false, false, false] rfl rfl (any_of HT_.out kr) (fun _ _ _ h => h) (Or.inl ⟨by rfl, ?_⟩) ?_ ?_
            rotate_left
            ·exact wl
            rotate_left
            ·exact ap
            refine take_ (i := 8) (N := some 42) (v := ?_) (a' := ?_) #[true, true, true, true, true, true, true, true, true, false, true, false, false, false, false, false, false, false, false, false, false, false, false, false, false, false, false, false, false, false, false, false, false, false, false, false, false, false] rfl rfl (take_ofW HT_.out HW_.out kr) (fun _ _ _ h => h) (Or.inl ⟨by rfl, ?_⟩) hHeld ?_ ?_
            rotate_left
            ·rintro w' ⟨s0, s1, s2, s3, s4, s5, s6, s7, s8, s9, s10, s11⟩
             go_simp
             exact rl
            rotate_left
            ·exact ap
            refine pure_ (i := 9) (N := some 43) (v := ?_) (a' := ?_) #[true, true, true, true, true, true, true, true, true, true, true, false, false, false, false, false, false, false, false, false, false, false, false, false, false, false, false, false, false, false, false, false, false, false, false, false, false, false] rfl rfl (any_of HT_.out kr) (fun _ _ _ h => h) (Or.inl ⟨by rfl, ?_⟩) ?_ ?_
            rotate_left
            ·exact wl
            rotate_left
            ·exact ap
            refine take_ (i := 11) (N := some 45) (v := ?_) (a' := ?_) #[true, true, true, true, true, true, true, true, true, true, true, true, false, false, false, false, false, false, false, false, false, false, false, false, false, false, false, false, false, false, false, false, false, false, false, false, false, false] rfl rfl (take_ofW HT_.out HW_.out kr) (fun _ _ _ h => h) (Or.inl ⟨by rfl, ?_⟩) hHeld ?_ ?_
            rotate_left
            ·rintro w' ⟨s0, s1, s2, s3, s4, s5, s6, s7, s8, s9, s10, s11⟩
             go_simp
             exact rl
            rotate_left
            ·exact ap
            refine pure_ (i := 12) (N := some 46) (v := ?_) (a' := ?_) #[true, true, true, true, true, true, true, true, true, true, true, true, true, false, false, false, false, false, false, false, false, false, false, false, false, false, false, false, false, false, false, false, false, false, false, false, false, false] rfl rfl (any_of HT_.out kr) (fun _ _ _ h => h) (Or.inl ⟨by rfl, ?_⟩) ?_ ?_
            rotate_left
            ·exact wl
            rotate_left
            ·exact ap
            refine pure_ (i := 13) (N := some 47) (v := ?_) (a' := ?_) #[true, true, true, true, true, true, true, true, true, true, true, true, true, true, false, false, false, false, false, false, false, false, false, false, false, false, false, false, false, false, false, false, false, false, false, false, false, false] rfl rfl (any_of HT_.out kr) (fun _ _ _ h => h) (Or.inl ⟨by rfl, ?_⟩) ?_ ?_
            rotate_left
            ·exact wl
            rotate_left
            ·exact ap
            refine pure_ (i := 14) (N := some 48) (v := ?_) (a' := ?_) #[true, true, true, true, true, true, true, true, true, true, true, true, true, true, true, false, false, false, false, false, false, false, false, false, false, false, false, false, false, false, false, false, false, false, false, false, false, false] rfl rfl (any_of HT_.out kr) (fun _ _ _ h => h) (Or.inl ⟨by rfl, ?_⟩) ?_ ?_
            rotate_left
            ·exact wl
            rotate_left
            ·exact ap
            refine pure_ (i := 15) (N := some 49) (v := ?_) (a' := ?_) #[true, true, true, true, true, true, true, true, true, true, true, true, true, true, true, true, false, false, false, false, false, false, false, false, false, false, false, false, false, false, false, false, false, false, false, false, false, false] rfl rfl (any_of HT_.out kr) (fun _ _ _ h => h) (Or.inl ⟨by rfl, ?_⟩) ?_ ?_
            rotate_left
            ·exact wl
            rotate_left
            ·exact ap
            refine pure_ (i := 17) (N := some 51) (v := ?_) (a' := ?_) #[true, true, true, true, true, true, true, true, true, true, true, true, true, true, true, true, false, true, false, false, false, false, false, false, false, false, false, false, false, false, false, false, false, false, false, false, false, false] rfl rfl (any_of HT_.out kr) (fun _ _ _ h => h) (Or.inl ⟨by rfl, ?_⟩) ?_ ?_
            rotate_left
            ·exact wl
            rotate_left
            ·exact ap
            refine take_ (i := 16) (N := some 50) (v := ?_) (a' := ?_) #[true, true, true, true, true, true, true, true, true, true, true, true, true, true, true, true, true, true, false, false, false, false, false, false, false, false, false, false, false, false, false, false, false, false, false, false, false, false] rfl rfl (take_ofW HT_.out HW_.out kr) (fun _ _ _ h => h) (Or.inl ⟨by rfl, ?_⟩) hHeld ?_ ?_
            rotate_left
            ·rintro w' ⟨s0, s1, s2, s3, s4, s5, s6, s7, s8, s9, s10, s11⟩
             go_simp
             exact rl
            rotate_left
            ·exact ap
            refine pure_ (i := 18) (N := some 52) (v := ?_) (a' := ?_) #[true, true, true, true, true, true, true, true, true, true, true, true, true, true, true, true, true, true, true, false, false, false, false, false, false, false, false, false, false, false, false, false, false, false, false, false, false, false] rfl rfl (any_of HT_.out kr) (fun _ _ _ h => h) (Or.inl ⟨by rfl, ?_⟩) ?_ ?_
            rotate_left
            ·exact wl
            rotate_left
            ·exact ap
            refine pure_ (i := 19) (N := some 53) (v := ?_) (a' := ?_) #[true, true, true, true, true, true, true, true, true, true, true, true, true, true, true, true, true, true, true, true, false, false, false, false, false, false, false, false, false, false, false, false, false, false, false, false, false, false] rfl rfl (any_of HT_.out kr) (fun _ _ _ h => h) (Or.inl ⟨by rfl, ?_⟩) ?_ ?_
            rotate_left
            ·exact wl
            rotate_left
            ·exact ap
            refine take_ (i := 20) (N := some 54) (v := ?_) (a' := ?_) #[true, true, true, true, true, true, true, true, true, true, true, true, true, true, true, true, true, true, true, true, true, false, false, false, false, false, false, false, false, false, false, false, false, false, false, false, false, false] rfl rfl (take_ofW HT_.out HW_.out kr) (fun _ _ _ h => h) (Or.inl ⟨by rfl, ?_⟩) hHeld ?_ ?_
            rotate_left
            ·rintro w' ⟨s0, s1, s2, s3, s4, s5, s6, s7, s8, s9, s10, s11⟩
             go_simp
             exact rl
            rotate_left
            ·exact ap
            refine one_ (i := 21) (N := some 55) #[true, true, true, true, true, true, true, true, true, true, true, true, true, true, true, true, true, true, true, true, true, true, false, false, false, false, false, false, false, false, false, false, false, false, false, false, false, false] rfl rfl (one_of HT_.out kr) (by decide) (fun K hK => ?_)
            refine goes_ Tryd.func44 kr rfl #[.slice A348_1 ((rd_T59 l1_1 x5_1).f1).length c348_1] (by rfl) rfl rfl ga ?_
            with_reducible refine (lodestarref05_Range.calls k1 _ _ ((rd_T59 l1_1 x5_1).f1) true _ ?side1 ?side2 A29.out).mono ?_
            (case side1 => repeat (first | exact (Kd.C_below HR349_1.out HB.out) | (with_reducible refine Kd.C_alloc ?_ _) | (with_reducible refine Kd.C_drewN ?_ _) | (with_reducible refine Kd.C_drew ?_)))
            (case side2 => exact HC349_1.out)
            rintro e w' ⟨rfl, ⟨nd, rfl⟩⟩
            refine ⟨_, rfl, ?_⟩
            refine hK.out _ _ ⟨(blk_cell BK339.out 0).trans rfl, (blk_cell BK339.out 1).trans rfl, (blk_cell BK339.out 2).trans rfl, (blk_cell BK347.out 0).trans rfl, (blk_cell BK347.out 1).trans rfl, (blk_cell BK347.out 2).trans rfl, ((HB.out.cell (World.block_lt_of_cell? w _ hw348_0)).trans hw348_0), ((HB.out.cell (World.block_lt_of_cell? w _ hw348_1)).trans hw348_1), ((HB.out.cell (World.block_lt_of_cell? w _ hw349_0)).trans hw349_0), ((HB.out.cell (World.block_lt_of_cell? w _ hw349_1)).trans hw349_1), ((HB.out.cell (World.block_lt_of_cell? w _ hw351_0)).trans hw351_0), ((HB.out.cell (World.block_lt_of_cell? w _ hw351_1)).trans hw351_1)⟩ (fun hHeld => ?_)
            clear hK K
            refine norm_ (a' := ?_) ?_ ?_
            rotate_left
            ·show Act.put _ (some 55) _ = _
             exact ap
            refine pure_ (i := 22) (N := some 56) (v := ?_) (a' := ?_) #[true, true, true, true, true, true, true, true, true, true, true, true, true, true, true, true, true, true, true, true, true, true, true, false, false, false, false, false, false, false, false, false, false, false, false, false, false, false] rfl rfl (any_of HT_.out kr) (fun _ _ _ h => h) (Or.inl ⟨by rfl, ?_⟩) ?_ ?_
            rotate_left
            ·exact wl
            rotate_left
            ·exact ap
            refine pure_ (i := 23) (N := some 57) (v := ?_) (a' := ?_) #[true, true, true, true, true, true, true, true, true, true, true, true, true, true, true, true, true, true, true, true, true, true, true, true, false, false, false, false, false, false, false, false, false, false, false, false, false, false] rfl rfl (any_of HT_.out kr) (fun _ _ _ h => h) (Or.inl ⟨by rfl, ?_⟩) ?_ ?_
            rotate_left
            ·exact wl
            rotate_left
            ·exact ap
            refine pure_ (i := 24) (N := some 58) (v := ?_) (a' := ?_) #[true, true, true, true, true, true, true, true, true, true, true, true, true, true, true, true, true, true, true, true, true, true, true, true, true, false, false, false, false, false, false, false, false, false, false, false, false, false] rfl rfl (any_of HT_.out kr) (fun _ _ _ h => h) (Or.inl ⟨by rfl, ?_⟩) ?_ ?_
            rotate_left
            ·exact wl
            rotate_left
            ·exact ap
            refine pure_ (i := 25) (N := some 59) (v := ?_) (a' := ?_) #[true, true, true, true, true, true, true, true, true, true, true, true, true, true, true, true, true, true, true, true, true, true, true, true, true, true, false, false, false, false, false, false, false, false, false, false, false, false] rfl rfl (any_of HT_.out kr) (fun _ _ _ h => h) (Or.inl ⟨by rfl, ?_⟩) ?_ ?_
            rotate_left
            ·exact wl
            rotate_left
            ·exact ap
            refine take_ (i := 26) (N := some 60) (v := ?_) (a' := ?_) #[true, true, true, true, true, true, true, true, true, true, true, true, true, true, true, true, true, true, true, true, true, true, true, true, true, true, true, false, false, false, false, false, false, false, false, false, false, false] rfl rfl (take_ofW HT_.out HW_.out kr) (fun _ _ _ h => h) (Or.inl ⟨by rfl, ?_⟩) hHeld ?_ ?_
            rotate_left
            ·rintro w' ⟨s0, s1, s2, s3, s4, s5, s6, s7, s8, s9, s10, s11⟩
             go_simp
             exact rl
            rotate_left
            ·exact ap
            refine pure_ (i := 27) (N := some 61) (v := ?_) (a' := ?_) #[true, true, true, true, true, true, true, true, true, true, true, true, true, true, true, true, true, true, true, true, true, true, true, true, true, true, true, true, false, false, false, false, false, false, false, false, false, false] rfl rfl (any_of HT_.out kr) (fun _ _ _ h => h) (Or.inl ⟨by rfl, ?_⟩) ?_ ?_
            rotate_left
            ·exact wl
            rotate_left
            ·exact ap
            refine pure_ (i := 28) (N := some 62) (v := ?_) (a' := ?_) #[true, true, true, true, true, true, true, true, true, true, true, true, true, true, true, true, true, true, true, true, true, true, true, true, true, true, true, true, true, false, false, false, false, false, false, false, false, false] rfl rfl (any_of HT_.out kr) (fun _ _ _ h => h) (Or.inl ⟨by rfl, ?_⟩) ?_ ?_
            rotate_left
            ·exact wl
            rotate_left
            ·exact ap
            refine pure_ (i := 29) (N := some 63) (v := ?_) (a' := ?_) #[true, true, true, true, true, true, true, true, true, true, true, true, true, true, true, true, true, true, true, true, true, true, true, true, true, true, true, true, true, true, false, false, false, false, false, false, false, false] rfl rfl (any_of HT_.out kr) (fun _ _ _ h => h) (Or.inl ⟨by rfl, ?_⟩) ?_ ?_
            rotate_left
            ·exact wl
            rotate_left
            ·exact ap
            refine pure_ (i := 31) (N := some 65) (v := ?_) (a' := ?_) #[true, true, true, true, true, true, true, true, true, true, true, true, true, true, true, true, true, true, true, true, true, true, true, true, true, true, true, true, true, true, false, true, false, false, false, false, false, false] rfl rfl (any_of HT_.out kr) (fun _ _ _ h => h) (Or.inl ⟨by rfl, ?_⟩) ?_ ?_
            rotate_left
            ·exact wl
            rotate_left
            ·exact ap
            refine take_ (i := 30) (N := some 64) (v := ?_) (a' := ?_) #[true, true, true, true, true, true, true, true, true, true, true, true, true, true, true, true, true, true, true, true, true, true, true, true, true, true, true, true, true, true, true, true, false, false, false, false, false, false] rfl rfl (take_ofW HT_.out HW_.out kr) (fun _ _ _ h => h) (Or.inl ⟨by rfl, ?_⟩) hHeld ?_ ?_
            rotate_left
            ·rintro w' ⟨s0, s1, s2, s3, s4, s5, s6, s7, s8, s9, s10, s11⟩
             go_simp
             exact rl
            rotate_left
            ·exact ap
            refine pure_ (i := 32) (N := some 66) (v := ?_) (a' := ?_) #[true, true, true, true, true, true, true, true, true, true, true, true, true, true, true, true, true, true, true, true, true, true, true, true, true, true, true, true, true, true, true, true, true, false, false, false, false, false] rfl rfl (any_of HT_.out kr) (fun _ _ _ h => h) (Or.inl ⟨by rfl, ?_⟩) ?_ ?_
            rotate_left
            ·exact wl
            rotate_left
            ·exact ap
            refine pure_ (i := 33) (N := some 67) (v := ?_) (a' := ?_) #[true, true, true, true, true, true, true, true, true, true, true, true, true, true, true, true, true, true, true, true, true, true, true, true, true, true, true, true, true, true, true, true, true, true, false, false, false, false] rfl rfl (any_of HT_.out kr) (fun _ _ _ h => h) (Or.inl ⟨by rfl, ?_⟩) ?_ ?_
            rotate_left
            ·exact wl
            rotate_left
            ·exact ap
            refine take_ (i := 34) (N := some 68) (v := ?_) (a' := ?_) #[true, true, true, true, true, true, true, true, true, true, true, true, true, true, true, true, true, true, true, true, true, true, true, true, true, true, true, true, true, true, true, true, true, true, true, false, false, false] rfl rfl (take_ofW HT_.out HW_.out kr) (fun _ _ _ h => h) (Or.inl ⟨by rfl, ?_⟩) hHeld ?_ ?_
            rotate_left
            ·rintro w' ⟨s0, s1, s2, s3, s4, s5, s6, s7, s8, s9, s10, s11⟩
             go_simp
             exact rl
            rotate_left
            ·exact ap
            refine one_ (i := 35) (N := some 69) #[true, true, true, true, true, true, true, true, true, true, true, true, true, true, true, true, true, true, true, true, true, true, true, true, true, true, true, true, true, true, true, true, true, true, true, true, false, false] rfl rfl (one_of HT_.out kr) (by decide) (fun K hK => ?_)
            refine goes_ Tryd.func57 kr rfl #[.slice A348_1 ((rd_T59 l1_1 x5_1).f1).length c348_1] (by rfl) rfl rfl ga ?_
            with_reducible refine (lodestarref05_Zero.calls k1 _ _ ((rd_T59 l1_1 x5_1).f1) t352 _ ?side1 ?side2 A32.out).mono ?_
            (case side1 => repeat (first | exact (Kd.C_below HR351_1.out (bl HB.out)) | (with_reducible refine Kd.C_alloc ?_ _) | (with_reducible refine Kd.C_drewN ?_ _) | (with_reducible refine Kd.C_drew ?_)))
            (case side2 => exact HC351_1.out)
            rintro e w' ⟨rfl, ⟨nd, rfl⟩⟩
            refine ⟨_, rfl, ?_⟩
            refine hK.out _ _ ⟨(blk_cell BK339.out 0).trans rfl, (blk_cell BK339.out 1).trans rfl, (blk_cell BK339.out 2).trans rfl, (blk_cell BK347.out 0).trans rfl, (blk_cell BK347.out 1).trans rfl, (blk_cell BK347.out 2).trans rfl, ((HB.out.cell (World.block_lt_of_cell? w _ hw348_0)).trans hw348_0), ((HB.out.cell (World.block_lt_of_cell? w _ hw348_1)).trans hw348_1), ((HB.out.cell (World.block_lt_of_cell? w _ hw349_0)).trans hw349_0), ((HB.out.cell (World.block_lt_of_cell? w _ hw349_1)).trans hw349_1), ((HB.out.cell (World.block_lt_of_cell? w _ hw351_0)).trans hw351_0), ((HB.out.cell (World.block_lt_of_cell? w _ hw351_1)).trans hw351_1)⟩ (fun hHeld => ?_)
            clear hK K
            refine norm_ (a' := ?_) ?_ ?_
            rotate_left
            ·show Act.put _ (some 69) _ = _
             exact ap
            refine pure_ (i := 36) (N := some 70) (v := ?_) (a' := ?_) #[true, true, true, true, true, true, true, true, true, true, true, true, true, true, true, true, true, true, true, true, true, true, true, true, true, true, true, true, true, true, true, true, true, true, true, true, true, false] rfl rfl (any_of HT_.out kr) (fun _ _ _ h => h) (Or.inl ⟨by rfl, ?_⟩) ?_ ?_
            rotate_left
            ·exact wl
            rotate_left
            ·exact ap
            refine pure_ (i := 37) (N := some 71) (v := ?_) (a' := ?_) #[true, true, true, true, true, true, true, true, true, true, true, true, true, true, true, true, true, true, true, true, true, true, true, true, true, true, true, true, true, true, true, true, true, true, true, true, true, true] rfl rfl (any_of HT_.out kr) (fun _ _ _ h => h) (Or.inl ⟨by rfl, ?_⟩) ?_ ?_
            rotate_left
            ·exact wl
            rotate_left
            ·exact ap
            refine done_ (done_of HT_.out kr) ?_
            try go_wp2
            go_meet
            case rel => exact ⟨_, (t352), hsr, H', ⟨by have := HK1.out; first | omega | exact Nat.le_refl _⟩, ⟨pk BK338.out⟩, ⟨pk BK339.out⟩, ⟨pk BK347.out⟩, ⟨bl HB.out⟩⟩
           ·rw [if_neg c31] at H
            have c31b0 : (t345 == 3) = false := beq_eq_false_iff_ne.mpr c31
            have c31b1 : (t345 != 3) = true := bne_iff_ne.mpr c31
            have H' := Aside0.mk H
            clear H
            try go_wp2
            have n0_ : Aside0 ((((w23.setCell ⟨gb347, 0, none⟩ (.string t343)).setCell ⟨gb347, 1, none⟩ (.int .i64 t344)).setCell ⟨gb347, 2, none⟩ (.int .i64 t345)).heap[gb338]? = some (.cells #[.slice A0_0 l0_0.length c0_0, .slice A0_1 l0_1.length c0_1] 51 (0, 0))) := ⟨by refine pk ?_; refine blk_far ?_ NB338_347.out _; refine pk ?_; refine blk_far ?_ NB338_347.out _; refine pk ?_; refine blk_far ?_ NB338_347.out _; exact pk BK338.out⟩
            have n1_ : Aside0 ((((w23.setCell ⟨gb347, 0, none⟩ (.string t343)).setCell ⟨gb347, 1, none⟩ (.int .i64 t344)).setCell ⟨gb347, 2, none⟩ (.int .i64 t345)).heap[gb339]? = some (.cells #[.int .i64 a1_0, .slice (some ad342) l1_1.length c1_1, .slice A1_2 l1_2.length c1_2] 25 (0, 0))) := ⟨by refine pk ?_; refine blk_far ?_ NB339_347.out _; refine pk ?_; refine blk_far ?_ NB339_347.out _; refine pk ?_; refine blk_far ?_ NB339_347.out _; exact pk BK339.out⟩
            have n2_ : Aside0 ((((w23.setCell ⟨gb347, 0, none⟩ (.string t343)).setCell ⟨gb347, 1, none⟩ (.int .i64 t344)).setCell ⟨gb347, 2, none⟩ (.int .i64 t345)).heap[gb347]? = some (.cells #[.string t343, .int .i64 t344, .int .i64 t345] 89 (0, 0))) := ⟨by refine pk ?_; refine blk_put (cs := #[.string t343, .int .i64 t344, .int .i64 0]) ?_ 2 _ rfl; refine pk ?_; refine blk_put (cs := #[.string t343, .int .i64 0, .int .i64 0]) ?_ 1 _ rfl; refine pk ?_; refine blk_put (cs := #[.string (⟨#[]⟩ : ByteArray), .int .i64 0, .int .i64 0]) ?_ 0 _ rfl; exact pk BK347.out⟩
            have n3_ : Aside0 (Below w.heap.size w (((w23.setCell ⟨gb347, 0, none⟩ (.string t343)).setCell ⟨gb347, 1, none⟩ (.int .i64 t344)).setCell ⟨gb347, 2, none⟩ (.int .i64 t345))) := ⟨bl HB.out⟩
            (try clear BK338)
            (try clear BK339)
            (try clear BK347)
            (try clear HB)
            generalize (((w23.setCell ⟨gb347, 0, none⟩ (.string t343)).setCell ⟨gb347, 1, none⟩ (.int .i64 t344)).setCell ⟨gb347, 2, none⟩ (.int .i64 t345)) = w35 at n0_ n1_ n2_ n3_ ⊢
            have BK338 := n0_
            have BK339 := n1_
            have BK347 := n2_
            have HB := n3_
            clear n0_ n1_ n2_ n3_
            replace BK338 := Aside0.mk (blk_drew BK338.out)
            replace BK339 := Aside0.mk (blk_drew BK339.out)
            replace BK347 := Aside0.mk (blk_drew BK347.out)
            replace HB := Aside0.mk (below_drew1 HB.out)
            have p348 : 0 ≤ (x5_1 : Int) := of_decide_eq_true ha
            have q348 : x5_1 < (l1_1.length : Int) := of_decide_eq_true ha
            obtain ⟨ad348, A348_1, c348_1, e348, hx348_0, hx348_1, hl348_1, hi348_1⟩ := at_T59 HR1_1.out x5_1 p348 q348
            have hw348_1 := hx348_1
            have hw348_0 := hx348_0
            obtain rfl : ad342 = ad348 := (by injection e348)
            replace hx348_0 := (HB.out.cell (World.block_lt_of_cell? w _ hx348_0)).trans hx348_0
            replace hx348_1 := (HB.out.cell (World.block_lt_of_cell? w _ hx348_1)).trans hx348_1
            have HR348_1 := Aside0.mk hi348_1
            have HC348_1 := Aside0.mk hl348_1
            clear hi348_1 hl348_1
            replace p348 := eq_true p348
            replace q348 := eq_true q348
            have p349 : 0 ≤ (x5_1 : Int) := of_decide_eq_true ha
            have q349 : x5_1 < (l1_1.length : Int) := of_decide_eq_true ha
            obtain ⟨ad349, A349_1, c349_1, e349, hx349_0, hx349_1, hl349_1, hi349_1⟩ := at_T59 HR1_1.out x5_1 p349 q349
            have hw349_1 := hx349_1
            have hw349_0 := hx349_0
            obtain rfl : ad342 = ad349 := (by injection e349)
            replace hx349_0 := (HB.out.cell (World.block_lt_of_cell? w _ hx349_0)).trans hx349_0
            replace hx349_1 := (HB.out.cell (World.block_lt_of_cell? w _ hx349_1)).trans hx349_1
            have HR349_1 := Aside0.mk hi349_1
            have HC349_1 := Aside0.mk hl349_1
            clear hi349_1 hl349_1
            replace p349 := eq_true p349
            replace q349 := eq_true q349
            have ea_ := Option.some.inj (hx348_1.symm.trans hx349_1)
            injection ea_ with ea_ en_ ec_
            subst ea_
            subst ec_
            clear en_
            refine start_ (n := 38) (S := fun w' => w'.cell? ⟨gb339, 0, none⟩ = some (.int .i64 a1_0) ∧ w'.cell? ⟨gb339, 1, none⟩ = some (.slice (some ad342) l1_1.length c1_1) ∧ w'.cell? ⟨gb339, 2, none⟩ = some (.slice A1_2 l1_2.length c1_2) ∧ w'.cell? ⟨gb347, 0, none⟩ = some (.string t343) ∧ w'.cell? ⟨gb347, 1, none⟩ = some (.int .i64 t344) ∧ w'.cell? ⟨gb347, 2, none⟩ = some (.int .i64 t345) ∧ w'.cell? (ad342.add ((x5_1).toNat * 2)) = some (.string ((rd_T59 l1_1 x5_1).f0)) ∧ w'.cell? ⟨(ad342.add ((x5_1).toNat * 2)).block, (ad342.add ((x5_1).toNat * 2)).off + 1, none⟩ = some (.slice A348_1 ((rd_T59 l1_1 x5_1).f1).length c348_1) ∧ w'.cell? (ad342.add ((x5_1).toNat * 2)) = some (.string ((rd_T59 l1_1 x5_1).f0)) ∧ w'.cell? ⟨(ad342.add ((x5_1).toNat * 2)).block, (ad342.add ((x5_1).toNat * 2)).off + 1, none⟩ = some (.slice A348_1 ((rd_T59 l1_1 x5_1).f1).length c348_1)) (ds := []) #[false, false, false, false, false, false, false, false, false, false, false, false, false, false, false, false, false, false, false, false, false, false, false, false, false, false, false, false, false, false, false, false, false, false, false, false, false, false] kr rfl rfl ⟨(blk_cell BK339.out 0).trans rfl, (blk_cell BK339.out 1).trans rfl, (blk_cell BK339.out 2).trans rfl, (blk_cell BK347.out 0).trans rfl, (blk_cell BK347.out 1).trans rfl, (blk_cell BK347.out 2).trans rfl, ((HB.out.cell (World.block_lt_of_cell? w _ hw348_0)).trans hw348_0), ((HB.out.cell (World.block_lt_of_cell? w _ hw348_1)).trans hw348_1), ((HB.out.cell (World.block_lt_of_cell? w _ hw349_0)).trans hw349_0), ((HB.out.cell (World.block_lt_of_cell? w _ hw349_1)).trans hw349_1)⟩ (fun hHeld => ?_); refine with_tabW lodestarref05_Check.tab9 lodestarref05_Check.bits9 (fun HT_ HW_ => ?_)
            generalize w35.drew = w36 at BK338 BK339 BK347 HB HR348_1 HR349_1 hx348_0 hx348_1 hx349_0 hx349_1 hHeld ⊢
            refine pure_ (i := 0) (N := some 34) (v := ?_) (a' := ?_) #[true, false, false, false, false, false, false, false, false, false, false, false, false, false, false, false, false, false, false, false, false, false, false, false, false, false, false, false, false, false, false, false, false, false, false, false, false, false] rfl rfl (any_of HT_.out kr) (fun _ _ _ h => h) (Or.inl ⟨by rfl, ?_⟩) ?_ ?_
            rotate_left
            ·exact wl
            rotate_left
            ·exact ap
            refine pure_ (i := 1) (N := some 35) (v := ?_) (a' := ?_) #[true, true, false, false, false, false, false, false, false, false, false, false, false, false, false, false, false, false, false, false, false, false, false, false, false, false, false, false, false, false, false, false, false, false, false, false, false, false] rfl rfl (any_of HT_.out kr) (fun _ _ _ h => h) (Or.inl ⟨by rfl, ?_⟩) ?_ ?_
            rotate_left
            ·exact wl
            rotate_left
            ·exact ap
            refine pure_ (i := 2) (N := some 36) (v := ?_) (a' := ?_) #[true, true, true, false, false, false, false, false, false, false, false, false, false, false, false, false, false, false, false, false, false, false, false, false, false, false, false, false, false, false, false, false, false, false, false, false, false, false] rfl rfl (any_of HT_.out kr) (fun _ _ _ h => h) (Or.inl ⟨by rfl, ?_⟩) ?_ ?_
            rotate_left
            ·exact wl
            rotate_left
            ·exact ap
            refine pure_ (i := 3) (N := some 37) (v := ?_) (a' := ?_) #[true, true, true, true, false, false, false, false, false, false, false, false, false, false, false, false, false, false, false, false, false, false, false, false, false, false, false, false, false, false, false, false, false, false, false, false, false, false] rfl rfl (any_of HT_.out kr) (fun _ _ _ h => h) (Or.inl ⟨by rfl, ?_⟩) ?_ ?_
            rotate_left
            ·exact wl
            rotate_left
            ·exact ap
            refine pure_ (i := 5) (N := some 39) (v := ?_) (a' := ?_) #[true, true, true, true, false, true, false, false, false, false, false, false, false, false, false, false, false, false, false, false, false, false, false, false, false, false, false, false, false, false, false, false, false, false, false, false, false, false] rfl rfl (any_of HT_.out kr) (fun _ _ _ h => h) (Or.inl ⟨by rfl, ?_⟩) ?_ ?_
            rotate_left
            ·exact wl
            rotate_left
            ·exact ap
            refine pure_ (i := 10) (N := some 44) (v := ?_) (a' := ?_) #[true, true, true, true, false, true, false, false, false, false, true, false, false, false, false, false, false, false, false, false, false, false, false, false, false, false, false, false, false, false, false, false, false, false, false, false, false, false] rfl rfl (any_of HT_.out kr) (fun _ _ _ h => h) (Or.inl ⟨by rfl, ?_⟩) ?_ ?_
            rotate_left
            ·exact wl
            rotate_left
            ·exact ap
            refine take_ (i := 4) (N := some 38) (v := ?_) (a' := ?_) #[true, true, true, true, true, true, false, false, false, false, true, false, false, false, false, false, false, false, false, false, false, false, false, false, false, false, false, false, false, false, false, false, false, false, false, false, false, false] rfl rfl (take_ofW HT_.out HW_.out kr) (fun _ _ _ h => h) (Or.inl ⟨by rfl, ?_⟩) hHeld ?_ ?_
            rotate_left
            ·rintro w' ⟨s0, s1, s2, s3, s4, s5, s6, s7, s8, s9⟩
             go_simp
             exact rl
            rotate_left
            ·exact ap
            refine pure_ (i := 6) (N := some 40) (v := ?_) (a' := ?_) #[true, true, true, true, true, true, true, false, false, false, true, false, false, false, false, false, false, false, false, false, false, false, false, false, false, false, false, false, false, false, false, false, false, false, false, false, false, false] rfl rfl (any_of HT_.out kr) (fun _ _ _ h => h) (Or.inl ⟨by rfl, ?_⟩) ?_ ?_
            rotate_left
            ·exact wl
            rotate_left
            ·exact ap
            refine pure_ (i := 7) (N := some 41) (v := ?_) (a' := ?_) #[true, true, true, true, true, true, true, true, false, false, true, false, false, false, false, false, false, false, false, false, false, false, false, false, false, false, false, false, false, false, false, false, false, false, false, false, false, false] rfl rfl (any_of HT_.out kr) (fun _ _ _ h => h) (Or.inl ⟨by rfl, ?_⟩) ?_ ?_
            rotate_left
            ·exact wl
            rotate_left
            ·exact ap
            refine take_ (i := 8) (N := some 42) (v := ?_) (a' := ?_) #[true, true, true, true, true, true, true, true, true, false, true, false, false, false, false, false, false, false, false, false, false, false, false, false, false, false, false, false, false, false, false, false, false, false, false, false, false, false] rfl rfl (take_ofW HT_.out HW_.out kr) (fun _ _ _ h => h) (Or.inl ⟨by rfl, ?_⟩) hHeld ?_ ?_
            rotate_left
            ·rintro w' ⟨s0, s1, s2, s3, s4, s5, s6, s7, s8, s9⟩
             go_simp
             exact rl
            rotate_left
            ·exact ap
            refine pure_ (i := 9) (N := some 43) (v := ?_) (a' := ?_) #[true, true, true, true, true, true, true, true, true, true, true, false, false, false, false, false, false, false, false, false, false, false, false, false, false, false, false, false, false, false, false, false, false, false, false, false, false, false] rfl rfl (any_of HT_.out kr) (fun _ _ _ h => h) (Or.inl ⟨by rfl, ?_⟩) ?_ ?_
            rotate_left
            ·exact wl
            rotate_left
            ·exact ap
            refine take_ (i := 11) (N := some 45) (v := ?_) (a' := ?_) #[true, true, true, true, true, true, true, true, true, true, true, true, false, false, false, false, false, false, false, false, false, false, false, false, false, false, false, false, false, false, false, false, false, false, false, false, false, false] rfl rfl (take_ofW HT_.out HW_.out kr) (fun _ _ _ h => h) (Or.inl ⟨by rfl, ?_⟩) hHeld ?_ ?_
            rotate_left
            ·rintro w' ⟨s0, s1, s2, s3, s4, s5, s6, s7, s8, s9⟩
             go_simp
             exact rl
            rotate_left
            ·exact ap
            refine pure_ (i := 12) (N := some 46) (v := ?_) (a' := ?_) #[true, true, true, true, true, true, true, true, true, true, true, true, true, false, false, false, false, false, false, false, false, false, false, false, false, false, false, false, false, false, false, false, false, false, false, false, false, false] rfl rfl (any_of HT_.out kr) (fun _ _ _ h => h) (Or.inl ⟨by rfl, ?_⟩) ?_ ?_
            rotate_left
            ·exact wl
            rotate_left
            ·exact ap
            refine pure_ (i := 13) (N := some 47) (v := ?_) (a' := ?_) #[true, true, true, true, true, true, true, true, true, true, true, true, true, true, false, false, false, false, false, false, false, false, false, false, false, false, false, false, false, false, false, false, false, false, false, false, false, false] rfl rfl (any_of HT_.out kr) (fun _ _ _ h => h) (Or.inl ⟨by rfl, ?_⟩) ?_ ?_
            rotate_left
            ·exact wl
            rotate_left
            ·exact ap
            refine pure_ (i := 14) (N := some 48) (v := ?_) (a' := ?_) #[true, true, true, true, true, true, true, true, true, true, true, true, true, true, true, false, false, false, false, false, false, false, false, false, false, false, false, false, false, false, false, false, false, false, false, false, false, false] rfl rfl (any_of HT_.out kr) (fun _ _ _ h => h) (Or.inl ⟨by rfl, ?_⟩) ?_ ?_
            rotate_left
            ·exact wl
            rotate_left
            ·exact ap
            refine pure_ (i := 15) (N := some 49) (v := ?_) (a' := ?_) #[true, true, true, true, true, true, true, true, true, true, true, true, true, true, true, true, false, false, false, false, false, false, false, false, false, false, false, false, false, false, false, false, false, false, false, false, false, false] rfl rfl (any_of HT_.out kr) (fun _ _ _ h => h) (Or.inl ⟨by rfl, ?_⟩) ?_ ?_
            rotate_left
            ·exact wl
            rotate_left
            ·exact ap
            refine pure_ (i := 17) (N := some 51) (v := ?_) (a' := ?_) #[true, true, true, true, true, true, true, true, true, true, true, true, true, true, true, true, false, true, false, false, false, false, false, false, false, false, false, false, false, false, false, false, false, false, false, false, false, false] rfl rfl (any_of HT_.out kr) (fun _ _ _ h => h) (Or.inl ⟨by rfl, ?_⟩) ?_ ?_
            rotate_left
            ·exact wl
            rotate_left
            ·exact ap
            refine take_ (i := 16) (N := some 50) (v := ?_) (a' := ?_) #[true, true, true, true, true, true, true, true, true, true, true, true, true, true, true, true, true, true, false, false, false, false, false, false, false, false, false, false, false, false, false, false, false, false, false, false, false, false] rfl rfl (take_ofW HT_.out HW_.out kr) (fun _ _ _ h => h) (Or.inl ⟨by rfl, ?_⟩) hHeld ?_ ?_
            rotate_left
            ·rintro w' ⟨s0, s1, s2, s3, s4, s5, s6, s7, s8, s9⟩
             go_simp
             exact rl
            rotate_left
            ·exact ap
            refine pure_ (i := 18) (N := some 52) (v := ?_) (a' := ?_) #[true, true, true, true, true, true, true, true, true, true, true, true, true, true, true, true, true, true, true, false, false, false, false, false, false, false, false, false, false, false, false, false, false, false, false, false, false, false] rfl rfl (any_of HT_.out kr) (fun _ _ _ h => h) (Or.inl ⟨by rfl, ?_⟩) ?_ ?_
            rotate_left
            ·exact wl
            rotate_left
            ·exact ap
            refine pure_ (i := 19) (N := some 53) (v := ?_) (a' := ?_) #[true, true, true, true, true, true, true, true, true, true, true, true, true, true, true, true, true, true, true, true, false, false, false, false, false, false, false, false, false, false, false, false, false, false, false, false, false, false] rfl rfl (any_of HT_.out kr) (fun _ _ _ h => h) (Or.inl ⟨by rfl, ?_⟩) ?_ ?_
            rotate_left
            ·exact wl
            rotate_left
            ·exact ap
            refine take_ (i := 20) (N := some 54) (v := ?_) (a' := ?_) #[true, true, true, true, true, true, true, true, true, true, true, true, true, true, true, true, true, true, true, true, true, false, false, false, false, false, false, false, false, false, false, false, false, false, false, false, false, false] rfl rfl (take_ofW HT_.out HW_.out kr) (fun _ _ _ h => h) (Or.inl ⟨by rfl, ?_⟩) hHeld ?_ ?_
            rotate_left
            ·rintro w' ⟨s0, s1, s2, s3, s4, s5, s6, s7, s8, s9⟩
             go_simp
             exact rl
            rotate_left
            ·exact ap
            refine one_ (i := 21) (N := some 55) #[true, true, true, true, true, true, true, true, true, true, true, true, true, true, true, true, true, true, true, true, true, true, false, false, false, false, false, false, false, false, false, false, false, false, false, false, false, false] rfl rfl (one_of HT_.out kr) (by decide) (fun K hK => ?_)
            refine goes_ Tryd.func44 kr rfl #[.slice A348_1 ((rd_T59 l1_1 x5_1).f1).length c348_1] (by rfl) rfl rfl ga ?_
            with_reducible refine (lodestarref05_Range.calls k1 _ _ ((rd_T59 l1_1 x5_1).f1) true _ ?side1 ?side2 A29.out).mono ?_
            (case side1 => repeat (first | exact (Kd.C_below HR349_1.out HB.out) | (with_reducible refine Kd.C_alloc ?_ _) | (with_reducible refine Kd.C_drewN ?_ _) | (with_reducible refine Kd.C_drew ?_)))
            (case side2 => exact HC349_1.out)
            rintro e w' ⟨rfl, ⟨nd, rfl⟩⟩
            refine ⟨_, rfl, ?_⟩
            refine hK.out _ _ ⟨(blk_cell BK339.out 0).trans rfl, (blk_cell BK339.out 1).trans rfl, (blk_cell BK339.out 2).trans rfl, (blk_cell BK347.out 0).trans rfl, (blk_cell BK347.out 1).trans rfl, (blk_cell BK347.out 2).trans rfl, ((HB.out.cell (World.block_lt_of_cell? w _ hw348_0)).trans hw348_0), ((HB.out.cell (World.block_lt_of_cell? w _ hw348_1)).trans hw348_1), ((HB.out.cell (World.block_lt_of_cell? w _ hw349_0)).trans hw349_0), ((HB.out.cell (World.block_lt_of_cell? w _ hw349_1)).trans hw349_1)⟩ (fun hHeld => ?_)
            clear hK K
            refine norm_ (a' := ?_) ?_ ?_
            rotate_left
            ·show Act.put _ (some 55) _ = _
             exact ap
            refine pure_ (i := 22) (N := some 56) (v := ?_) (a' := ?_) #[true, true, true, true, true, true, true, true, true, true, true, true, true, true, true, true, true, true, true, true, true, true, true, false, false, false, false, false, false, false, false, false, false, false, false, false, false, false] rfl rfl (any_of HT_.out kr) (fun _ _ _ h => h) (Or.inl ⟨by rfl, ?_⟩) ?_ ?_
            rotate_left
            ·exact wl
            rotate_left
            ·exact ap
            refine pure_ (i := 23) (N := some 57) (v := ?_) (a' := ?_) #[true, true, true, true, true, true, true, true, true, true, true, true, true, true, true, true, true, true, true, true, true, true, true, true, false, false, false, false, false, false, false, false, false, false, false, false, false, false] rfl rfl (any_of HT_.out kr) (fun _ _ _ h => h) (Or.inl ⟨by rfl, ?_⟩) ?_ ?_
            rotate_left
            ·exact wl
            rotate_left
            ·exact ap
            refine pure_ (i := 24) (N := some 58) (v := ?_) (a' := ?_) #[true, true, true, true, true, true, true, true, true, true, true, true, true, true, true, true, true, true, true, true, true, true, true, true, true, false, false, false, false, false, false, false, false, false, false, false, false, false] rfl rfl (any_of HT_.out kr) (fun _ _ _ h => h) (Or.inl ⟨by rfl, ?_⟩) ?_ ?_
            rotate_left
            ·exact wl
            rotate_left
            ·exact ap
            refine pure_ (i := 25) (N := some 59) (v := ?_) (a' := ?_) #[true, true, true, true, true, true, true, true, true, true, true, true, true, true, true, true, true, true, true, true, true, true, true, true, true, true, false, false, false, false, false, false, false, false, false, false, false, false] rfl rfl (any_of HT_.out kr) (fun _ _ _ h => h) (Or.inl ⟨by rfl, ?_⟩) ?_ ?_
            rotate_left
            ·exact wl
            rotate_left
            ·exact ap
            refine take_ (i := 26) (N := some 60) (v := ?_) (a' := ?_) #[true, true, true, true, true, true, true, true, true, true, true, true, true, true, true, true, true, true, true, true, true, true, true, true, true, true, true, false, false, false, false, false, false, false, false, false, false, false] rfl rfl (take_ofW HT_.out HW_.out kr) (fun _ _ _ h => h) (Or.inl ⟨by rfl, ?_⟩) hHeld ?_ ?_
            rotate_left
            ·rintro w' ⟨s0, s1, s2, s3, s4, s5, s6, s7, s8, s9⟩
             go_simp
             exact rl
            rotate_left
            ·exact ap
            refine pure_ (i := 27) (N := some 61) (v := ?_) (a' := ?_) #[true, true, true, true, true, true, true, true, true, true, true, true, true, true, true, true, true, true, true, true, true, true, true, true, true, true, true, true, false, false, false, false, false, false, false, false, false, false] rfl rfl (any_of HT_.out kr) (fun _ _ _ h => h) (Or.inl ⟨by rfl, ?_⟩) ?_ ?_
            rotate_left
            ·exact wl
            rotate_left
            ·exact ap
            refine pure_ (i := 28) (N := some 62) (v := ?_) (a' := ?_) #[true, true, true, true, true, true, true, true, true, true, true, true, true, true, true, true, true, true, true, true, true, true, true, true, true, true, true, true, true, false, false, false, false, false, false, false, false, false] rfl rfl (any_of HT_.out kr) (fun _ _ _ h => h) (Or.inl ⟨by rfl, ?_⟩) ?_ ?_
            rotate_left
            ·exact wl
            rotate_left
            ·exact ap
            refine pure_ (i := 29) (N := some 63) (v := undef) (a' := ?_) #[true, true, true, true, true, true, true, true, true, true, true, true, true, true, true, true, true, true, true, true, true, true, true, true, true, true, true, true, true, true, false, false, false, false, false, false, false, false] rfl rfl (any_of HT_.out kr) (fun _ _ _ h => h) (Or.inr ⟨by rfl, rfl⟩) ?_ ?_
            rotate_left
            ·exact ap
            refine pure_ (i := 30) (N := some 64) (v := undef) (a' := ?_) #[true, true, true, true, true, true, true, true, true, true, true, true, true, true, true, true, true, true, true, true, true, true, true, true, true, true, true, true, true, true, true, false, false, false, false, false, false, false] rfl rfl (any_of HT_.out kr) (fun _ _ _ h => h) (Or.inr ⟨by rfl, rfl⟩) ?_ ?_
            rotate_left
            ·exact ap
            refine pure_ (i := 31) (N := some 65) (v := undef) (a' := ?_) #[true, true, true, true, true, true, true, true, true, true, true, true, true, true, true, true, true, true, true, true, true, true, true, true, true, true, true, true, true, true, true, true, false, false, false, false, false, false] rfl rfl (any_of HT_.out kr) (fun _ _ _ h => h) (Or.inr ⟨by rfl, rfl⟩) ?_ ?_
            rotate_left
            ·exact ap
            refine pure_ (i := 32) (N := some 66) (v := undef) (a' := ?_) #[true, true, true, true, true, true, true, true, true, true, true, true, true, true, true, true, true, true, true, true, true, true, true, true, true, true, true, true, true, true, true, true, true, false, false, false, false, false] rfl rfl (any_of HT_.out kr) (fun _ _ _ h => h) (Or.inr ⟨by rfl, rfl⟩) ?_ ?_
            rotate_left
            ·exact ap
            refine pure_ (i := 33) (N := some 67) (v := undef) (a' := ?_) #[true, true, true, true, true, true, true, true, true, true, true, true, true, true, true, true, true, true, true, true, true, true, true, true, true, true, true, true, true, true, true, true, true, true, false, false, false, false] rfl rfl (any_of HT_.out kr) (fun _ _ _ h => h) (Or.inr ⟨by rfl, rfl⟩) ?_ ?_
            rotate_left
            ·exact ap
            refine pure_ (i := 34) (N := some 68) (v := undef) (a' := ?_) #[true, true, true, true, true, true, true, true, true, true, true, true, true, true, true, true, true, true, true, true, true, true, true, true, true, true, true, true, true, true, true, true, true, true, true, false, false, false] rfl rfl (any_of HT_.out kr) (fun _ _ _ h => h) (Or.inr ⟨by rfl, rfl⟩) ?_ ?_
            rotate_left
            ·exact ap
            refine pure_ (i := 35) (N := some 69) (v := undef) (a' := ?_) #[true, true, true, true, true, true, true, true, true, true, true, true, true, true, true, true, true, true, true, true, true, true, true, true, true, true, true, true, true, true, true, true, true, true, true, true, false, false] rfl rfl (any_of HT_.out kr) (fun _ _ _ h => h) (Or.inr ⟨by rfl, rfl⟩) ?_ ?_
            rotate_left
            ·exact ap
            refine pure_ (i := 36) (N := some 70) (v := ?_) (a' := ?_) #[true, true, true, true, true, true, true, true, true, true, true, true, true, true, true, true, true, true, true, true, true, true, true, true, true, true, true, true, true, true, true, true, true, true, true, true, true, false] rfl rfl (any_of HT_.out kr) (fun _ _ _ h => h) (Or.inl ⟨by rfl, ?_⟩) ?_ ?_
            rotate_left
            ·exact wl
            rotate_left
            ·exact ap
            refine pure_ (i := 37) (N := some 71) (v := ?_) (a' := ?_) #[true, true, true, true, true, true, true, true, true, true, true, true, true, true, true, true, true, true, true, true, true, true, true, true, true, true, true, true, true, true, true, true, true, true, true, true, true, true] rfl rfl (any_of HT_.out kr) (fun _ _ _ h => h) (Or.inl ⟨by rfl, ?_⟩) ?_ ?_
            rotate_left
            ·exact wl
            rotate_left
            ·exact ap
            refine done_ (done_of HT_.out kr) ?_
            try go_wp2
            go_meet
            case rel => exact ⟨_, (false), hsr, H', ⟨by have := HK1.out; first | omega | exact Nat.le_refl _⟩, ⟨pk BK338.out⟩, ⟨pk BK339.out⟩, ⟨pk BK347.out⟩, ⟨bl HB.out⟩⟩
          ·replace c30 := Bool.eq_false_iff.mpr c30
           subst c30
           have H1 : (lodestarref05_Check.j1 k1 x5_1 true l0_0 l0_1 a1_0 l1_1 l1_2) = some r := by rw [if_neg (show ¬ (false = true) by decide)] at H; exact H
           clear H
           have H := H1
           clear H1
           have H' := Aside0.mk H
           clear H
           try go_wp2
           have n0_ : Aside0 ((((w23.setCell ⟨gb347, 0, none⟩ (.string t343)).setCell ⟨gb347, 1, none⟩ (.int .i64 t344)).setCell ⟨gb347, 2, none⟩ (.int .i64 t345)).heap[gb338]? = some (.cells #[.slice A0_0 l0_0.length c0_0, .slice A0_1 l0_1.length c0_1] 51 (0, 0))) := ⟨by refine pk ?_; refine blk_far ?_ NB338_347.out _; refine pk ?_; refine blk_far ?_ NB338_347.out _; refine pk ?_; refine blk_far ?_ NB338_347.out _; exact pk BK338.out⟩
           have n1_ : Aside0 ((((w23.setCell ⟨gb347, 0, none⟩ (.string t343)).setCell ⟨gb347, 1, none⟩ (.int .i64 t344)).setCell ⟨gb347, 2, none⟩ (.int .i64 t345)).heap[gb339]? = some (.cells #[.int .i64 a1_0, .slice (some ad342) l1_1.length c1_1, .slice A1_2 l1_2.length c1_2] 25 (0, 0))) := ⟨by refine pk ?_; refine blk_far ?_ NB339_347.out _; refine pk ?_; refine blk_far ?_ NB339_347.out _; refine pk ?_; refine blk_far ?_ NB339_347.out _; exact pk BK339.out⟩
           have n2_ : Aside0 ((((w23.setCell ⟨gb347, 0, none⟩ (.string t343)).setCell ⟨gb347, 1, none⟩ (.int .i64 t344)).setCell ⟨gb347, 2, none⟩ (.int .i64 t345)).heap[gb347]? = some (.cells #[.string t343, .int .i64 t344, .int .i64 t345] 89 (0, 0))) := ⟨by refine pk ?_; refine blk_put (cs := #[.string t343, .int .i64 t344, .int .i64 0]) ?_ 2 _ rfl; refine pk ?_; refine blk_put (cs := #[.string t343, .int .i64 0, .int .i64 0]) ?_ 1 _ rfl; refine pk ?_; refine blk_put (cs := #[.string (⟨#[]⟩ : ByteArray), .int .i64 0, .int .i64 0]) ?_ 0 _ rfl; exact pk BK347.out⟩
           have n3_ : Aside0 (Below w.heap.size w (((w23.setCell ⟨gb347, 0, none⟩ (.string t343)).setCell ⟨gb347, 1, none⟩ (.int .i64 t344)).setCell ⟨gb347, 2, none⟩ (.int .i64 t345))) := ⟨bl HB.out⟩
           (try clear BK338)
           (try clear BK339)
           (try clear BK347)
           (try clear HB)
           generalize (((w23.setCell ⟨gb347, 0, none⟩ (.string t343)).setCell ⟨gb347, 1, none⟩ (.int .i64 t344)).setCell ⟨gb347, 2, none⟩ (.int .i64 t345)) = w37 at n0_ n1_ n2_ n3_ ⊢
           have BK338 := n0_
           have BK339 := n1_
           have BK347 := n2_
           have HB := n3_
           clear n0_ n1_ n2_ n3_
           replace BK338 := Aside0.mk (blk_drew BK338.out)
           replace BK339 := Aside0.mk (blk_drew BK339.out)
           replace BK347 := Aside0.mk (blk_drew BK347.out)
           replace HB := Aside0.mk (below_drew1 HB.out)
           have p348 : 0 ≤ (x5_1 : Int) := of_decide_eq_true ha
           have q348 : x5_1 < (l1_1.length : Int) := of_decide_eq_true ha
           obtain ⟨ad348, A348_1, c348_1, e348, hx348_0, hx348_1, hl348_1, hi348_1⟩ := at_T59 HR1_1.out x5_1 p348 q348
           have hw348_1 := hx348_1
           have hw348_0 := hx348_0
           obtain rfl : ad342 = ad348 := (by injection e348)
           replace hx348_0 := (HB.out.cell (World.block_lt_of_cell? w _ hx348_0)).trans hx348_0
           replace hx348_1 := (HB.out.cell (World.block_lt_of_cell? w _ hx348_1)).trans hx348_1
           have HR348_1 := Aside0.mk hi348_1
           have HC348_1 := Aside0.mk hl348_1
           clear hi348_1 hl348_1
           replace p348 := eq_true p348
           replace q348 := eq_true q348
           have p349 : 0 ≤ (x5_1 : Int) := of_decide_eq_true ha
           have q349 : x5_1 < (l1_1.length : Int) := of_decide_eq_true ha
           obtain ⟨ad349, A349_1, c349_1, e349, hx349_0, hx349_1, hl349_1, hi349_1⟩ := at_T59 HR1_1.out x5_1 p349 q349
           have hw349_1 := hx349_1
           have hw349_0 := hx349_0
           obtain rfl : ad342 = ad349 := (by injection e349)
           replace hx349_0 := (HB.out.cell (World.block_lt_of_cell? w _ hx349_0)).trans hx349_0
           replace hx349_1 := (HB.out.cell (World.block_lt_of_cell? w _ hx349_1)).trans hx349_1
           have HR349_1 := Aside0.mk hi349_1
           have HC349_1 := Aside0.mk hl349_1
           clear hi349_1 hl349_1
           replace p349 := eq_true p349
           replace q349 := eq_true q349
           have ea_ := Option.some.inj (hx348_1.symm.trans hx349_1)
           injection ea_ with ea_ en_ ec_
           subst ea_
           subst ec_
           clear en_
           refine start_ (n := 38) (S := fun w' => w'.cell? ⟨gb339, 0, none⟩ = some (.int .i64 a1_0) ∧ w'.cell? ⟨gb339, 1, none⟩ = some (.slice (some ad342) l1_1.length c1_1) ∧ w'.cell? ⟨gb339, 2, none⟩ = some (.slice A1_2 l1_2.length c1_2) ∧ w'.cell? ⟨gb347, 0, none⟩ = some (.string t343) ∧ w'.cell? ⟨gb347, 1, none⟩ = some (.int .i64 t344) ∧ w'.cell? ⟨gb347, 2, none⟩ = some (.int .i64 t345) ∧ w'.cell? (ad342.add ((x5_1).toNat * 2)) = some (.string ((rd_T59 l1_1 x5_1).f0)) ∧ w'.cell? ⟨(ad342.add ((x5_1).toNat * 2)).block, (ad342.add ((x5_1).toNat * 2)).off + 1, none⟩ = some (.slice A348_1 ((rd_T59 l1_1 x5_1).f1).length c348_1) ∧ w'.cell? (ad342.add ((x5_1).toNat * 2)) = some (.string ((rd_T59 l1_1 x5_1).f0)) ∧ w'.cell? ⟨(ad342.add ((x5_1).toNat * 2)).block, (ad342.add ((x5_1).toNat * 2)).off + 1, none⟩ = some (.slice A348_1 ((rd_T59 l1_1 x5_1).f1).length c348_1)) (ds := []) #[false, false, false, false, false, false, false, false, false, false, false, false, false, false, false, false, false, false, false, false, false, false, false, false, false, false, false, false, false, false, false, false, false, false, false, false, false, false] kr rfl rfl ⟨(blk_cell BK339.out 0).trans rfl, (blk_cell BK339.out 1).trans rfl, (blk_cell BK339.out 2).trans rfl, (blk_cell BK347.out 0).trans rfl, (blk_cell BK347.out 1).trans rfl, (blk_cell BK347.out 2).trans rfl, ((HB.out.cell (World.block_lt_of_cell? w _ hw348_0)).trans hw348_0), ((HB.out.cell (World.block_lt_of_cell? w _ hw348_1)).trans hw348_1), ((HB.out.cell (World.block_lt_of_cell? w _ hw349_0)).trans hw349_0), ((HB.out.cell (World.block_lt_of_cell? w _ hw349_1)).trans hw349_1)⟩ (fun hHeld => ?_); refine with_tabW lodestarref05_Check.tab9 lodestarref05_Check.bits9 (fun HT_ HW_ => ?_)
           generalize w37.drew = w38 at BK338 BK339 BK347 HB HR348_1 HR349_1 hx348_0 hx348_1 hx349_0 hx349_1 hHeld ⊢
           refine pure_ (i := 0) (N := some 34) (v := ?_) (a' := ?_) #[true, false, false, false, false, false, false, false, false, false, false, false, false, false, false, false, false, false, false, false, false, false, false, false, false, false, false, false, false, false, false, false, false, false, false, false, false, false] rfl rfl (any_of HT_.out kr) (fun _ _ _ h => h) (Or.inl ⟨by rfl, ?_⟩) ?_ ?_
           rotate_left
           ·exact wl
           rotate_left
           ·exact ap
           refine pure_ (i := 1) (N := some 35) (v := ?_) (a' := ?_) #[true, true, false, false, false, false, false, false, false, false, false, false, false, false, false, false, false, false, false, false, false, false, false, false, false, false, false, false, false, false, false, false, false, false, false, false, false, false] rfl rfl (any_of HT_.out kr) (fun _ _ _ h => h) (Or.inl ⟨by rfl, ?_⟩) ?_ ?_
           rotate_left
           ·exact wl
           rotate_left
           ·exact ap
           refine pure_ (i := 2) (N := some 36) (v := ?_) (a' := ?_) #[true, true, true, false, false, false, false, false, false, false, false, false, false, false, false, false, false, false, false, false, false, false, false, false, false, false, false, false, false, false, false, false, false, false, false, false, false, false] rfl rfl (any_of HT_.out kr) (fun _ _ _ h => h) (Or.inl ⟨by rfl, ?_⟩) ?_ ?_
           rotate_left
           ·exact wl
           rotate_left
           ·exact ap
           refine pure_ (i := 3) (N := some 37) (v := ?_) (a' := ?_) #[true, true, true, true, false, false, false, false, false, false, false, false, false, false, false, false, false, false, false, false, false, false, false, false, false, false, false, false, false, false, false, false, false, false, false, false, false, false] rfl rfl (any_of HT_.out kr) (fun _ _ _ h => h) (Or.inl ⟨by rfl, ?_⟩) ?_ ?_
           rotate_left
           ·exact wl
           rotate_left
           ·exact ap
           refine pure_ (i := 5) (N := some 39) (v := ?_) (a' := ?_) #[true, true, true, true, false, true, false, false, false, false, false, false, false, false, false, false, false, false, false, false, false, false, false, false, false, false, false, false, false, false, false, false, false, false, false, false, false, false] rfl rfl (any_of HT_.out kr) (fun _ _ _ h => h) (Or.inl ⟨by rfl, ?_⟩) ?_ ?_
           rotate_left
           ·exact wl
           rotate_left
           ·exact ap
           refine pure_ (i := 10) (N := some 44) (v := ?_) (a' := ?_) #[true, true, true, true, false, true, false, false, false, false, true, false, false, false, false, false, false, false, false, false, false, false, false, false, false, false, false, false, false, false, false, false, false, false, false, false, false, false] rfl rfl (any_of HT_.out kr) (fun _ _ _ h => h) (Or.inl ⟨by rfl, ?_⟩) ?_ ?_
           rotate_left
           ·exact wl
           rotate_left
           ·exact ap
           refine take_ (i := 4) (N := some 38) (v := ?_) (a' := ?_) #[true, true, true, true, true, true, false, false, false, false, true, false, false, false, false, false, false, false, false, false, false, false, false, false, false, false, false, false, false, false, false, false, false, false, false, false, false, false] rfl rfl (take_ofW HT_.out HW_.out kr) (fun _ _ _ h => h) (Or.inl ⟨by rfl, ?_⟩) hHeld ?_ ?_
           rotate_left
           ·rintro w' ⟨s0, s1, s2, s3, s4, s5, s6, s7, s8, s9⟩
            go_simp
            exact rl
           rotate_left
           ·exact ap
           refine pure_ (i := 6) (N := some 40) (v := ?_) (a' := ?_) #[true, true, true, true, true, true, true, false, false, false, true, false, false, false, false, false, false, false, false, false, false, false, false, false, false, false, false, false, false, false, false, false, false, false, false, false, false, false] rfl rfl (any_of HT_.out kr) (fun _ _ _ h => h) (Or.inl ⟨by rfl, ?_⟩) ?_ ?_
           rotate_left
           ·exact wl
           rotate_left
           ·exact ap
           refine pure_ (i := 7) (N := some 41) (v := ?_) (a' := ?_) #[true, true, true, true, true, true, true, true, false, false, true, false, false, false, false, false, false, false, false, false, false, false, false, false, false, false, false, false, false, false, false, false, false, false, false, false, false, false] rfl rfl (any_of HT_.out kr) (fun _ _ _ h => h) (Or.inl ⟨by rfl, ?_⟩) ?_ ?_
           rotate_left
           ·exact wl
           rotate_left
           ·exact ap
           refine take_ (i := 8) (N := some 42) (v := ?_) (a' := ?_) #[true, true, true, true, true, true, true, true, true, false, true, false, false, false, false, false, false, false, false, false, false, false, false, false, false, false, false, false, false, false, false, false, false, false, false, false, false, false] rfl rfl (take_ofW HT_.out HW_.out kr) (fun _ _ _ h => h) (Or.inl ⟨by rfl, ?_⟩) hHeld ?_ ?_
           rotate_left
           ·rintro w' ⟨s0, s1, s2, s3, s4, s5, s6, s7, s8, s9⟩
            go_simp
            exact rl
           rotate_left
           ·exact ap
           refine pure_ (i := 9) (N := some 43) (v := ?_) (a' := ?_) #[true, true, true, true, true, true, true, true, true, true, true, false, false, false, false, false, false, false, false, false, false, false, false, false, false, false, false, false, false, false, false, false, false, false, false, false, false, false] rfl rfl (any_of HT_.out kr) (fun _ _ _ h => h) (Or.inl ⟨by rfl, ?_⟩) ?_ ?_
           rotate_left
           ·exact wl
           rotate_left
           ·exact ap
           refine take_ (i := 11) (N := some 45) (v := ?_) (a' := ?_) #[true, true, true, true, true, true, true, true, true, true, true, true, false, false, false, false, false, false, false, false, false, false, false, false, false, false, false, false, false, false, false, false, false, false, false, false, false, false] rfl rfl (take_ofW HT_.out HW_.out kr) (fun _ _ _ h => h) (Or.inl ⟨by rfl, ?_⟩) hHeld ?_ ?_
           rotate_left
           ·rintro w' ⟨s0, s1, s2, s3, s4, s5, s6, s7, s8, s9⟩
            go_simp
            exact rl
           rotate_left
           ·exact ap
           refine pure_ (i := 12) (N := some 46) (v := ?_) (a' := ?_) #[true, true, true, true, true, true, true, true, true, true, true, true, true, false, false, false, false, false, false, false, false, false, false, false, false, false, false, false, false, false, false, false, false, false, false, false, false, false] rfl rfl (any_of HT_.out kr) (fun _ _ _ h => h) (Or.inl ⟨by rfl, ?_⟩) ?_ ?_
           rotate_left
           ·exact wl
           rotate_left
           ·exact ap
           refine pure_ (i := 13) (N := some 47) (v := ?_) (a' := ?_) #[true, true, true, true, true, true, true, true, true, true, true, true, true, true, false, false, false, false, false, false, false, false, false, false, false, false, false, false, false, false, false, false, false, false, false, false, false, false] rfl rfl (any_of HT_.out kr) (fun _ _ _ h => h) (Or.inl ⟨by rfl, ?_⟩) ?_ ?_
           rotate_left
           ·exact wl
           rotate_left
           ·exact ap
           refine pure_ (i := 14) (N := some 48) (v := ?_) (a' := ?_) #[true, true, true, true, true, true, true, true, true, true, true, true, true, true, true, false, false, false, false, false, false, false, false, false, false, false, false, false, false, false, false, false, false, false, false, false, false, false] rfl rfl (any_of HT_.out kr) (fun _ _ _ h => h) (Or.inl ⟨by rfl, ?_⟩) ?_ ?_
           rotate_left
           ·exact wl
           rotate_left
           ·exact ap
           refine pure_ (i := 15) (N := some 49) (v := ?_) (a' := ?_) #[true, true, true, true, true, true, true, true, true, true, true, true, true, true, true, true, false, false, false, false, false, false, false, false, false, false, false, false, false, false, false, false, false, false, false, false, false, false] rfl rfl (any_of HT_.out kr) (fun _ _ _ h => h) (Or.inl ⟨by rfl, ?_⟩) ?_ ?_
           rotate_left
           ·exact wl
           rotate_left
           ·exact ap
           refine pure_ (i := 17) (N := some 51) (v := ?_) (a' := ?_) #[true, true, true, true, true, true, true, true, true, true, true, true, true, true, true, true, false, true, false, false, false, false, false, false, false, false, false, false, false, false, false, false, false, false, false, false, false, false] rfl rfl (any_of HT_.out kr) (fun _ _ _ h => h) (Or.inl ⟨by rfl, ?_⟩) ?_ ?_
           rotate_left
           ·exact wl
           rotate_left
           ·exact ap
           refine take_ (i := 16) (N := some 50) (v := ?_) (a' := ?_) #[true, true, true, true, true, true, true, true, true, true, true, true, true, true, true, true, true, true, false, false, false, false, false, false, false, false, false, false, false, false, false, false, false, false, false, false, false, false] rfl rfl (take_ofW HT_.out HW_.out kr) (fun _ _ _ h => h) (Or.inl ⟨by rfl, ?_⟩) hHeld ?_ ?_
           rotate_left
           ·rintro w' ⟨s0, s1, s2, s3, s4, s5, s6, s7, s8, s9⟩
            go_simp
            exact rl
           rotate_left
           ·exact ap
           refine pure_ (i := 18) (N := some 52) (v := ?_) (a' := ?_) #[true, true, true, true, true, true, true, true, true, true, true, true, true, true, true, true, true, true, true, false, false, false, false, false, false, false, false, false, false, false, false, false, false, false, false, false, false, false] rfl rfl (any_of HT_.out kr) (fun _ _ _ h => h) (Or.inl ⟨by rfl, ?_⟩) ?_ ?_
           rotate_left
           ·exact wl
           rotate_left
           ·exact ap
           refine pure_ (i := 19) (N := some 53) (v := ?_) (a' := ?_) #[true, true, true, true, true, true, true, true, true, true, true, true, true, true, true, true, true, true, true, true, false, false, false, false, false, false, false, false, false, false, false, false, false, false, false, false, false, false] rfl rfl (any_of HT_.out kr) (fun _ _ _ h => h) (Or.inl ⟨by rfl, ?_⟩) ?_ ?_
           rotate_left
           ·exact wl
           rotate_left
           ·exact ap
           refine take_ (i := 20) (N := some 54) (v := ?_) (a' := ?_) #[true, true, true, true, true, true, true, true, true, true, true, true, true, true, true, true, true, true, true, true, true, false, false, false, false, false, false, false, false, false, false, false, false, false, false, false, false, false] rfl rfl (take_ofW HT_.out HW_.out kr) (fun _ _ _ h => h) (Or.inl ⟨by rfl, ?_⟩) hHeld ?_ ?_
           rotate_left
           ·rintro w' ⟨s0, s1, s2, s3, s4, s5, s6, s7, s8, s9⟩
            go_simp
            exact rl
           rotate_left
           ·exact ap
           refine one_ (i := 21) (N := some 55) #[true, true, true, true, true, true, true, true, true, true, true, true, true, true, true, true, true, true, true, true, true, true, false, false, false, false, false, false, false, false, false, false, false, false, false, false, false, false] rfl rfl (one_of HT_.out kr) (by decide) (fun K hK => ?_)
           refine goes_ Tryd.func44 kr rfl #[.slice A348_1 ((rd_T59 l1_1 x5_1).f1).length c348_1] (by rfl) rfl rfl ga ?_
           with_reducible refine (lodestarref05_Range.calls k1 _ _ ((rd_T59 l1_1 x5_1).f1) false _ ?side1 ?side2 A29.out).mono ?_
           (case side1 => repeat (first | exact (Kd.C_below HR349_1.out HB.out) | (with_reducible refine Kd.C_alloc ?_ _) | (with_reducible refine Kd.C_drewN ?_ _) | (with_reducible refine Kd.C_drew ?_)))
           (case side2 => exact HC349_1.out)
           rintro e w' ⟨rfl, ⟨nd, rfl⟩⟩
           refine ⟨_, rfl, ?_⟩
           refine hK.out _ _ ⟨(blk_cell BK339.out 0).trans rfl, (blk_cell BK339.out 1).trans rfl, (blk_cell BK339.out 2).trans rfl, (blk_cell BK347.out 0).trans rfl, (blk_cell BK347.out 1).trans rfl, (blk_cell BK347.out 2).trans rfl, ((HB.out.cell (World.block_lt_of_cell? w _ hw348_0)).trans hw348_0), ((HB.out.cell (World.block_lt_of_cell? w _ hw348_1)).trans hw348_1), ((HB.out.cell (World.block_lt_of_cell? w _ hw349_0)).trans hw349_0), ((HB.out.cell (World.block_lt_of_cell? w _ hw349_1)).trans hw349_1)⟩ (fun hHeld => ?_)
           clear hK K
           refine norm_ (a' := ?_) ?_ ?_
           rotate_left
           ·show Act.put _ (some 55) _ = _
            exact ap
           refine pure_ (i := 22) (N := some 56) (v := ?_) (a' := ?_) #[true, true, true, true, true, true, true, true, true, true, true, true, true, true, true, true, true, true, true, true, true, true, true, false, false, false, false, false, false, false, false, false, false, false, false, false, false, false] rfl rfl (any_of HT_.out kr) (fun _ _ _ h => h) (Or.inl ⟨by rfl, ?_⟩) ?_ ?_
           rotate_left
           ·exact wl
           rotate_left
           ·exact ap
           refine pure_ (i := 23) (N := some 57) (v := ?_) (a' := ?_) #[true, true, true, true, true, true, true, true, true, true, true, true, true, true, true, true, true, true, true, true, true, true, true, true, false, false, false, false, false, false, false, false, false, false, false, false, false, false] rfl rfl (any_of HT_.out kr) (fun _ _ _ h => h) (Or.inl ⟨by rfl, ?_⟩) ?_ ?_
           rotate_left
           ·exact wl
           rotate_left
           ·exact ap
           refine pure_ (i := 24) (N := some 58) (v := ?_) (a' := ?_) #[true, true, true, true, true, true, true, true, true, true, true, true, true, true, true, true, true, true, true, true, true, true, true, true, true, false, false, false, false, false, false, false, false, false, false, false, false, false] rfl rfl (any_of HT_.out kr) (fun _ _ _ h => h) (Or.inl ⟨by rfl, ?_⟩) ?_ ?_
           rotate_left
           ·exact wl
           rotate_left
           ·exact ap
           refine pure_ (i := 25) (N := some 59) (v := undef) (a' := ?_) #[true, true, true, true, true, true, true, true, true, true, true, true, true, true, true, true, true, true, true, true, true, true, true, true, true, true, false, false, false, false, false, false, false, false, false, false, false, false] rfl rfl (any_of HT_.out kr) (fun _ _ _ h => h) (Or.inr ⟨by rfl, rfl⟩) ?_ ?_
           rotate_left
           ·exact ap
           refine pure_ (i := 26) (N := some 60) (v := undef) (a' := ?_) #[true, true, true, true, true, true, true, true, true, true, true, true, true, true, true, true, true, true, true, true, true, true, true, true, true, true, true, false, false, false, false, false, false, false, false, false, false, false] rfl rfl (any_of HT_.out kr) (fun _ _ _ h => h) (Or.inr ⟨by rfl, rfl⟩) ?_ ?_
           rotate_left
           ·exact ap
           refine pure_ (i := 27) (N := some 61) (v := undef) (a' := ?_) #[true, true, true, true, true, true, true, true, true, true, true, true, true, true, true, true, true, true, true, true, true, true, true, true, true, true, true, true, false, false, false, false, false, false, false, false, false, false] rfl rfl (any_of HT_.out kr) (fun _ _ _ h => h) (Or.inr ⟨by rfl, rfl⟩) ?_ ?_
           rotate_left
           ·exact ap
           refine pure_ (i := 28) (N := some 62) (v := undef) (a' := ?_) #[true, true, true, true, true, true, true, true, true, true, true, true, true, true, true, true, true, true, true, true, true, true, true, true, true, true, true, true, true, false, false, false, false, false, false, false, false, false] rfl rfl (any_of HT_.out kr) (fun _ _ _ h => h) (Or.inr ⟨by rfl, rfl⟩) ?_ ?_
           rotate_left
           ·exact ap
           refine pure_ (i := 29) (N := some 63) (v := undef) (a' := ?_) #[true, true, true, true, true, true, true, true, true, true, true, true, true, true, true, true, true, true, true, true, true, true, true, true, true, true, true, true, true, true, false, false, false, false, false, false, false, false] rfl rfl (any_of HT_.out kr) (fun _ _ _ h => h) (Or.inr ⟨by rfl, rfl⟩) ?_ ?_
           rotate_left
           ·exact ap
           refine pure_ (i := 30) (N := some 64) (v := undef) (a' := ?_) #[true, true, true, true, true, true, true, true, true, true, true, true, true, true, true, true, true, true, true, true, true, true, true, true, true, true, true, true, true, true, true, false, false, false, false, false, false, false] rfl rfl (any_of HT_.out kr) (fun _ _ _ h => h) (Or.inr ⟨by rfl, rfl⟩) ?_ ?_
           rotate_left
           ·exact ap
           refine pure_ (i := 31) (N := some 65) (v := undef) (a' := ?_) #[true, true, true, true, true, true, true, true, true, true, true, true, true, true, true, true, true, true, true, true, true, true, true, true, true, true, true, true, true, true, true, true, false, false, false, false, false, false] rfl rfl (any_of HT_.out kr) (fun _ _ _ h => h) (Or.inr ⟨by rfl, rfl⟩) ?_ ?_
           rotate_left
           ·exact ap
           refine pure_ (i := 32) (N := some 66) (v := undef) (a' := ?_) #[true, true, true, true, true, true, true, true, true, true, true, true, true, true, true, true, true, true, true, true, true, true, true, true, true, true, true, true, true, true, true, true, true, false, false, false, false, false] rfl rfl (any_of HT_.out kr) (fun _ _ _ h => h) (Or.inr ⟨by rfl, rfl⟩) ?_ ?_
           rotate_left
           ·exact ap
           refine pure_ (i := 33) (N := some 67) (v := undef) (a' := ?_) #[true, true, true, true, true, true, true, true, true, true, true, true, true, true, true, true, true, true, true, true, true, true, true, true, true, true, true, true, true, true, true, true, true, true, false, false, false, false] rfl rfl (any_of HT_.out kr) (fun _ _ _ h => h) (Or.inr ⟨by rfl, rfl⟩) ?_ ?_
           rotate_left
           ·exact ap
           refine pure_ (i := 34) (N := some 68) (v := undef) (a' := ?_) #[true, true, true, true, true, true, true, true, true, true, true, true, true, true, true, true, true, true, true, true, true, true, true, true, true, true, true, true, true, true, true, true, true, true, true, false, false, false] rfl rfl (any_of HT_.out kr) (fun _ _ _ h => h) (Or.inr ⟨by rfl, rfl⟩) ?_ ?_
           rotate_left
           ·exact ap
           refine pure_ (i := 35) (N := some 69) (v := undef) (a' := ?_) #[true, true, true, true, true, true, true, true, true, true, true, true, true, true, true, true, true, true, true, true, true, true, true, true, true, true, true, true, true, true, true, true, true, true, true, true, false, false] rfl rfl (any_of HT_.out kr) (fun _ _ _ h => h) (Or.inr ⟨by rfl, rfl⟩) ?_ ?_
           rotate_left
           ·exact ap
           refine pure_ (i := 36) (N := some 70) (v := undef) (a' := ?_) #[true, true, true, true, true, true, true, true, true, true, true, true, true, true, true, true, true, true, true, true, true, true, true, true, true, true, true, true, true, true, true, true, true, true, true, true, true, false] rfl rfl (any_of HT_.out kr) (fun _ _ _ h => h) (Or.inr ⟨by rfl, rfl⟩) ?_ ?_
           rotate_left
           ·exact ap
           refine pure_ (i := 37) (N := some 71) (v := ?_) (a' := ?_) #[true, true, true, true, true, true, true, true, true, true, true, true, true, true, true, true, true, true, true, true, true, true, true, true, true, true, true, true, true, true, true, true, true, true, true, true, true, true] rfl rfl (any_of HT_.out kr) (fun _ _ _ h => h) (Or.inl ⟨by rfl, ?_⟩) ?_ ?_
           rotate_left
           ·exact wl
           rotate_left
           ·exact ap
           refine done_ (done_of HT_.out kr) ?_
           try go_wp2
           go_meet
           case rel => exact ⟨_, (true), hsr, H', ⟨by have := HK1.out; first | omega | exact Nat.le_refl _⟩, ⟨pk BK338.out⟩, ⟨pk BK339.out⟩, ⟨pk BK347.out⟩, ⟨bl HB.out⟩⟩
         ·rw [if_neg c28] at H
          have c28b0 : ((((rd_T59 l1_1 x5_1).f1).length : Int) == t344) = false := beq_eq_false_iff_ne.mpr c28
          have c28b1 : ((((rd_T59 l1_1 x5_1).f1).length : Int) != t344) = true := bne_iff_ne.mpr c28
          (first | rw [c28b0] | (simp only [i64_w, i32_w]; rw [c28b0]) | skip)
          have H' := Aside0.mk H
          clear H
          try go_wp2
          have n0_ : Aside0 ((((w23.setCell ⟨gb347, 0, none⟩ (.string t343)).setCell ⟨gb347, 1, none⟩ (.int .i64 t344)).setCell ⟨gb347, 2, none⟩ (.int .i64 t345)).heap[gb338]? = some (.cells #[.slice A0_0 l0_0.length c0_0, .slice A0_1 l0_1.length c0_1] 51 (0, 0))) := ⟨by refine pk ?_; refine blk_far ?_ NB338_347.out _; refine pk ?_; refine blk_far ?_ NB338_347.out _; refine pk ?_; refine blk_far ?_ NB338_347.out _; exact pk BK338.out⟩
          have n1_ : Aside0 ((((w23.setCell ⟨gb347, 0, none⟩ (.string t343)).setCell ⟨gb347, 1, none⟩ (.int .i64 t344)).setCell ⟨gb347, 2, none⟩ (.int .i64 t345)).heap[gb339]? = some (.cells #[.int .i64 a1_0, .slice (some ad342) l1_1.length c1_1, .slice A1_2 l1_2.length c1_2] 25 (0, 0))) := ⟨by refine pk ?_; refine blk_far ?_ NB339_347.out _; refine pk ?_; refine blk_far ?_ NB339_347.out _; refine pk ?_; refine blk_far ?_ NB339_347.out _; exact pk BK339.out⟩
          have n2_ : Aside0 ((((w23.setCell ⟨gb347, 0, none⟩ (.string t343)).setCell ⟨gb347, 1, none⟩ (.int .i64 t344)).setCell ⟨gb347, 2, none⟩ (.int .i64 t345)).heap[gb347]? = some (.cells #[.string t343, .int .i64 t344, .int .i64 t345] 89 (0, 0))) := ⟨by refine pk ?_; refine blk_put (cs := #[.string t343, .int .i64 t344, .int .i64 0]) ?_ 2 _ rfl; refine pk ?_; refine blk_put (cs := #[.string t343, .int .i64 0, .int .i64 0]) ?_ 1 _ rfl; refine pk ?_; refine blk_put (cs := #[.string (⟨#[]⟩ : ByteArray), .int .i64 0, .int .i64 0]) ?_ 0 _ rfl; exact pk BK347.out⟩
          have n3_ : Aside0 (Below w.heap.size w (((w23.setCell ⟨gb347, 0, none⟩ (.string t343)).setCell ⟨gb347, 1, none⟩ (.int .i64 t344)).setCell ⟨gb347, 2, none⟩ (.int .i64 t345))) := ⟨bl HB.out⟩
          (try clear BK338)
          (try clear BK339)
          (try clear BK347)
          (try clear HB)
          generalize (((w23.setCell ⟨gb347, 0, none⟩ (.string t343)).setCell ⟨gb347, 1, none⟩ (.int .i64 t344)).setCell ⟨gb347, 2, none⟩ (.int .i64 t345)) = w39 at n0_ n1_ n2_ n3_ ⊢
          have BK338 := n0_
          have BK339 := n1_
          have BK347 := n2_
          have HB := n3_
          clear n0_ n1_ n2_ n3_
          replace BK338 := Aside0.mk (blk_drew BK338.out)
          replace BK339 := Aside0.mk (blk_drew BK339.out)
          replace BK347 := Aside0.mk (blk_drew BK347.out)
          replace HB := Aside0.mk (below_drew1 HB.out)
          have p348 : 0 ≤ (x5_1 : Int) := of_decide_eq_true ha
          have q348 : x5_1 < (l1_1.length : Int) := of_decide_eq_true ha
          obtain ⟨ad348, A348_1, c348_1, e348, hx348_0, hx348_1, hl348_1, hi348_1⟩ := at_T59 HR1_1.out x5_1 p348 q348
          have hw348_1 := hx348_1
          have hw348_0 := hx348_0
          obtain rfl : ad342 = ad348 := (by injection e348)
          replace hx348_0 := (HB.out.cell (World.block_lt_of_cell? w _ hx348_0)).trans hx348_0
          replace hx348_1 := (HB.out.cell (World.block_lt_of_cell? w _ hx348_1)).trans hx348_1
          have HR348_1 := Aside0.mk hi348_1
          have HC348_1 := Aside0.mk hl348_1
          clear hi348_1 hl348_1
          replace p348 := eq_true p348
          replace q348 := eq_true q348
          refine start_ (n := 38) (S := fun w' => w'.cell? ⟨gb339, 0, none⟩ = some (.int .i64 a1_0) ∧ w'.cell? ⟨gb339, 1, none⟩ = some (.slice (some ad342) l1_1.length c1_1) ∧ w'.cell? ⟨gb339, 2, none⟩ = some (.slice A1_2 l1_2.length c1_2) ∧ w'.cell? ⟨gb347, 0, none⟩ = some (.string t343) ∧ w'.cell? ⟨gb347, 1, none⟩ = some (.int .i64 t344) ∧ w'.cell? ⟨gb347, 2, none⟩ = some (.int .i64 t345) ∧ w'.cell? (ad342.add ((x5_1).toNat * 2)) = some (.string ((rd_T59 l1_1 x5_1).f0)) ∧ w'.cell? ⟨(ad342.add ((x5_1).toNat * 2)).block, (ad342.add ((x5_1).toNat * 2)).off + 1, none⟩ = some (.slice A348_1 ((rd_T59 l1_1 x5_1).f1).length c348_1)) (ds := []) #[false, false, false, false, false, false, false, false, false, false, false, false, false, false, false, false, false, false, false, false, false, false, false, false, false, false, false, false, false, false, false, false, false, false, false, false, false, false] kr rfl rfl ⟨(blk_cell BK339.out 0).trans rfl, (blk_cell BK339.out 1).trans rfl, (blk_cell BK339.out 2).trans rfl, (blk_cell BK347.out 0).trans rfl, (blk_cell BK347.out 1).trans rfl, (blk_cell BK347.out 2).trans rfl, ((HB.out.cell (World.block_lt_of_cell? w _ hw348_0)).trans hw348_0), ((HB.out.cell (World.block_lt_of_cell? w _ hw348_1)).trans hw348_1)⟩ (fun hHeld => ?_); refine with_tabW lodestarref05_Check.tab9 lodestarref05_Check.bits9 (fun HT_ HW_ => ?_)
          generalize w39.drew = w40 at BK338 BK339 BK347 HB HR348_1 hx348_0 hx348_1 hHeld ⊢
          refine pure_ (i := 0) (N := some 34) (v := ?_) (a' := ?_) #[true, false, false, false, false, false, false, false, false, false, false, false, false, false, false, false, false, false, false, false, false, false, false, false, false, false, false, false, false, false, false, false, false, false, false, false, false, false] rfl rfl (any_of HT_.out kr) (fun _ _ _ h => h) (Or.inl ⟨by rfl, ?_⟩) ?_ ?_
          rotate_left
          ·exact wl
          rotate_left
          ·exact ap
          refine pure_ (i := 1) (N := some 35) (v := ?_) (a' := ?_) #[true, true, false, false, false, false, false, false, false, false, false, false, false, false, false, false, false, false, false, false, false, false, false, false, false, false, false, false, false, false, false, false, false, false, false, false, false, false] rfl rfl (any_of HT_.out kr) (fun _ _ _ h => h) (Or.inl ⟨by rfl, ?_⟩) ?_ ?_
          rotate_left
          ·exact wl
          rotate_left
          ·exact ap
          refine pure_ (i := 2) (N := some 36) (v := ?_) (a' := ?_) #[true, true, true, false, false, false, false, false, false, false, false, false, false, false, false, false, false, false, false, false, false, false, false, false, false, false, false, false, false, false, false, false, false, false, false, false, false, false] rfl rfl (any_of HT_.out kr) (fun _ _ _ h => h) (Or.inl ⟨by rfl, ?_⟩) ?_ ?_
          rotate_left
          ·exact wl
          rotate_left
          ·exact ap
          refine pure_ (i := 3) (N := some 37) (v := ?_) (a' := ?_) #[true, true, true, true, false, false, false, false, false, false, false, false, false, false, false, false, false, false, false, false, false, false, false, false, false, false, false, false, false, false, false, false, false, false, false, false, false, false] rfl rfl (any_of HT_.out kr) (fun _ _ _ h => h) (Or.inl ⟨by rfl, ?_⟩) ?_ ?_
          rotate_left
          ·exact wl
          rotate_left
          ·exact ap
          refine pure_ (i := 5) (N := some 39) (v := ?_) (a' := ?_) #[true, true, true, true, false, true, false, false, false, false, false, false, false, false, false, false, false, false, false, false, false, false, false, false, false, false, false, false, false, false, false, false, false, false, false, false, false, false] rfl rfl (any_of HT_.out kr) (fun _ _ _ h => h) (Or.inl ⟨by rfl, ?_⟩) ?_ ?_
          rotate_left
          ·exact wl
          rotate_left
          ·exact ap
          refine pure_ (i := 10) (N := some 44) (v := ?_) (a' := ?_) #[true, true, true, true, false, true, false, false, false, false, true, false, false, false, false, false, false, false, false, false, false, false, false, false, false, false, false, false, false, false, false, false, false, false, false, false, false, false] rfl rfl (any_of HT_.out kr) (fun _ _ _ h => h) (Or.inl ⟨by rfl, ?_⟩) ?_ ?_
          rotate_left
          ·exact wl
          rotate_left
          ·exact ap
          refine take_ (i := 4) (N := some 38) (v := ?_) (a' := ?_) #[true, true, true, true, true, true, false, false, false, false, true, false, false, false, false, false, false, false, false, false, false, false, false, false, false, false, false, false, false, false, false, false, false, false, false, false, false, false] rfl rfl (take_ofW HT_.out HW_.out kr) (fun _ _ _ h => h) (Or.inl ⟨by rfl, ?_⟩) hHeld ?_ ?_
          rotate_left
          ·rintro w' ⟨s0, s1, s2, s3, s4, s5, s6, s7⟩
           go_simp
           exact rl
          rotate_left
          ·exact ap
          refine pure_ (i := 6) (N := some 40) (v := ?_) (a' := ?_) #[true, true, true, true, true, true, true, false, false, false, true, false, false, false, false, false, false, false, false, false, false, false, false, false, false, false, false, false, false, false, false, false, false, false, false, false, false, false] rfl rfl (any_of HT_.out kr) (fun _ _ _ h => h) (Or.inl ⟨by rfl, ?_⟩) ?_ ?_
          rotate_left
          ·exact wl
          rotate_left
          ·exact ap
          refine pure_ (i := 7) (N := some 41) (v := ?_) (a' := ?_) #[true, true, true, true, true, true, true, true, false, false, true, false, false, false, false, false, false, false, false, false, false, false, false, false, false, false, false, false, false, false, false, false, false, false, false, false, false, false] rfl rfl (any_of HT_.out kr) (fun _ _ _ h => h) (Or.inl ⟨by rfl, ?_⟩) ?_ ?_
          rotate_left
          ·exact wl
          rotate_left
          ·exact ap
          refine take_ (i := 8) (N := some 42) (v := ?_) (a' := ?_) #[true, true, true, true, true, true, true, true, true, false, true, false, false, false, false, false, false, false, false, false, false, false, false, false, false, false, false, false, false, false, false, false, false, false, false, false, false, false] rfl rfl (take_ofW HT_.out HW_.out kr) (fun _ _ _ h => h) (Or.inl ⟨by rfl, ?_⟩) hHeld ?_ ?_
          rotate_left
          ·rintro w' ⟨s0, s1, s2, s3, s4, s5, s6, s7⟩
           go_simp
           exact rl
          rotate_left
          ·exact ap
          refine pure_ (i := 9) (N := some 43) (v := ?_) (a' := ?_) #[true, true, true, true, true, true, true, true, true, true, true, false, false, false, false, false, false, false, false, false, false, false, false, false, false, false, false, false, false, false, false, false, false, false, false, false, false, false] rfl rfl (any_of HT_.out kr) (fun _ _ _ h => h) (Or.inl ⟨by rfl, ?_⟩) ?_ ?_
          rotate_left
          ·exact wl
          rotate_left
          ·exact ap
          refine take_ (i := 11) (N := some 45) (v := ?_) (a' := ?_) #[true, true, true, true, true, true, true, true, true, true, true, true, false, false, false, false, false, false, false, false, false, false, false, false, false, false, false, false, false, false, false, false, false, false, false, false, false, false] rfl rfl (take_ofW HT_.out HW_.out kr) (fun _ _ _ h => h) (Or.inl ⟨by rfl, ?_⟩) hHeld ?_ ?_
          rotate_left
          ·rintro w' ⟨s0, s1, s2, s3, s4, s5, s6, s7⟩
           go_simp
           exact rl
          rotate_left
          ·exact ap
          refine pure_ (i := 12) (N := some 46) (v := ?_) (a' := ?_) #[true, true, true, true, true, true, true, true, true, true, true, true, true, false, false, false, false, false, false, false, false, false, false, false, false, false, false, false, false, false, false, false, false, false, false, false, false, false] rfl rfl (any_of HT_.out kr) (fun _ _ _ h => h) (Or.inl ⟨by rfl, ?_⟩) ?_ ?_
          rotate_left
          ·exact wl
          rotate_left
          ·exact ap
          refine pure_ (i := 13) (N := some 47) (v := ?_) (a' := ?_) #[true, true, true, true, true, true, true, true, true, true, true, true, true, true, false, false, false, false, false, false, false, false, false, false, false, false, false, false, false, false, false, false, false, false, false, false, false, false] rfl rfl (any_of HT_.out kr) (fun _ _ _ h => h) (Or.inl ⟨by rfl, ?_⟩) ?_ ?_
          rotate_left
          ·exact wl
          rotate_left
          ·exact ap
          refine pure_ (i := 14) (N := some 48) (v := ?_) (a' := ?_) #[true, true, true, true, true, true, true, true, true, true, true, true, true, true, true, false, false, false, false, false, false, false, false, false, false, false, false, false, false, false, false, false, false, false, false, false, false, false] rfl rfl (any_of HT_.out kr) (fun _ _ _ h => h) (Or.inl ⟨by rfl, ?_⟩) ?_ ?_
          rotate_left
          ·exact wl
          rotate_left
          ·exact ap
          refine pure_ (i := 15) (N := some 49) (v := undef) (a' := ?_) #[true, true, true, true, true, true, true, true, true, true, true, true, true, true, true, true, false, false, false, false, false, false, false, false, false, false, false, false, false, false, false, false, false, false, false, false, false, false] rfl rfl (any_of HT_.out kr) (fun _ _ _ h => h) (Or.inr ⟨by rfl, rfl⟩) ?_ ?_
          rotate_left
          ·exact ap
          refine pure_ (i := 16) (N := some 50) (v := undef) (a' := ?_) #[true, true, true, true, true, true, true, true, true, true, true, true, true, true, true, true, true, false, false, false, false, false, false, false, false, false, false, false, false, false, false, false, false, false, false, false, false, false] rfl rfl (any_of HT_.out kr) (fun _ _ _ h => h) (Or.inr ⟨by rfl, rfl⟩) ?_ ?_
          rotate_left
          ·exact ap
          refine pure_ (i := 17) (N := some 51) (v := undef) (a' := ?_) #[true, true, true, true, true, true, true, true, true, true, true, true, true, true, true, true, true, true, false, false, false, false, false, false, false, false, false, false, false, false, false, false, false, false, false, false, false, false] rfl rfl (any_of HT_.out kr) (fun _ _ _ h => h) (Or.inr ⟨by rfl, rfl⟩) ?_ ?_
          rotate_left
          ·exact ap
          refine pure_ (i := 18) (N := some 52) (v := undef) (a' := ?_) #[true, true, true, true, true, true, true, true, true, true, true, true, true, true, true, true, true, true, true, false, false, false, false, false, false, false, false, false, false, false, false, false, false, false, false, false, false, false] rfl rfl (any_of HT_.out kr) (fun _ _ _ h => h) (Or.inr ⟨by rfl, rfl⟩) ?_ ?_
          rotate_left
          ·exact ap
          refine pure_ (i := 19) (N := some 53) (v := undef) (a' := ?_) #[true, true, true, true, true, true, true, true, true, true, true, true, true, true, true, true, true, true, true, true, false, false, false, false, false, false, false, false, false, false, false, false, false, false, false, false, false, false] rfl rfl (any_of HT_.out kr) (fun _ _ _ h => h) (Or.inr ⟨by rfl, rfl⟩) ?_ ?_
          rotate_left
          ·exact ap
          refine pure_ (i := 20) (N := some 54) (v := undef) (a' := ?_) #[true, true, true, true, true, true, true, true, true, true, true, true, true, true, true, true, true, true, true, true, true, false, false, false, false, false, false, false, false, false, false, false, false, false, false, false, false, false] rfl rfl (any_of HT_.out kr) (fun _ _ _ h => h) (Or.inr ⟨by rfl, rfl⟩) ?_ ?_
          rotate_left
          ·exact ap
          refine pure_ (i := 21) (N := some 55) (v := undef) (a' := ?_) #[true, true, true, true, true, true, true, true, true, true, true, true, true, true, true, true, true, true, true, true, true, true, false, false, false, false, false, false, false, false, false, false, false, false, false, false, false, false] rfl rfl (any_of HT_.out kr) (fun _ _ _ h => h) (Or.inr ⟨by rfl, rfl⟩) ?_ ?_
          rotate_left
          ·exact ap
          refine pure_ (i := 22) (N := some 56) (v := undef) (a' := ?_) #[true, true, true, true, true, true, true, true, true, true, true, true, true, true, true, true, true, true, true, true, true, true, true, false, false, false, false, false, false, false, false, false, false, false, false, false, false, false] rfl rfl (any_of HT_.out kr) (fun _ _ _ h => h) (Or.inr ⟨by rfl, rfl⟩) ?_ ?_
          rotate_left
          ·exact ap
          refine pure_ (i := 23) (N := some 57) (v := ?_) (a' := ?_) #[true, true, true, true, true, true, true, true, true, true, true, true, true, true, true, true, true, true, true, true, true, true, true, true, false, false, false, false, false, false, false, false, false, false, false, false, false, false] rfl rfl (any_of HT_.out kr) (fun _ _ _ h => h) (Or.inl ⟨by rfl, ?_⟩) ?_ ?_
          rotate_left
          ·exact wl
          rotate_left
          ·exact ap
          refine pure_ (i := 24) (N := some 58) (v := ?_) (a' := ?_) #[true, true, true, true, true, true, true, true, true, true, true, true, true, true, true, true, true, true, true, true, true, true, true, true, true, false, false, false, false, false, false, false, false, false, false, false, false, false] rfl rfl (any_of HT_.out kr) (fun _ _ _ h => h) (Or.inl ⟨by rfl, ?_⟩) ?_ ?_
          rotate_left
          ·exact wl
          rotate_left
          ·exact ap
          refine pure_ (i := 25) (N := some 59) (v := undef) (a' := ?_) #[true, true, true, true, true, true, true, true, true, true, true, true, true, true, true, true, true, true, true, true, true, true, true, true, true, true, false, false, false, false, false, false, false, false, false, false, false, false] rfl rfl (any_of HT_.out kr) (fun _ _ _ h => h) (Or.inr ⟨by rfl, rfl⟩) ?_ ?_
          rotate_left
          ·exact ap
          refine pure_ (i := 26) (N := some 60) (v := undef) (a' := ?_) #[true, true, true, true, true, true, true, true, true, true, true, true, true, true, true, true, true, true, true, true, true, true, true, true, true, true, true, false, false, false, false, false, false, false, false, false, false, false] rfl rfl (any_of HT_.out kr) (fun _ _ _ h => h) (Or.inr ⟨by rfl, rfl⟩) ?_ ?_
          rotate_left
          ·exact ap
          refine pure_ (i := 27) (N := some 61) (v := undef) (a' := ?_) #[true, true, true, true, true, true, true, true, true, true, true, true, true, true, true, true, true, true, true, true, true, true, true, true, true, true, true, true, false, false, false, false, false, false, false, false, false, false] rfl rfl (any_of HT_.out kr) (fun _ _ _ h => h) (Or.inr ⟨by rfl, rfl⟩) ?_ ?_
          rotate_left
          ·exact ap
          refine pure_ (i := 28) (N := some 62) (v := undef) (a' := ?_) #[true, true, true, true, true, true, true, true, true, true, true, true, true, true, true, true, true, true, true, true, true, true, true, true, true, true, true, true, true, false, false, false, false, false, false, false, false, false] rfl rfl (any_of HT_.out kr) (fun _ _ _ h => h) (Or.inr ⟨by rfl, rfl⟩) ?_ ?_
          rotate_left
          ·exact ap
          refine pure_ (i := 29) (N := some 63) (v := undef) (a' := ?_) #[true, true, true, true, true, true, true, true, true, true, true, true, true, true, true, true, true, true, true, true, true, true, true, true, true, true, true, true, true, true, false, false, false, false, false, false, false, false] rfl rfl (any_of HT_.out kr) (fun _ _ _ h => h) (Or.inr ⟨by rfl, rfl⟩) ?_ ?_
          rotate_left
          ·exact ap
          refine pure_ (i := 30) (N := some 64) (v := undef) (a' := ?_) #[true, true, true, true, true, true, true, true, true, true, true, true, true, true, true, true, true, true, true, true, true, true, true, true, true, true, true, true, true, true, true, false, false, false, false, false, false, false] rfl rfl (any_of HT_.out kr) (fun _ _ _ h => h) (Or.inr ⟨by rfl, rfl⟩) ?_ ?_
          rotate_left
          ·exact ap
          refine pure_ (i := 31) (N := some 65) (v := undef) (a' := ?_) #[true, true, true, true, true, true, true, true, true, true, true, true, true, true, true, true, true, true, true, true, true, true, true, true, true, true, true, true, true, true, true, true, false, false, false, false, false, false] rfl rfl (any_of HT_.out kr) (fun _ _ _ h => h) (Or.inr ⟨by rfl, rfl⟩) ?_ ?_
          rotate_left
          ·exact ap
          refine pure_ (i := 32) (N := some 66) (v := undef) (a' := ?_) #[true, true, true, true, true, true, true, true, true, true, true, true, true, true, true, true, true, true, true, true, true, true, true, true, true, true, true, true, true, true, true, true, true, false, false, false, false, false] rfl rfl (any_of HT_.out kr) (fun _ _ _ h => h) (Or.inr ⟨by rfl, rfl⟩) ?_ ?_
          rotate_left
          ·exact ap
          refine pure_ (i := 33) (N := some 67) (v := undef) (a' := ?_) #[true, true, true, true, true, true, true, true, true, true, true, true, true, true, true, true, true, true, true, true, true, true, true, true, true, true, true, true, true, true, true, true, true, true, false, false, false, false] rfl rfl (any_of HT_.out kr) (fun _ _ _ h => h) (Or.inr ⟨by rfl, rfl⟩) ?_ ?_
          rotate_left
          ·exact ap
          refine pure_ (i := 34) (N := some 68) (v := undef) (a' := ?_) #[true, true, true, true, true, true, true, true, true, true, true, true, true, true, true, true, true, true, true, true, true, true, true, true, true, true, true, true, true, true, true, true, true, true, true, false, false, false] rfl rfl (any_of HT_.out kr) (fun _ _ _ h => h) (Or.inr ⟨by rfl, rfl⟩) ?_ ?_
          rotate_left
          ·exact ap
          refine pure_ (i := 35) (N := some 69) (v := undef) (a' := ?_) #[true, true, true, true, true, true, true, true, true, true, true, true, true, true, true, true, true, true, true, true, true, true, true, true, true, true, true, true, true, true, true, true, true, true, true, true, false, false] rfl rfl (any_of HT_.out kr) (fun _ _ _ h => h) (Or.inr ⟨by rfl, rfl⟩) ?_ ?_
          rotate_left
          ·exact ap
          refine pure_ (i := 36) (N := some 70) (v := undef) (a' := ?_) #[true, true, true, true, true, true, true, true, true, true, true, true, true, true, true, true, true, true, true, true, true, true, true, true, true, true, true, true, true, true, true, true, true, true, true, true, true, false] rfl rfl (any_of HT_.out kr) (fun _ _ _ h => h) (Or.inr ⟨by rfl, rfl⟩) ?_ ?_
          rotate_left
          ·exact ap
          refine pure_ (i := 37) (N := some 71) (v := ?_) (a' := ?_) #[true, true, true, true, true, true, true, true, true, true, true, true, true, true, true, true, true, true, true, true, true, true, true, true, true, true, true, true, true, true, true, true, true, true, true, true, true, true] rfl rfl (any_of HT_.out kr) (fun _ _ _ h => h) (Or.inl ⟨by rfl, ?_⟩) ?_ ?_
          rotate_left
          ·exact wl
          rotate_left
          ·exact ap
          refine done_ (done_of HT_.out kr) ?_
          try go_wp2
          go_meet
          case rel => exact ⟨_, (true), hsr, H', ⟨by have := HK1.out; first | omega | exact Nat.le_refl _⟩, ⟨pk BK338.out⟩, ⟨pk BK339.out⟩, ⟨pk BK347.out⟩, ⟨bl HB.out⟩⟩
        ·replace c27 := Bool.eq_false_iff.mpr c27
         subst c27
         have H1 : (lodestarref05_Check.j1 k1 x5_1 true l0_0 l0_1 a1_0 l1_1 l1_2) = some r := by rw [if_neg (show ¬ (false = true) by decide)] at H; exact H
         clear H
         have H := H1
         clear H1
         have H' := Aside0.mk H
         clear H
         try go_wp2
         have n0_ : Aside0 ((((w23.setCell ⟨gb347, 0, none⟩ (.string t343)).setCell ⟨gb347, 1, none⟩ (.int .i64 t344)).setCell ⟨gb347, 2, none⟩ (.int .i64 t345)).heap[gb338]? = some (.cells #[.slice A0_0 l0_0.length c0_0, .slice A0_1 l0_1.length c0_1] 51 (0, 0))) := ⟨by refine pk ?_; refine blk_far ?_ NB338_347.out _; refine pk ?_; refine blk_far ?_ NB338_347.out _; refine pk ?_; refine blk_far ?_ NB338_347.out _; exact pk BK338.out⟩
         have n1_ : Aside0 ((((w23.setCell ⟨gb347, 0, none⟩ (.string t343)).setCell ⟨gb347, 1, none⟩ (.int .i64 t344)).setCell ⟨gb347, 2, none⟩ (.int .i64 t345)).heap[gb339]? = some (.cells #[.int .i64 a1_0, .slice (some ad342) l1_1.length c1_1, .slice A1_2 l1_2.length c1_2] 25 (0, 0))) := ⟨by refine pk ?_; refine blk_far ?_ NB339_347.out _; refine pk ?_; refine blk_far ?_ NB339_347.out _; refine pk ?_; refine blk_far ?_ NB339_347.out _; exact pk BK339.out⟩
         have n2_ : Aside0 ((((w23.setCell ⟨gb347, 0, none⟩ (.string t343)).setCell ⟨gb347, 1, none⟩ (.int .i64 t344)).setCell ⟨gb347, 2, none⟩ (.int .i64 t345)).heap[gb347]? = some (.cells #[.string t343, .int .i64 t344, .int .i64 t345] 89 (0, 0))) := ⟨by refine pk ?_; refine blk_put (cs := #[.string t343, .int .i64 t344, .int .i64 0]) ?_ 2 _ rfl; refine pk ?_; refine blk_put (cs := #[.string t343, .int .i64 0, .int .i64 0]) ?_ 1 _ rfl; refine pk ?_; refine blk_put (cs := #[.string (⟨#[]⟩ : ByteArray), .int .i64 0, .int .i64 0]) ?_ 0 _ rfl; exact pk BK347.out⟩
         have n3_ : Aside0 (Below w.heap.size w (((w23.setCell ⟨gb347, 0, none⟩ (.string t343)).setCell ⟨gb347, 1, none⟩ (.int .i64 t344)).setCell ⟨gb347, 2, none⟩ (.int .i64 t345))) := ⟨bl HB.out⟩
         (try clear BK338)
         (try clear BK339)
         (try clear BK347)
         (try clear HB)
         generalize (((w23.setCell ⟨gb347, 0, none⟩ (.string t343)).setCell ⟨gb347, 1, none⟩ (.int .i64 t344)).setCell ⟨gb347, 2, none⟩ (.int .i64 t345)) = w41 at n0_ n1_ n2_ n3_ ⊢
         have BK338 := n0_
         have BK339 := n1_
         have BK347 := n2_
         have HB := n3_
         clear n0_ n1_ n2_ n3_
         replace BK338 := Aside0.mk (blk_drew BK338.out)
         replace BK339 := Aside0.mk (blk_drew BK339.out)
         replace BK347 := Aside0.mk (blk_drew BK347.out)
         replace HB := Aside0.mk (below_drew1 HB.out)
         refine start_ (n := 38) (S := fun w' => True) (ds := []) #[false, false, false, false, false, false, false, false, false, false, false, false, false, false, false, false, false, false, false, false, false, false, false, false, false, false, false, false, false, false, false, false, false, false, false, false, false, false] kr rfl rfl trivial (fun hHeld => ?_); refine with_tabW lodestarref05_Check.tab9 lodestarref05_Check.bits9 (fun HT_ HW_ => ?_)
         generalize w41.drew = w42 at BK338 BK339 BK347 HB hHeld ⊢
         refine pure_ (i := 0) (N := some 34) (v := ?_) (a' := ?_) #[true, false, false, false, false, false, false, false, false, false, false, false, false, false, false, false, false, false, false, false, false, false, false, false, false, false, false, false, false, false, false, false, false, false, false, false, false, false] rfl rfl (any_of HT_.out kr) (fun _ _ _ h => h) (Or.inl ⟨by rfl, ?_⟩) ?_ ?_
         rotate_left
         ·exact wl
         rotate_left
         ·exact ap
         refine pure_ (i := 1) (N := some 35) (v := ?_) (a' := ?_) #[true, true, false, false, false, false, false, false, false, false, false, false, false, false, false, false, false, false, false, false, false, false, false, false, false, false, false, false, false, false, false, false, false, false, false, false, false, false] rfl rfl (any_of HT_.out kr) (fun _ _ _ h => h) (Or.inl ⟨by rfl, ?_⟩) ?_ ?_
         rotate_left
         ·exact wl
         rotate_left
         ·exact ap
         refine pure_ (i := 2) (N := some 36) (v := ?_) (a' := ?_) #[true, true, true, false, false, false, false, false, false, false, false, false, false, false, false, false, false, false, false, false, false, false, false, false, false, false, false, false, false, false, false, false, false, false, false, false, false, false] rfl rfl (any_of HT_.out kr) (fun _ _ _ h => h) (Or.inl ⟨by rfl, ?_⟩) ?_ ?_
         rotate_left
         ·exact wl
         rotate_left
         ·exact ap
         refine pure_ (i := 3) (N := some 37) (v := undef) (a' := ?_) #[true, true, true, true, false, false, false, false, false, false, false, false, false, false, false, false, false, false, false, false, false, false, false, false, false, false, false, false, false, false, false, false, false, false, false, false, false, false] rfl rfl (any_of HT_.out kr) (fun _ _ _ h => h) (Or.inr ⟨by rfl, rfl⟩) ?_ ?_
         rotate_left
         ·exact ap
         refine pure_ (i := 4) (N := some 38) (v := undef) (a' := ?_) #[true, true, true, true, true, false, false, false, false, false, false, false, false, false, false, false, false, false, false, false, false, false, false, false, false, false, false, false, false, false, false, false, false, false, false, false, false, false] rfl rfl (any_of HT_.out kr) (fun _ _ _ h => h) (Or.inr ⟨by rfl, rfl⟩) ?_ ?_
         rotate_left
         ·exact ap
         refine pure_ (i := 5) (N := some 39) (v := undef) (a' := ?_) #[true, true, true, true, true, true, false, false, false, false, false, false, false, false, false, false, false, false, false, false, false, false, false, false, false, false, false, false, false, false, false, false, false, false, false, false, false, false] rfl rfl (any_of HT_.out kr) (fun _ _ _ h => h) (Or.inr ⟨by rfl, rfl⟩) ?_ ?_
         rotate_left
         ·exact ap
         refine pure_ (i := 6) (N := some 40) (v := undef) (a' := ?_) #[true, true, true, true, true, true, true, false, false, false, false, false, false, false, false, false, false, false, false, false, false, false, false, false, false, false, false, false, false, false, false, false, false, false, false, false, false, false] rfl rfl (any_of HT_.out kr) (fun _ _ _ h => h) (Or.inr ⟨by rfl, rfl⟩) ?_ ?_
         rotate_left
         ·exact ap
         refine pure_ (i := 7) (N := some 41) (v := undef) (a' := ?_) #[true, true, true, true, true, true, true, true, false, false, false, false, false, false, false, false, false, false, false, false, false, false, false, false, false, false, false, false, false, false, false, false, false, false, false, false, false, false] rfl rfl (any_of HT_.out kr) (fun _ _ _ h => h) (Or.inr ⟨by rfl, rfl⟩) ?_ ?_
         rotate_left
         ·exact ap
         refine pure_ (i := 8) (N := some 42) (v := undef) (a' := ?_) #[true, true, true, true, true, true, true, true, true, false, false, false, false, false, false, false, false, false, false, false, false, false, false, false, false, false, false, false, false, false, false, false, false, false, false, false, false, false] rfl rfl (any_of HT_.out kr) (fun _ _ _ h => h) (Or.inr ⟨by rfl, rfl⟩) ?_ ?_
         rotate_left
         ·exact ap
         refine pure_ (i := 9) (N := some 43) (v := undef) (a' := ?_) #[true, true, true, true, true, true, true, true, true, true, false, false, false, false, false, false, false, false, false, false, false, false, false, false, false, false, false, false, false, false, false, false, false, false, false, false, false, false] rfl rfl (any_of HT_.out kr) (fun _ _ _ h => h) (Or.inr ⟨by rfl, rfl⟩) ?_ ?_
         rotate_left
         ·exact ap
         refine pure_ (i := 10) (N := some 44) (v := undef) (a' := ?_) #[true, true, true, true, true, true, true, true, true, true, true, false, false, false, false, false, false, false, false, false, false, false, false, false, false, false, false, false, false, false, false, false, false, false, false, false, false, false] rfl rfl (any_of HT_.out kr) (fun _ _ _ h => h) (Or.inr ⟨by rfl, rfl⟩) ?_ ?_
         rotate_left
         ·exact ap
         refine pure_ (i := 11) (N := some 45) (v := undef) (a' := ?_) #[true, true, true, true, true, true, true, true, true, true, true, true, false, false, false, false, false, false, false, false, false, false, false, false, false, false, false, false, false, false, false, false, false, false, false, false, false, false] rfl rfl (any_of HT_.out kr) (fun _ _ _ h => h) (Or.inr ⟨by rfl, rfl⟩) ?_ ?_
         rotate_left
         ·exact ap
         refine pure_ (i := 12) (N := some 46) (v := undef) (a' := ?_) #[true, true, true, true, true, true, true, true, true, true, true, true, true, false, false, false, false, false, false, false, false, false, false, false, false, false, false, false, false, false, false, false, false, false, false, false, false, false] rfl rfl (any_of HT_.out kr) (fun _ _ _ h => h) (Or.inr ⟨by rfl, rfl⟩) ?_ ?_
         rotate_left
         ·exact ap
         refine pure_ (i := 13) (N := some 47) (v := ?_) (a' := ?_) #[true, true, true, true, true, true, true, true, true, true, true, true, true, true, false, false, false, false, false, false, false, false, false, false, false, false, false, false, false, false, false, false, false, false, false, false, false, false] rfl rfl (any_of HT_.out kr) (fun _ _ _ h => h) (Or.inl ⟨by rfl, ?_⟩) ?_ ?_
         rotate_left
         ·exact wl
         rotate_left
         ·exact ap
         refine pure_ (i := 14) (N := some 48) (v := ?_) (a' := ?_) #[true, true, true, true, true, true, true, true, true, true, true, true, true, true, true, false, false, false, false, false, false, false, false, false, false, false, false, false, false, false, false, false, false, false, false, false, false, false] rfl rfl (any_of HT_.out kr) (fun _ _ _ h => h) (Or.inl ⟨by rfl, ?_⟩) ?_ ?_
         rotate_left
         ·exact wl
         rotate_left
         ·exact ap
         refine pure_ (i := 15) (N := some 49) (v := undef) (a' := ?_) #[true, true, true, true, true, true, true, true, true, true, true, true, true, true, true, true, false, false, false, false, false, false, false, false, false, false, false, false, false, false, false, false, false, false, false, false, false, false] rfl rfl (any_of HT_.out kr) (fun _ _ _ h => h) (Or.inr ⟨by rfl, rfl⟩) ?_ ?_
         rotate_left
         ·exact ap
         refine pure_ (i := 16) (N := some 50) (v := undef) (a' := ?_) #[true, true, true, true, true, true, true, true, true, true, true, true, true, true, true, true, true, false, false, false, false, false, false, false, false, false, false, false, false, false, false, false, false, false, false, false, false, false] rfl rfl (any_of HT_.out kr) (fun _ _ _ h => h) (Or.inr ⟨by rfl, rfl⟩) ?_ ?_
         rotate_left
         ·exact ap
         refine pure_ (i := 17) (N := some 51) (v := undef) (a' := ?_) #[true, true, true, true, true, true, true, true, true, true, true, true, true, true, true, true, true, true, false, false, false, false, false, false, false, false, false, false, false, false, false, false, false, false, false, false, false, false] rfl rfl (any_of HT_.out kr) (fun _ _ _ h => h) (Or.inr ⟨by rfl, rfl⟩) ?_ ?_
         rotate_left
         ·exact ap
         refine pure_ (i := 18) (N := some 52) (v := undef) (a' := ?_) #[true, true, true, true, true, true, true, true, true, true, true, true, true, true, true, true, true, true, true, false, false, false, false, false, false, false, false, false, false, false, false, false, false, false, false, false, false, false] rfl rfl (any_of HT_.out kr) (fun _ _ _ h => h) (Or.inr ⟨by rfl, rfl⟩) ?_ ?_
         rotate_left
         ·exact ap
         refine pure_ (i := 19) (N := some 53) (v := undef) (a' := ?_) #[true, true, true, true, true, true, true, true, true, true, true, true, true, true, true, true, true, true, true, true, false, false, false, false, false, false, false, false, false, false, false, false, false, false, false, false, false, false] rfl rfl (any_of HT_.out kr) (fun _ _ _ h => h) (Or.inr ⟨by rfl, rfl⟩) ?_ ?_
         rotate_left
         ·exact ap
         refine pure_ (i := 20) (N := some 54) (v := undef) (a' := ?_) #[true, true, true, true, true, true, true, true, true, true, true, true, true, true, true, true, true, true, true, true, true, false, false, false, false, false, false, false, false, false, false, false, false, false, false, false, false, false] rfl rfl (any_of HT_.out kr) (fun _ _ _ h => h) (Or.inr ⟨by rfl, rfl⟩) ?_ ?_
         rotate_left
         ·exact ap
         refine pure_ (i := 21) (N := some 55) (v := undef) (a' := ?_) #[true, true, true, true, true, true, true, true, true, true, true, true, true, true, true, true, true, true, true, true, true, true, false, false, false, false, false, false, false, false, false, false, false, false, false, false, false, false] rfl rfl (any_of HT_.out kr) (fun _ _ _ h => h) (Or.inr ⟨by rfl, rfl⟩) ?_ ?_
         rotate_left
         ·exact ap
         refine pure_ (i := 22) (N := some 56) (v := undef) (a' := ?_) #[true, true, true, true, true, true, true, true, true, true, true, true, true, true, true, true, true, true, true, true, true, true, true, false, false, false, false, false, false, false, false, false, false, false, false, false, false, false] rfl rfl (any_of HT_.out kr) (fun _ _ _ h => h) (Or.inr ⟨by rfl, rfl⟩) ?_ ?_
         rotate_left
         ·exact ap
         refine pure_ (i := 23) (N := some 57) (v := ?_) (a' := ?_) #[true, true, true, true, true, true, true, true, true, true, true, true, true, true, true, true, true, true, true, true, true, true, true, true, false, false, false, false, false, false, false, false, false, false, false, false, false, false] rfl rfl (any_of HT_.out kr) (fun _ _ _ h => h) (Or.inl ⟨by rfl, ?_⟩) ?_ ?_
         rotate_left
         ·exact wl
         rotate_left
         ·exact ap
         refine pure_ (i := 24) (N := some 58) (v := ?_) (a' := ?_) #[true, true, true, true, true, true, true, true, true, true, true, true, true, true, true, true, true, true, true, true, true, true, true, true, true, false, false, false, false, false, false, false, false, false, false, false, false, false] rfl rfl (any_of HT_.out kr) (fun _ _ _ h => h) (Or.inl ⟨by rfl, ?_⟩) ?_ ?_
         rotate_left
         ·exact wl
         rotate_left
         ·exact ap
         refine pure_ (i := 25) (N := some 59) (v := undef) (a' := ?_) #[true, true, true, true, true, true, true, true, true, true, true, true, true, true, true, true, true, true, true, true, true, true, true, true, true, true, false, false, false, false, false, false, false, false, false, false, false, false] rfl rfl (any_of HT_.out kr) (fun _ _ _ h => h) (Or.inr ⟨by rfl, rfl⟩) ?_ ?_
         rotate_left
         ·exact ap
         refine pure_ (i := 26) (N := some 60) (v := undef) (a' := ?_) #[true, true, true, true, true, true, true, true, true, true, true, true, true, true, true, true, true, true, true, true, true, true, true, true, true, true, true, false, false, false, false, false, false, false, false, false, false, false] rfl rfl (any_of HT_.out kr) (fun _ _ _ h => h) (Or.inr ⟨by rfl, rfl⟩) ?_ ?_
         rotate_left
         ·exact ap
         refine pure_ (i := 27) (N := some 61) (v := undef) (a' := ?_) #[true, true, true, true, true, true, true, true, true, true, true, true, true, true, true, true, true, true, true, true, true, true, true, true, true, true, true, true, false, false, false, false, false, false, false, false, false, false] rfl rfl (any_of HT_.out kr) (fun _ _ _ h => h) (Or.inr ⟨by rfl, rfl⟩) ?_ ?_
         rotate_left
         ·exact ap
         refine pure_ (i := 28) (N := some 62) (v := undef) (a' := ?_) #[true, true, true, true, true, true, true, true, true, true, true, true, true, true, true, true, true, true, true, true, true, true, true, true, true, true, true, true, true, false, false, false, false, false, false, false, false, false] rfl rfl (any_of HT_.out kr) (fun _ _ _ h => h) (Or.inr ⟨by rfl, rfl⟩) ?_ ?_
         rotate_left
         ·exact ap
         refine pure_ (i := 29) (N := some 63) (v := undef) (a' := ?_) #[true, true, true, true, true, true, true, true, true, true, true, true, true, true, true, true, true, true, true, true, true, true, true, true, true, true, true, true, true, true, false, false, false, false, false, false, false, false] rfl rfl (any_of HT_.out kr) (fun _ _ _ h => h) (Or.inr ⟨by rfl, rfl⟩) ?_ ?_
         rotate_left
         ·exact ap
         refine pure_ (i := 30) (N := some 64) (v := undef) (a' := ?_) #[true, true, true, true, true, true, true, true, true, true, true, true, true, true, true, true, true, true, true, true, true, true, true, true, true, true, true, true, true, true, true, false, false, false, false, false, false, false] rfl rfl (any_of HT_.out kr) (fun _ _ _ h => h) (Or.inr ⟨by rfl, rfl⟩) ?_ ?_
         rotate_left
         ·exact ap
         refine pure_ (i := 31) (N := some 65) (v := undef) (a' := ?_) #[true, true, true, true, true, true, true, true, true, true, true, true, true, true, true, true, true, true, true, true, true, true, true, true, true, true, true, true, true, true, true, true, false, false, false, false, false, false] rfl rfl (any_of HT_.out kr) (fun _ _ _ h => h) (Or.inr ⟨by rfl, rfl⟩) ?_ ?_
         rotate_left
         ·exact ap
         refine pure_ (i := 32) (N := some 66) (v := undef) (a' := ?_) #[true, true, true, true, true, true, true, true, true, true, true, true, true, true, true, true, true, true, true, true, true, true, true, true, true, true, true, true, true, true, true, true, true, false, false, false, false, false] rfl rfl (any_of HT_.out kr) (fun _ _ _ h => h) (Or.inr ⟨by rfl, rfl⟩) ?_ ?_
         rotate_left
         ·exact ap
         refine pure_ (i := 33) (N := some 67) (v := undef) (a' := ?_) #[true, true, true, true, true, true, true, true, true, true, true, true, true, true, true, true, true, true, true, true, true, true, true, true, true, true, true, true, true, true, true, true, true, true, false, false, false, false] rfl rfl (any_of HT_.out kr) (fun _ _ _ h => h) (Or.inr ⟨by rfl, rfl⟩) ?_ ?_
         rotate_left
         ·exact ap
         refine pure_ (i := 34) (N := some 68) (v := undef) (a' := ?_) #[true, true, true, true, true, true, true, true, true, true, true, true, true, true, true, true, true, true, true, true, true, true, true, true, true, true, true, true, true, true, true, true, true, true, true, false, false, false] rfl rfl (any_of HT_.out kr) (fun _ _ _ h => h) (Or.inr ⟨by rfl, rfl⟩) ?_ ?_
         rotate_left
         ·exact ap
         refine pure_ (i := 35) (N := some 69) (v := undef) (a' := ?_) #[true, true, true, true, true, true, true, true, true, true, true, true, true, true, true, true, true, true, true, true, true, true, true, true, true, true, true, true, true, true, true, true, true, true, true, true, false, false] rfl rfl (any_of HT_.out kr) (fun _ _ _ h => h) (Or.inr ⟨by rfl, rfl⟩) ?_ ?_
         rotate_left
         ·exact ap
         refine pure_ (i := 36) (N := some 70) (v := undef) (a' := ?_) #[true, true, true, true, true, true, true, true, true, true, true, true, true, true, true, true, true, true, true, true, true, true, true, true, true, true, true, true, true, true, true, true, true, true, true, true, true, false] rfl rfl (any_of HT_.out kr) (fun _ _ _ h => h) (Or.inr ⟨by rfl, rfl⟩) ?_ ?_
         rotate_left
         ·exact ap
         refine pure_ (i := 37) (N := some 71) (v := ?_) (a' := ?_) #[true, true, true, true, true, true, true, true, true, true, true, true, true, true, true, true, true, true, true, true, true, true, true, true, true, true, true, true, true, true, true, true, true, true, true, true, true, true] rfl rfl (any_of HT_.out kr) (fun _ _ _ h => h) (Or.inl ⟨by rfl, ?_⟩) ?_ ?_
         rotate_left
         ·exact wl
         rotate_left
         ·exact ap
         refine done_ (done_of HT_.out kr) ?_
         try go_wp2
         go_meet
         case rel => exact ⟨_, (true), hsr, H', ⟨by have := HK1.out; first | omega | exact Nat.le_refl _⟩, ⟨pk BK338.out⟩, ⟨pk BK339.out⟩, ⟨pk BK347.out⟩, ⟨bl HB.out⟩⟩
       case rest =>
        clear HC17
        try clear c1
        try clear c2
        try clear p2
        try clear c3
        try clear p3
        try clear q3
        try clear hx3
        try clear c27
        try clear c28
        try clear c28b0
        try clear c28b1
        try clear c34
        try clear p34
        try clear q34
        try clear hx34
        try clear hx348_0
        try clear hx348_1
        try clear p348
        try clear q348
        obtain ⟨kq, x71_16, rfl, HA, HJ16, BK338, BK339, BK347, HB⟩ := hcut
        cases kq with
        | zero => exact absurd HA.out (by simp [lodestarref05_Check.j1])
        | succ kj16 =>
         have H := HA.out
         clear HA
         simp only [lodestarref05_Check.j1] at H
         by_cases c43 : x71_16 = true
         ·subst c43
          have H1 : (some 60) = some r := by rw [if_pos rfl] at H; exact H
          clear H
          have H := H1
          clear H1
          obtain rfl := Option.some.inj H
          go_wp2
          go_ret
          exact ⟨er0, bl HB.out⟩
         ·replace c43 := Bool.eq_false_iff.mpr c43
          subst c43
          have H1 : (lodestarref05_Check.l0 kj16 (wrap64 (x5_1 + 1)) l0_0 l0_1 a1_0 l1_1 l1_2) = some r := by rw [if_neg (show ¬ (false = true) by decide)] at H; exact H
          clear H
          have H := H1
          clear H1
          have H' := Aside0.mk H
          clear H
          go_wp2
          go_roundg kj16
          case measure => have := HK1.out; have := HJ16.out; omega
          case rel => exact ⟨(wrap64 (x5_1 + 1)), hsr, H', ⟨by have := HK1.out; have := HJ16.out; omega⟩, ⟨pk BK338.out⟩, ⟨pk BK339.out⟩, ⟨bl HB.out⟩⟩
      ·rw [if_neg c15] at H
       exact absurd H (by simp)
     ·rw [if_neg c14] at H
      have c14b0 : decide (x5_1 < (l1_1.length : Int)) = false := decide_eq_false c14
      clear c14
      have H' := Aside0.mk H
      clear H
      have hnb44 := NB339_338.out
      have hnc44 := NB338_339.out
      obtain ⟨hcz45_0, hcz45_1, hcz45_2, hfz45_0, hfz45_1, hfz45_2⟩ := cz3 BK339.out
      go_wp2
      go_loopg [8] k1 (fun kq v8 w' => ∃ (x8_2 : Int), v8 = .int .i64 x8_2 ∧ Aside0 (lodestarref05_Check.l1 kq x8_2 l0_0 l0_1 a1_0 l1_1 l1_2 = some r) ∧ Aside0 (kq ≤ k1) ∧ Aside0 (w'.heap[gb338]? = some (.cells #[(.slice A0_0 l0_0.length c0_0), (.slice A0_1 l0_1.length c0_1)] 51 (0, 0))) ∧ Aside0 (w'.heap[gb339]? = some (.cells #[.int .i64 a1_0, (.slice A1_1 l1_1.length c1_1), (.slice A1_2 l1_2.length c1_2)] 25 (0, 0))) ∧ Aside0 (Below w.heap.size w w'))
      case atStart => exact ⟨(0), hsr, H', ⟨Nat.le_refl _⟩, ⟨pk BK338.out⟩, ⟨pk BK339.out⟩, ⟨bl HB.out⟩⟩
      case round =>
       clear H'
       try clear c1
       try clear c2
       try clear p2
       try clear c3
       try clear p3
       try clear q3
       try clear hx3
       try clear c4
       try clear p6
       try clear c14
       try clear c14b0
       try clear c15
       try clear c27
       try clear c28
       try clear c28b0
       try clear c28b1
       try clear c34
       try clear p34
       try clear q34
       try clear hx34
       try clear c43
       try clear c44
       try clear hcz45_0 hcz45_1 hcz45_2 hfz45_0 hfz45_1 hfz45_2
       try clear hx348_0
       try clear hx348_1
       try clear p2
       try clear p3
       try clear p34
       try clear p348
       try clear q3
       try clear q34
       try clear q348
       obtain ⟨x8_2, rfl, HA, HK2, BK338, BK339, HB⟩ := hrel
       cases gk with
       | zero => exact absurd HA.out (by simp [lodestarref05_Check.l1])
       | succ k2 =>
        have H := HA.out
        clear HA
        simp only [lodestarref05_Check.l1] at H
        by_cases c46 : x8_2 < (l1_2.length : Int)
        ·rw [if_pos c46] at H
         have c46b0 : decide (x8_2 < (l1_2.length : Int)) = true := decide_eq_true c46
         clear c46
         by_cases c47 : 0 ≤ x8_2
         ·rw [if_pos c47] at H
          have c47b0 : decide (0 ≤ x8_2) = true := decide_eq_true c47
          clear c47
          replace H := Option.bind_eq_some_iff.mp H
          obtain ⟨t354, A480, H⟩ := H
          replace H : (if t354 = 0 then (lodestarref05_Check.j3 k2 x8_2 true l0_0 l0_1 a1_0 l1_1 l1_2) else (if ((rd_T61 l1_2 x8_2).f1.f0) = t354 then ((lodestarref05_Value.f k2 ((rd_T61 l1_2 x8_2).f1.f0) ((rd_T61 l1_2 x8_2).f1.f1) ((rd_T61 l1_2 x8_2).f1.f2)).bind fun t357 => (lodestarref05_Check.j3 k2 x8_2 (!t357) l0_0 l0_1 a1_0 l1_1 l1_2)) else (lodestarref05_Check.j3 k2 x8_2 true l0_0 l0_1 a1_0 l1_1 l1_2))) = some r := H
          have A48 := Aside0.mk A480
          clear A480
          have HC49 := Aside0.mk H
          clear H
          have hnb50 := NB339_338.out
          have hnc50 := NB338_339.out
          obtain ⟨hcz51_0, hcz51_1, hcz51_2, hfz51_0, hfz51_1, hfz51_2⟩ := cz3 BK339.out
          try go_wp2
          replace BK338 := Aside0.mk (blk_drew BK338.out)
          replace BK339 := Aside0.mk (blk_drew BK339.out)
          replace HB := Aside0.mk (below_drew1 HB.out)
          have p353 : 0 ≤ (x8_2 : Int) := of_decide_eq_true ha
          have q353 : x8_2 < (l1_2.length : Int) := of_decide_eq_true ha
          obtain ⟨ad353, e353, hx353_0, hx353_1, hx353_2, hx353_3⟩ := at_T61 HR1_2.out x8_2 p353 q353
          have hw353_3 := hx353_3
          have hw353_2 := hx353_2
          have hw353_1 := hx353_1
          have hw353_0 := hx353_0
          cases e353
          replace hx353_0 := (HB.out.cell (World.block_lt_of_cell? w _ hx353_0)).trans hx353_0
          replace hx353_1 := (HB.out.cell (World.block_lt_of_cell? w _ hx353_1)).trans hx353_1
          replace hx353_2 := (HB.out.cell (World.block_lt_of_cell? w _ hx353_2)).trans hx353_2
          replace hx353_3 := (HB.out.cell (World.block_lt_of_cell? w _ hx353_3)).trans hx353_3
          replace p353 := eq_true p353
          replace q353 := eq_true q353
          refine start_ (n := 9) (S := fun w' => w'.cell? ⟨gb338, 0, none⟩ = some (.slice A0_0 l0_0.length c0_0) ∧ w'.cell? ⟨gb338, 1, none⟩ = some (.slice A0_1 l0_1.length c0_1) ∧ w'.cell? ⟨gb339, 0, none⟩ = some (.int .i64 a1_0) ∧ w'.cell? ⟨gb339, 1, none⟩ = some (.slice A1_1 l1_1.length c1_1) ∧ w'.cell? ⟨gb339, 2, none⟩ = some (.slice (some ad353) l1_2.length c1_2) ∧ w'.cell? (ad353.add ((x8_2).toNat * 4)) = some (.string ((rd_T61 l1_2 x8_2).f0)) ∧ w'.cell? ⟨(ad353.add ((x8_2).toNat * 4)).block, (ad353.add ((x8_2).toNat * 4)).off + 1, none⟩ = some (.int .i64 ((rd_T61 l1_2 x8_2).f1.f0)) ∧ w'.cell? ⟨(ad353.add ((x8_2).toNat * 4)).block, (ad353.add ((x8_2).toNat * 4)).off + 2, none⟩ = some (.int .i64 ((rd_T61 l1_2 x8_2).f1.f1)) ∧ w'.cell? ⟨(ad353.add ((x8_2).toNat * 4)).block, (ad353.add ((x8_2).toNat * 4)).off + 3, none⟩ = some (.string ((rd_T61 l1_2 x8_2).f1.f2))) (ds := []) #[false, false, false, false, false, false, false, false, false] kr rfl rfl ⟨(blk_cell BK338.out 0).trans rfl, (blk_cell BK338.out 1).trans rfl, (blk_cell BK339.out 0).trans rfl, (blk_cell BK339.out 1).trans rfl, (blk_cell BK339.out 2).trans rfl, ((HB.out.cell (World.block_lt_of_cell? w _ hw353_0)).trans hw353_0), ((HB.out.cell (World.block_lt_of_cell? w _ hw353_1)).trans hw353_1), ((HB.out.cell (World.block_lt_of_cell? w _ hw353_2)).trans hw353_2), ((HB.out.cell (World.block_lt_of_cell? w _ hw353_3)).trans hw353_3)⟩ (fun hHeld => ?_); refine with_tabW lodestarref05_Check.tab14 lodestarref05_Check.bits14 (fun HT_ HW_ => ?_)
          generalize wr.drew = w52 at BK338 BK339 HB hx353_0 hx353_1 hx353_2 hx353_3 hHeld ⊢
          refine pure_ (i := 1) (N := some 80) (v := ?_) (a' := ?_) #[false, true, false, false, false, false, false, false, false] rfl rfl (any_of HT_.out kr) (fun _ _ _ h => h) (Or.inl ⟨by rfl, ?_⟩) ?_ ?_
          rotate_left
          ·exact wl
          rotate_left
          ·exact ap
          refine pure_ (i := 3) (N := some 82) (v := ?_) (a' := ?_) #[false, true, false, true, false, false, false, false, false] rfl rfl (any_of HT_.out kr) (fun _ _ _ h => h) (Or.inl ⟨by rfl, ?_⟩) ?_ ?_
          rotate_left
          ·exact wl
          rotate_left
          ·exact ap
          refine take_ (i := 0) (N := some 79) (v := ?_) (a' := ?_) #[true, true, false, true, false, false, false, false, false] rfl rfl (take_ofW HT_.out HW_.out kr) (fun _ _ _ h => h) (Or.inl ⟨by rfl, ?_⟩) hHeld ?_ ?_
          rotate_left
          ·rintro w' ⟨s0, s1, s2, s3, s4, s5, s6, s7, s8⟩
           go_simp
           exact rl
          rotate_left
          ·exact ap
          refine take_ (i := 2) (N := some 81) (v := ?_) (a' := ?_) #[true, true, true, true, false, false, false, false, false] rfl rfl (take_ofW HT_.out HW_.out kr) (fun _ _ _ h => h) (Or.inl ⟨by rfl, ?_⟩) hHeld ?_ ?_
          rotate_left
          ·rintro w' ⟨s0, s1, s2, s3, s4, s5, s6, s7, s8⟩
           go_simp
           exact rl
          rotate_left
          ·exact ap
          refine pure_ (i := 4) (N := some 83) (v := ?_) (a' := ?_) #[true, true, true, true, true, false, false, false, false] rfl rfl (any_of HT_.out kr) (fun _ _ _ h => h) (Or.inl ⟨by rfl, ?_⟩) ?_ ?_
          rotate_left
          ·exact wl
          rotate_left
          ·exact ap
          refine pure_ (i := 5) (N := some 84) (v := ?_) (a' := ?_) #[true, true, true, true, true, true, false, false, false] rfl rfl (any_of HT_.out kr) (fun _ _ _ h => h) (Or.inl ⟨by rfl, ?_⟩) ?_ ?_
          rotate_left
          ·exact wl
          rotate_left
          ·exact ap
          refine take_ (i := 6) (N := some 85) (v := ?_) (a' := ?_) #[true, true, true, true, true, true, true, false, false] rfl rfl (take_ofW HT_.out HW_.out kr) (fun _ _ _ h => h) (Or.inl ⟨by rfl, ?_⟩) hHeld ?_ ?_
          rotate_left
          ·rintro w' ⟨s0, s1, s2, s3, s4, s5, s6, s7, s8⟩
           go_simp
           exact rl
          rotate_left
          ·exact ap
          refine one_ (i := 7) (N := some 86) #[true, true, true, true, true, true, true, true, false] rfl rfl (one_of HT_.out kr) (by decide) (fun K hK => ?_)
          refine goes_ Tryd.func58 kr rfl #[.agg #[.slice A0_0 l0_0.length c0_0, .slice A0_1 l0_1.length c0_1], .string ((rd_T61 l1_2 x8_2).f0)] (by rfl) rfl rfl ga ?_
          with_reducible refine (lodestarref05_Kind.calls k2 _ _ l0_0 _ _ l0_1 ((rd_T61 l1_2 x8_2).f0) t354 _ ?side1 ?side2 ?side3 ?side4 A48.out).mono ?_
          (case side1 => repeat (first | exact (Kd.C_below HR0_0.out HB.out) | (with_reducible refine Kd.C_alloc ?_ _) | (with_reducible refine Kd.C_drewN ?_ _) | (with_reducible refine Kd.C_drew ?_)))
          (case side2 => exact HC0_0.out)
          (case side3 => repeat (first | exact (Kd.C_below HR0_1.out HB.out) | (with_reducible refine Kd.C_alloc ?_ _) | (with_reducible refine Kd.C_drewN ?_ _) | (with_reducible refine Kd.C_drew ?_)))
          (case side4 => exact HC0_1.out)
          rintro e w53 ⟨rfl, hb⟩
          refine ⟨_, rfl, ?_⟩
          replace BK338 := Aside0.mk (blk_below (pk BK338.out) hb)
          replace BK339 := Aside0.mk (blk_below (pk BK339.out) hb)
          replace HB := Aside0.mk (below_step (bl HB.out) hb)
          (try clear hb)
          (try clear hb2)
          (try clear hk)
          (try clear hi)
          refine hK.out _ _ ⟨(blk_cell BK338.out 0).trans rfl, (blk_cell BK338.out 1).trans rfl, (blk_cell BK339.out 0).trans rfl, (blk_cell BK339.out 1).trans rfl, (blk_cell BK339.out 2).trans rfl, ((HB.out.cell (World.block_lt_of_cell? w _ hw353_0)).trans hw353_0), ((HB.out.cell (World.block_lt_of_cell? w _ hw353_1)).trans hw353_1), ((HB.out.cell (World.block_lt_of_cell? w _ hw353_2)).trans hw353_2), ((HB.out.cell (World.block_lt_of_cell? w _ hw353_3)).trans hw353_3)⟩ (fun hHeld => ?_)
          clear hK K
          refine norm_ (a' := ?_) ?_ ?_
          rotate_left
          ·show Act.put _ (some 86) _ = _
           exact ap
          refine pure_ (i := 8) (N := some 9) (v := ?_) (a' := ?_) #[true, true, true, true, true, true, true, true, true] rfl rfl (any_of HT_.out kr) (fun _ _ _ h => h) (Or.inl ⟨by rfl, ?_⟩) ?_ ?_
          rotate_left
          ·exact wl
          rotate_left
          ·exact ap
          refine done_ (done_of HT_.out kr) ?_
          go_upto_region 15 with (fail)
          go_cut [109] (fun v109 wc => ∃ (kq : Nat) (x109_48 : Bool), v109 = .bool x109_48 ∧ Aside0 (lodestarref05_Check.j3 kq x8_2 x109_48 l0_0 l0_1 a1_0 l1_1 l1_2 = some r) ∧ Aside0 (kq ≤ k2) ∧ Aside0 (wc.heap[gb338]? = some (.cells #[(.slice A0_0 l0_0.length c0_0), (.slice A0_1 l0_1.length c0_1)] 51 (0, 0))) ∧ Aside0 (wc.heap[gb339]? = some (.cells #[.int .i64 a1_0, (.slice A1_1 l1_1.length c1_1), (.slice (some ad353) l1_2.length c1_2)] 25 (0, 0))) ∧ Aside0 (Below w.heap.size w wc))
          case first =>
           have H := HC49.out
           clear HC49
           by_cases c54 : t354 = 0
           ·rw [if_pos c54] at H
            have c54b0 : (t354 == 0) = true := beq_iff_eq.mpr c54
            have c54b1 : (t354 != 0) = false := bne_eq_false_iff_eq.mpr c54
            clear c54
            (first | rw [c54b0] | (simp only [i64_w, i32_w]; rw [c54b0]) | skip)
            have H' := Aside0.mk H
            clear H
            go_wp2
            go_meet
            case rel => exact ⟨_, (true), hsr, H', ⟨by have := HK1.out; have := HK2.out; first | omega | exact Nat.le_refl _⟩, ⟨pk BK338.out⟩, ⟨pk BK339.out⟩, ⟨bl HB.out⟩⟩
           ·rw [if_neg c54] at H
            have c54b0 : (t354 == 0) = false := beq_eq_false_iff_ne.mpr c54
            have c54b1 : (t354 != 0) = true := bne_iff_ne.mpr c54
            (first | rw [c54b0] | (simp only [i64_w, i32_w]; rw [c54b0]) | skip)
            by_cases c55 : ((rd_T61 l1_2 x8_2).f1.f0) = t354
            ·rw [if_pos c55] at H
             have c55b0 : (((rd_T61 l1_2 x8_2).f1.f0) == t354) = true := beq_iff_eq.mpr c55
             have c55b1 : (((rd_T61 l1_2 x8_2).f1.f0) != t354) = false := bne_eq_false_iff_eq.mpr c55
             clear c55
             replace H := Option.bind_eq_some_iff.mp H
             obtain ⟨t357, A560, H⟩ := H
             replace H : (lodestarref05_Check.j3 k2 x8_2 (!t357) l0_0 l0_1 a1_0 l1_1 l1_2) = some r := H
             have A56 := Aside0.mk A560
             clear A560
             have H' := Aside0.mk H
             clear H
             have hnb57 := NB339_338.out
             have hnc57 := NB338_339.out
             obtain ⟨hcz58_0, hcz58_1, hcz58_2, hfz58_0, hfz58_1, hfz58_2⟩ := cz3 BK339.out
             have p355 : 0 ≤ (x8_2 : Int) := of_decide_eq_true ha
             have q355 : x8_2 < (l1_2.length : Int) := of_decide_eq_true ha
             obtain ⟨ad355, e355, hx355_0, hx355_1, hx355_2, hx355_3⟩ := at_T61 HR1_2.out x8_2 p355 q355
             obtain rfl : ad353 = ad355 := (by injection e355)
             replace hx355_0 := (HB.out.cell (World.block_lt_of_cell? w _ hx355_0)).trans hx355_0
             replace hx355_1 := (HB.out.cell (World.block_lt_of_cell? w _ hx355_1)).trans hx355_1
             replace hx355_2 := (HB.out.cell (World.block_lt_of_cell? w _ hx355_2)).trans hx355_2
             replace hx355_3 := (HB.out.cell (World.block_lt_of_cell? w _ hx355_3)).trans hx355_3
             replace p355 := eq_true p355
             replace q355 := eq_true q355
             have p356 : 0 ≤ (x8_2 : Int) := of_decide_eq_true ha
             have q356 : x8_2 < (l1_2.length : Int) := of_decide_eq_true ha
             obtain ⟨ad356, e356, hx356_0, hx356_1, hx356_2, hx356_3⟩ := at_T61 HR1_2.out x8_2 p356 q356
             obtain rfl : ad353 = ad356 := (by injection e356)
             replace hx356_0 := (HB.out.cell (World.block_lt_of_cell? w _ hx356_0)).trans hx356_0
             replace hx356_1 := (HB.out.cell (World.block_lt_of_cell? w _ hx356_1)).trans hx356_1
             replace hx356_2 := (HB.out.cell (World.block_lt_of_cell? w _ hx356_2)).trans hx356_2
             replace hx356_3 := (HB.out.cell (World.block_lt_of_cell? w _ hx356_3)).trans hx356_3
             replace p356 := eq_true p356
             replace q356 := eq_true q356
             go_wp2_with (first | (go_at_call 45; (with_reducible refine (lodestarref05_Value.calls k2 ((rd_T61 l1_2 x8_2).f1.f0) ((rd_T61 l1_2 x8_2).f1.f1) ((rd_T61 l1_2 x8_2).f1.f2) t357 _ A56.out).mono ?_); rintro e w59 ⟨rfl, hb⟩; replace BK338 := Aside0.mk (blk_below (pk BK338.out) hb); replace BK339 := Aside0.mk (blk_below (pk BK339.out) hb); replace HB := Aside0.mk (below_step (bl HB.out) hb); (try clear hb); (try clear hb2); (try clear hk); (try clear hi)))
             go_meet
             case rel => exact ⟨_, (!t357), hsr, H', ⟨by have := HK1.out; have := HK2.out; first | omega | exact Nat.le_refl _⟩, ⟨pk BK338.out⟩, ⟨pk BK339.out⟩, ⟨bl HB.out⟩⟩
            ·rw [if_neg c55] at H
             have c55b0 : (((rd_T61 l1_2 x8_2).f1.f0) == t354) = false := beq_eq_false_iff_ne.mpr c55
             have c55b1 : (((rd_T61 l1_2 x8_2).f1.f0) != t354) = true := bne_iff_ne.mpr c55
             have H' := Aside0.mk H
             clear H
             have hnb60 := NB339_338.out
             have hnc60 := NB338_339.out
             obtain ⟨hcz61_0, hcz61_1, hcz61_2, hfz61_0, hfz61_1, hfz61_2⟩ := cz3 BK339.out
             have p355 : 0 ≤ (x8_2 : Int) := of_decide_eq_true ha
             have q355 : x8_2 < (l1_2.length : Int) := of_decide_eq_true ha
             obtain ⟨ad355, e355, hx355_0, hx355_1, hx355_2, hx355_3⟩ := at_T61 HR1_2.out x8_2 p355 q355
             obtain rfl : ad353 = ad355 := (by injection e355)
             replace hx355_0 := (HB.out.cell (World.block_lt_of_cell? w _ hx355_0)).trans hx355_0
             replace hx355_1 := (HB.out.cell (World.block_lt_of_cell? w _ hx355_1)).trans hx355_1
             replace hx355_2 := (HB.out.cell (World.block_lt_of_cell? w _ hx355_2)).trans hx355_2
             replace hx355_3 := (HB.out.cell (World.block_lt_of_cell? w _ hx355_3)).trans hx355_3
             replace p355 := eq_true p355
             replace q355 := eq_true q355
             go_wp2
             go_meet
             case rel => exact ⟨_, (true), hsr, H', ⟨by have := HK1.out; have := HK2.out; first | omega | exact Nat.le_refl _⟩, ⟨pk BK338.out⟩, ⟨pk BK339.out⟩, ⟨bl HB.out⟩⟩
          case rest =>
           clear HC49
           try clear c1
           try clear c2
           try clear p2
           try clear c3
           try clear p3
           try clear q3
           try clear hx3
           try clear c4
           try clear c5
           try clear c6
           try clear p6
           try clear c14
           try clear c14b0
           try clear c15
           try clear c27
           try clear c28
           try clear c28b0
           try clear c28b1
           try clear c34
           try clear p34
           try clear q34
           try clear hx34
           try clear p35
           try clear q35
           try clear hx35
           try clear c43
           try clear c44
           try clear c46
           try clear c46b0
           try clear c47
           try clear c47b0
           try clear c50
           try clear c54
           try clear c54b0
           try clear c54b1
           try clear c55
           try clear c55b0
           try clear c55b1
           try clear c57
           try clear c58
           try clear c60
           try clear hcz61_0 hcz61_1 hcz61_2 hfz61_0 hfz61_1 hfz61_2
           try clear hcz58_0 hcz58_1 hcz58_2 hfz58_0 hfz58_1 hfz58_2
           try clear hcz51_0 hcz51_1 hcz51_2 hfz51_0 hfz51_1 hfz51_2
           try clear hcz45_0 hcz45_1 hcz45_2 hfz45_0 hfz45_1 hfz45_2
           try clear hx348_0
           try clear hx348_1
           try clear hx353_0
           try clear hx353_1
           try clear hx353_2
           try clear hx353_3
           try clear hx355_0
           try clear hx355_1
           try clear hx355_2
           try clear hx355_3
           try clear hx356_0
           try clear hx356_1
           try clear hx356_2
           try clear hx356_3
           try clear p2
           try clear p3
           try clear p34
           try clear p348
           try clear p353
           try clear p355
           try clear p356
           try clear p6
           try clear q3
           try clear q34
           try clear q348
           try clear q353
           try clear q355
           try clear q356
           obtain ⟨kq, x109_48, rfl, HA, HJ48, BK338, BK339, HB⟩ := hcut
           cases kq with
           | zero => exact absurd HA.out (by simp [lodestarref05_Check.j3])
           | succ kj48 =>
            have H := HA.out
            clear HA
            simp only [lodestarref05_Check.j3] at H
            by_cases c62 : x109_48 = true
            ·subst c62
             have H1 : (some 51) = some r := by rw [if_pos rfl] at H; exact H
             clear H
             have H := H1
             clear H1
             obtain rfl := Option.some.inj H
             go_wp2
             go_ret
             exact ⟨er0, bl HB.out⟩
            ·replace c62 := Bool.eq_false_iff.mpr c62
             subst c62
             have H1 : (lodestarref05_Check.l1 kj48 (wrap64 (x8_2 + 1)) l0_0 l0_1 a1_0 l1_1 l1_2) = some r := by rw [if_neg (show ¬ (false = true) by decide)] at H; exact H
             clear H
             have H := H1
             clear H1
             have H' := Aside0.mk H
             clear H
             go_wp2
             go_roundg kj48
             case measure => have := HK1.out; have := HK2.out; have := HJ48.out; omega
             case rel => exact ⟨(wrap64 (x8_2 + 1)), hsr, H', ⟨by have := HK1.out; have := HK2.out; have := HJ48.out; omega⟩, ⟨pk BK338.out⟩, ⟨pk BK339.out⟩, ⟨bl HB.out⟩⟩
         ·rw [if_neg c47] at H
          exact absurd H (by simp)
        ·rw [if_neg c46] at H
         have c46b0 : decide (x8_2 < (l1_2.length : Int)) = false := decide_eq_false c46
         clear c46
         obtain rfl := Option.some.inj H
         have hnb63 := NB339_338.out
         have hnc63 := NB338_339.out
         obtain ⟨hcz64_0, hcz64_1, hcz64_2, hfz64_0, hfz64_1, hfz64_2⟩ := cz3 BK339.out
         go_wp2
         go_ret
         exact ⟨er0, bl HB.out⟩
  ·replace c6 := Bool.eq_false_iff.mpr c6
   subst c6
   have H1 : (some 120) = some r := by rw [if_neg (show ¬ (false = true) by decide)] at H; exact H
   clear H
   have H := H1
   clear H1
   obtain rfl := Option.some.inj H
   go_enter Tryd.func25, Tryd.ntmps25
   go_wp2_with (first | ((with_reducible refine gate_dst (N := 2) rfl ?_); (try (refine gate_guard (by rfl) ?_; dsimp only)); refine box_event ?hg (N := 2) ?hd (cs := #[.slice A0_0 l0_0.length c0_0, .slice A0_1 l0_1.length c0_1]) (t := 51) ?hr ?_; (case hd => rfl); (case hg => rfl); (case hr => first | (go_simp; done) | (go_simp; rfl)); intro gb338 hg w65 hbox hb; have BK338 := Aside0.mk (hbox); have GW338 := Aside0.mk (gs (w := w) hg (bl HB.out)); have GE338 := Aside0.mk (gs (w := w) hg (bl HB.out)); replace HB := Aside0.mk (below_step (bl HB.out) hb); clear hb hbox hg) | ((with_reducible refine gate_dst (N := 3) rfl ?_); (try (refine gate_guard (by rfl) ?_; dsimp only)); refine box_event ?hg (N := 3) ?hd (cs := #[.int .i64 a1_0, .slice A1_1 l1_1.length c1_1, .slice A1_2 l1_2.length c1_2]) (t := 25) ?hr ?_; (case hd => rfl); (case hg => rfl); (case hr => first | (go_simp; done) | (go_simp; rfl)); intro gb339 hg w66 hbox hb; have BK339 := Aside0.mk (hbox); have GW339 := Aside0.mk (gs (w := w) hg (bl HB.out)); have GE339 := Aside0.mk (gs (w := w) hg (bl HB.out)); replace HB := Aside0.mk (below_step (bl HB.out) hb); have NB338_339 := Aside0.mk ((gl (g := gb338) hg (pk BK338.out))); have NB339_338 := Aside0.mk ((gm (g := gb338) hg (pk BK338.out))); replace BK338 := Aside0.mk (blk_below (pk BK338.out) hb); clear hb hbox hg; have hnb67 := NB338_339.out; have hnc67 := NB339_338.out; obtain ⟨hcz68_0, hcz68_1, hfz68_0, hfz68_1⟩ := cz2 BK338.out) | ((with_reducible refine gate_callee (f := 23) rfl ?_); refine goesL_ (some 11) rfl rfl Tryd.func23 kr rfl #[.agg #[.slice A0_0 l0_0.length c0_0, .slice A0_1 l0_1.length c0_1]] rfl ga ?_; (with_reducible refine (lodestarref05_CheckSchema.calls k _ _ l0_0 _ _ l0_1 t340 _ ?side1 ?side2 ?side3 ?side4 A3.out).mono ?_); (case side1 => repeat (first | exact (Kd.C_below HR0_0.out HB.out) | (with_reducible refine Kd.C_alloc ?_ _) | (with_reducible refine Kd.C_drewN ?_ _) | (with_reducible refine Kd.C_drew ?_))); (case side2 => exact HC0_0.out); (case side3 => repeat (first | exact (Kd.C_below HR0_1.out HB.out) | (with_reducible refine Kd.C_alloc ?_ _) | (with_reducible refine Kd.C_drewN ?_ _) | (with_reducible refine Kd.C_drew ?_))); (case side4 => exact HC0_1.out); rintro e w69 ⟨rfl, hb⟩; refine ⟨_, rfl, ?_⟩; replace BK338 := Aside0.mk (blk_below (pk BK338.out) hb); replace BK339 := Aside0.mk (blk_below (pk BK339.out) hb); replace HB := Aside0.mk (below_step (bl HB.out) hb); (try clear hb); (try clear hb2); (try clear hk); (try clear hi); obtain ⟨hcz70_0, hcz70_1, hcz70_2, hfz70_0, hfz70_1, hfz70_2⟩ := cz3 BK339.out) | ((with_reducible refine gate_callee (f := 43) rfl ?_); refine goesL_ (some 14) rfl rfl Tryd.func43 kr rfl #[.agg #[.int .i64 a1_0, .slice A1_1 l1_1.length c1_1, .slice A1_2 l1_2.length c1_2]] rfl ga ?_; (with_reducible refine (lodestarref05_shape.calls k a1_0 _ _ l1_1 _ _ l1_2 false _ ?side1 ?side2 ?side3 ?side4 A5.out).mono ?_); (case side1 => repeat (first | exact (Kd.C_below HR1_1.out HB.out) | (with_reducible refine Kd.C_alloc ?_ _) | (with_reducible refine Kd.C_drewN ?_ _) | (with_reducible refine Kd.C_drew ?_))); (case side2 => exact HC1_1.out); (case side3 => repeat (first | exact (Kd.C_below HR1_2.out HB.out) | (with_reducible refine Kd.C_alloc ?_ _) | (with_reducible refine Kd.C_drewN ?_ _) | (with_reducible refine Kd.C_drew ?_))); (case side4 => exact HC1_2.out); rintro e w71 ⟨rfl, hb⟩; refine ⟨_, rfl, ?_⟩; replace BK338 := Aside0.mk (blk_below (pk BK338.out) hb); replace BK339 := Aside0.mk (blk_below (pk BK339.out) hb); replace HB := Aside0.mk (below_step (bl HB.out) hb); (try clear hb); (try clear hb2); (try clear hk); (try clear hi)))
   go_ret
   exact ⟨er0, bl HB.out⟩
 ·rw [if_neg c4] at H
  have c4b0 : (t340 == 0) = false := beq_eq_false_iff_ne.mpr c4
  have c4b1 : (t340 != 0) = true := bne_iff_ne.mpr c4
  obtain rfl := Option.some.inj H
  go_enter Tryd.func25, Tryd.ntmps25
  go_wp2_with (first | ((with_reducible refine gate_dst (N := 2) rfl ?_); (try (refine gate_guard (by rfl) ?_; dsimp only)); refine box_event ?hg (N := 2) ?hd (cs := #[.slice A0_0 l0_0.length c0_0, .slice A0_1 l0_1.length c0_1]) (t := 51) ?hr ?_; (case hd => rfl); (case hg => rfl); (case hr => first | (go_simp; done) | (go_simp; rfl)); intro gb338 hg w72 hbox hb; have BK338 := Aside0.mk (hbox); have GW338 := Aside0.mk (gs (w := w) hg (bl HB.out)); have GE338 := Aside0.mk (gs (w := w) hg (bl HB.out)); replace HB := Aside0.mk (below_step (bl HB.out) hb); clear hb hbox hg) | ((with_reducible refine gate_dst (N := 3) rfl ?_); (try (refine gate_guard (by rfl) ?_; dsimp only)); refine box_event ?hg (N := 3) ?hd (cs := #[.int .i64 a1_0, .slice A1_1 l1_1.length c1_1, .slice A1_2 l1_2.length c1_2]) (t := 25) ?hr ?_; (case hd => rfl); (case hg => rfl); (case hr => first | (go_simp; done) | (go_simp; rfl)); intro gb339 hg w73 hbox hb; have BK339 := Aside0.mk (hbox); have GW339 := Aside0.mk (gs (w := w) hg (bl HB.out)); have GE339 := Aside0.mk (gs (w := w) hg (bl HB.out)); replace HB := Aside0.mk (below_step (bl HB.out) hb); have NB338_339 := Aside0.mk ((gl (g := gb338) hg (pk BK338.out))); have NB339_338 := Aside0.mk ((gm (g := gb338) hg (pk BK338.out))); replace BK338 := Aside0.mk (blk_below (pk BK338.out) hb); clear hb hbox hg; have hnb74 := NB338_339.out; have hnc74 := NB339_338.out; obtain ⟨hcz75_0, hcz75_1, hfz75_0, hfz75_1⟩ := cz2 BK338.out) | ((with_reducible refine gate_callee (f := 23) rfl ?_); refine goesL_ (some 11) rfl rfl Tryd.func23 kr rfl #[.agg #[.slice A0_0 l0_0.length c0_0, .slice A0_1 l0_1.length c0_1]] rfl ga ?_; (with_reducible refine (lodestarref05_CheckSchema.calls k _ _ l0_0 _ _ l0_1 t340 _ ?side1 ?side2 ?side3 ?side4 A3.out).mono ?_); (case side1 => repeat (first | exact (Kd.C_below HR0_0.out HB.out) | (with_reducible refine Kd.C_alloc ?_ _) | (with_reducible refine Kd.C_drewN ?_ _) | (with_reducible refine Kd.C_drew ?_))); (case side2 => exact HC0_0.out); (case side3 => repeat (first | exact (Kd.C_below HR0_1.out HB.out) | (with_reducible refine Kd.C_alloc ?_ _) | (with_reducible refine Kd.C_drewN ?_ _) | (with_reducible refine Kd.C_drew ?_))); (case side4 => exact HC0_1.out); rintro e w76 ⟨rfl, hb⟩; refine ⟨_, rfl, ?_⟩; replace BK338 := Aside0.mk (blk_below (pk BK338.out) hb); replace BK339 := Aside0.mk (blk_below (pk BK339.out) hb); replace HB := Aside0.mk (below_step (bl HB.out) hb); (try clear hb); (try clear hb2); (try clear hk); (try clear hi)))
  go_ret
  exact ⟨er0, bl HB.out⟩

end Go.Proofs.YtbeljekpknpadaaDoor.PPayU
