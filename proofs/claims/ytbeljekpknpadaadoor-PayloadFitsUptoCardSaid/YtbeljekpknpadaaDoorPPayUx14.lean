-- Written by a program of this session on top of the print: some functions by hand.
import Derived.Test.YtbeljekpknpadaaDoorPPayUx0
import Derived.Test.YtbeljekpknpadaaDoorPPayUx6
import Derived.Test.YtbeljekpknpadaaDoorPPayUx10
import Derived.Test.YtbeljekpknpadaaDoorPPayUx13
namespace Go.Proofs.YtbeljekpknpadaaDoor.PPayU
open Go.RowKit Go.Proofs.YtbeljekpknpadaaDoorW.PrintWords Go.Proofs.YtbeljekpknpadaaDoorW.PrintLast Go.Proofs.YtbeljekpknpadaaDoorW.PrintMore
attribute [local go_sem] max2_int min2_int max_two min_two max_three min_three max_four min_four   -- for this text's walks alone
set_option linter.unusedVariables false
set_option linter.unusedSimpArgs false

/-! ### payload_Check: function 24 -/
mutual
def payload_Check.l0 : Nat → List (S59) → Int → Int → List (S89) → List (S93) → Int → List (S59) → List (S61) → Option (Int)
 | 0, _, _, _, _, _, _, _, _ => none
 | k + 1, x16, x17, x18, x303000, x303001, x304000, x304001, x304002 => if x18 < x17 then (if 0 ≤ x18 then (if x18 < (x16.length : Int) then ((payload_fits.f k x303000 x303001 ((rd_T59 x16 x18).f0) ((rd_T59 x16 x18).f1)).bind fun t308 => (if t308 = true then (payload_Check.l0 k x16 x17 (wrap64 (x18 + 1)) x303000 x303001 x304000 x304001 x304002) else (some 60))) else (none)) else (none)) else (payload_Check.l1 k x304002 (x304002.length : Int) 0 x303000 x303001)
def payload_Check.l1 : Nat → List (S61) → Int → Int → List (S89) → List (S93) → Option (Int)
 | 0, _, _, _, _, _ => none
 | k + 1, x28, x29, x30, x303000, x303001 => if x30 < x29 then (if 0 ≤ x30 then (if x30 < (x28.length : Int) then ((api_FieldSpec_54.f k x303001 ((rd_T61 x28 x30).f0) ((rd_T61 x28 x30).f1.f0)).bind fun t311 => (if t311 = true then ((payload_value.f ((rd_T61 x28 x30).f1.f0) ((rd_T61 x28 x30).f1.f1) ((rd_T61 x28 x30).f1.f2)).bind fun t312 => (if t312 = true then (payload_Check.l1 k x28 x29 (wrap64 (x30 + 1)) x303000 x303001) else (some 51))) else (some 51))) else (none)) else (none)) else (some 0)
end
def payload_Check.f (k : Nat) (l0_0 : List (S89)) (l0_1 : List (S93)) (a1_0 : Int) (l1_1 : List (S59)) (l1_2 : List (S61)) : Option (Int) := (payload_CheckSchema.f k l0_0 l0_1).bind fun t304 => (if t304 = 0 then ((payload_shape.f k a1_0 l1_1 l1_2).bind fun t305 => (if t305 = true then (payload_Check.l0 k l1_1 (l1_1.length : Int) 0 l0_0 l0_1 a1_0 l1_1 l1_2) else (some 120))) else (some 50))
theorem payload_Check.mono_l : ∀ k, (∀ y0 y1 y2 y3 y4 y5 y6 y7, LeO (payload_Check.l0 k y0 y1 y2 y3 y4 y5 y6 y7) (payload_Check.l0 (k + 1) y0 y1 y2 y3 y4 y5 y6 y7)) ∧ (∀ y0 y1 y2 y3 y4, LeO (payload_Check.l1 k y0 y1 y2 y3 y4) (payload_Check.l1 (k + 1) y0 y1 y2 y3 y4))
 | 0 => ⟨fun _ _ _ _ _ _ _ _ r h => by simp [payload_Check.l0] at h, fun _ _ _ _ _ r h => by simp [payload_Check.l1] at h⟩
 | k + 1 => by
  obtain ⟨ih0, ih1⟩ := payload_Check.mono_l k
  refine ⟨?_, ?_⟩
  all_goals intros
  all_goals first | unfold payload_Check.l0 | unfold payload_Check.l1
  all_goals repeat' first
   | (with_reducible exact ih0 _ _ _ _ _ _ _ _)
   | (with_reducible exact ih1 _ _ _ _ _)
   | (with_reducible exact api_FieldSpec_54.mono _ _ _ _)
   | (with_reducible exact payload_CheckSchema.mono _ _ _)
   | (with_reducible exact payload_fits.mono _ _ _ _ _)
   | (with_reducible exact payload_shape.mono _ _ _ _)
   | (with_reducible exact LeO.refl _)
   | (with_reducible exact LeO.none _)
   | (with_reducible refine LeO.ite ?_ ?_)
   | (with_reducible refine LeO.bind ?_ (fun _ => ?_))
   | exact ih0 _ _ _ _ _ _ _ _
   | exact ih1 _ _ _ _ _
   | exact api_FieldSpec_54.mono _ _ _ _
   | exact payload_CheckSchema.mono _ _ _
   | exact payload_fits.mono _ _ _ _ _
   | exact payload_shape.mono _ _ _ _
   | exact LeO.none _
   | refine LeO.ite ?_ ?_
   | refine LeO.bind ?_ (fun _ => ?_)
theorem payload_Check.mono : ∀ a0 a1 a2 a3 a4 k, LeO (payload_Check.f k a0 a1 a2 a3 a4) (payload_Check.f (k + 1) a0 a1 a2 a3 a4) := by
 intro a0 a1 a2 a3 a4 k
 obtain ⟨ih0, ih1⟩ := payload_Check.mono_l k
 unfold payload_Check.f
 repeat' first
   | (with_reducible exact ih0 _ _ _ _ _ _ _ _)
   | (with_reducible exact ih1 _ _ _ _ _)
   | (with_reducible exact api_FieldSpec_54.mono _ _ _ _)
   | (with_reducible exact payload_CheckSchema.mono _ _ _)
   | (with_reducible exact payload_fits.mono _ _ _ _ _)
   | (with_reducible exact payload_shape.mono _ _ _ _)
   | (with_reducible exact LeO.refl _)
   | (with_reducible exact LeO.none _)
   | (with_reducible refine LeO.ite ?_ ?_)
   | (with_reducible refine LeO.bind ?_ (fun _ => ?_))
   | exact ih0 _ _ _ _ _ _ _ _
   | exact ih1 _ _ _ _ _
   | exact api_FieldSpec_54.mono _ _ _ _
   | exact payload_CheckSchema.mono _ _ _
   | exact payload_fits.mono _ _ _ _ _
   | exact payload_shape.mono _ _ _ _
   | exact LeO.none _
   | refine LeO.ite ?_ ?_
   | refine LeO.bind ?_ (fun _ => ?_)
set_option maxHeartbeats 8000000 in
set_option maxRecDepth 100000 in
theorem payload_Check.calls (k : Nat) (A0_0 : Option Addr) (c0_0 : Nat) (l0_0 : List (S89)) (A0_1 : Option Addr) (c0_1 : Nat) (l0_1 : List (S93)) (a1_0 : Int) (A1_1 : Option Addr) (c1_1 : Nat) (l1_1 : List (S59)) (A1_2 : Option Addr) (c1_2 : Nat) (l1_2 : List (S61)) (r : Int) (w : World) (hr0_0 : Kd.C k89 w A0_0 l0_0.length l0_0) (hc0_0 : l0_0.length ≤ c0_0) (hr0_1 : Kd.C k93 w A0_1 l0_1.length l0_1) (hc0_1 : l0_1.length ≤ c0_1) (hr1_1 : Kd.C k59 w A1_1 l1_1.length l1_1) (hc1_1 : l1_1.length ≤ c1_1) (hr1_2 : Kd.C k61 w A1_2 l1_2.length l1_2) (hc1_2 : l1_2.length ≤ c1_2) (hU : LaidU w) (h : payload_Check.f k l0_0 l0_1 a1_0 l1_1 l1_2 = some r) :
  Calls Tryd.prog 24 #[.agg #[.slice A0_0 l0_0.length c0_0, .slice A0_1 l0_1.length c0_1], .agg #[.int .i64 a1_0, .slice A1_1 l1_1.length c1_1, .slice A1_2 l1_2.length c1_2]] w fun e w' => e = .returned (.int .i64 r) ∧ Below w.heap.size w w' := by
 have hu51 := Tryd.underlying51
 have hu25 := Tryd.underlying25
 have hu59 := Tryd.underlying59
 have hu61 := Tryd.underlying61
 have hu93 := Tryd.underlying93
 have hu33 := Tryd.underlying33
 have HU := Aside0.mk hU
 clear hU
 have HR0_0 := Aside0.mk hr0_0
 have HC0_0 := Aside0.mk hc0_0
 clear hr0_0 hc0_0
 have HR0_1 := Aside0.mk hr0_1
 have HC0_1 := Aside0.mk hc0_1
 clear hr0_1 hc0_1
 have HR1_1 := Aside0.mk hr1_1
 have HC1_1 := Aside0.mk hc1_1
 clear hr1_1 hc1_1
 have HR1_2 := Aside0.mk hr1_2
 have HC1_2 := Aside0.mk hc1_2
 clear hr1_2 hc1_2
 have HB := Aside0.mk (Below.refl w.heap.size w)
 have H : ((payload_CheckSchema.f k l0_0 l0_1).bind fun t304 => (if t304 = 0 then ((payload_shape.f k a1_0 l1_1 l1_2).bind fun t305 => (if t305 = true then (payload_Check.l0 k l1_1 (l1_1.length : Int) 0 l0_0 l0_1 a1_0 l1_1 l1_2) else (some 120))) else (some 50))) = some r := h
 clear h
 replace H := Option.bind_eq_some_iff.mp H
 obtain ⟨t304, A30, H⟩ := H
 replace H : (if t304 = 0 then ((payload_shape.f k a1_0 l1_1 l1_2).bind fun t305 => (if t305 = true then (payload_Check.l0 k l1_1 (l1_1.length : Int) 0 l0_0 l0_1 a1_0 l1_1 l1_2) else (some 120))) else (some 50)) = some r := H
 have A3 := Aside0.mk A30
 clear A30
 by_cases c4 : t304 = 0
 ·rw [if_pos c4] at H
  have c4b0 : (t304 == 0) = true := beq_iff_eq.mpr c4
  have c4b1 : (t304 != 0) = false := bne_eq_false_iff_eq.mpr c4
  clear c4
  replace H := Option.bind_eq_some_iff.mp H
  obtain ⟨t305, A50, H⟩ := H
  replace H : (if t305 = true then (payload_Check.l0 k l1_1 (l1_1.length : Int) 0 l0_0 l0_1 a1_0 l1_1 l1_2) else (some 120)) = some r := H
  have A5 := Aside0.mk A50
  clear A50
  by_cases c6 : t305 = true
  ·subst c6
   have H1 : (payload_Check.l0 k l1_1 (l1_1.length : Int) 0 l0_0 l0_1 a1_0 l1_1 l1_2) = some r := by rw [if_pos rfl] at H; exact H
   clear H
   have H := H1
   clear H1
   have H' := Aside0.mk H
   clear H
   go_enter Tryd.func24, Tryd.ntmps24
   go_wp2_with (first | ((with_reducible refine gate_dst (N := 2) rfl ?_); refine box_event ?hg (N := 2) ?hd (cs := #[.slice A0_0 l0_0.length c0_0, .slice A0_1 l0_1.length c0_1]) (t := 51) ?hr ?_; (case hd => rfl); (case hg => rfl); (case hr => first | (go_simp; done) | (go_simp; rfl)); intro gb302 hg w7 hbox hb; have BK302 := Aside0.mk (hbox); have GW302 := Aside0.mk (gs (w := w) hg (bl HB.out)); have GE302 := Aside0.mk (gs (w := w) hg (bl HB.out)); replace HB := Aside0.mk (below_step (bl HB.out) hb); clear hb hbox hg) | ((with_reducible refine gate_dst (N := 3) rfl ?_); refine box_event ?hg (N := 3) ?hd (cs := #[.int .i64 a1_0, .slice A1_1 l1_1.length c1_1, .slice A1_2 l1_2.length c1_2]) (t := 25) ?hr ?_; (case hd => rfl); (case hg => rfl); (case hr => first | (go_simp; done) | (go_simp; rfl)); intro gb303 hg w8 hbox hb; have BK303 := Aside0.mk (hbox); have GW303 := Aside0.mk (gs (w := w) hg (bl HB.out)); have GE303 := Aside0.mk (gs (w := w) hg (bl HB.out)); replace HB := Aside0.mk (below_step (bl HB.out) hb); have NB302_303 := Aside0.mk ((gl (g := gb302) hg (pk BK302.out))); have NB303_302 := Aside0.mk ((gm (g := gb302) hg (pk BK302.out))); replace BK302 := Aside0.mk (blk_below (pk BK302.out) hb); clear hb hbox hg; have hnb9 := NB302_303.out; have hnc9 := NB303_302.out; obtain ⟨hcz10_0, hcz10_1, hfz10_0, hfz10_1⟩ := cz2 BK302.out) | ((with_reducible refine gate_callee (f := 22) rfl ?_); refine goesL_ (some 10) rfl rfl Tryd.func22 kr rfl #[.agg #[.slice A0_0 l0_0.length c0_0, .slice A0_1 l0_1.length c0_1]] rfl ga ?_; (with_reducible refine (payload_CheckSchema.calls k _ _ l0_0 _ _ l0_1 t304 _ ?side1 ?side2 ?side3 ?side4 A3.out).mono ?_); (case side1 => repeat (first | exact (Kd.C_below HR0_0.out HB.out) | (with_reducible refine Kd.C_alloc ?_ _) | (with_reducible refine Kd.C_drewN ?_ _) | (with_reducible refine Kd.C_drew ?_))); (case side2 => exact HC0_0.out); (case side3 => repeat (first | exact (Kd.C_below HR0_1.out HB.out) | (with_reducible refine Kd.C_alloc ?_ _) | (with_reducible refine Kd.C_drewN ?_ _) | (with_reducible refine Kd.C_drew ?_))); (case side4 => exact HC0_1.out); rintro e w11 ⟨rfl, hb⟩; refine ⟨_, rfl, ?_⟩; replace BK302 := Aside0.mk (blk_below (pk BK302.out) hb); replace BK303 := Aside0.mk (blk_below (pk BK303.out) hb); replace HB := Aside0.mk (below_step (bl HB.out) hb); (try clear hb); (try clear hb2); (try clear hk); (try clear hi); obtain ⟨hcz12_0, hcz12_1, hcz12_2, hfz12_0, hfz12_1, hfz12_2⟩ := cz3 BK303.out) | ((with_reducible refine gate_callee (f := 52) rfl ?_); refine goesL_ (some 13) rfl rfl Tryd.func52 kr rfl #[.agg #[.int .i64 a1_0, .slice A1_1 l1_1.length c1_1, .slice A1_2 l1_2.length c1_2]] rfl ga ?_; (with_reducible refine (payload_shape.calls k a1_0 _ _ l1_1 _ _ l1_2 true _ ?side1 ?side2 ?side3 ?side4 A5.out).mono ?_); (case side1 => repeat (first | exact (Kd.C_below HR1_1.out HB.out) | (with_reducible refine Kd.C_alloc ?_ _) | (with_reducible refine Kd.C_drewN ?_ _) | (with_reducible refine Kd.C_drew ?_))); (case side2 => exact HC1_1.out); (case side3 => repeat (first | exact (Kd.C_below HR1_2.out HB.out) | (with_reducible refine Kd.C_alloc ?_ _) | (with_reducible refine Kd.C_drewN ?_ _) | (with_reducible refine Kd.C_drew ?_))); (case side4 => exact HC1_2.out); rintro e w13 ⟨rfl, hb⟩; refine ⟨_, rfl, ?_⟩; replace BK302 := Aside0.mk (blk_below (pk BK302.out) hb); replace BK303 := Aside0.mk (blk_below (pk BK303.out) hb); replace HB := Aside0.mk (below_step (bl HB.out) hb); (try clear hb); (try clear hb2); (try clear hk); (try clear hi); obtain ⟨hcz14_0, hcz14_1, hcz14_2, hfz14_0, hfz14_1, hfz14_2⟩ := cz3 BK303.out))
   go_loopg [18] k (fun kq v18 w' => ∃ (x18_1 : Int), v18 = .int .i64 x18_1 ∧ Aside0 (payload_Check.l0 kq l1_1 (l1_1.length : Int) x18_1 l0_0 l0_1 a1_0 l1_1 l1_2 = some r) ∧ Aside0 (kq ≤ k) ∧ Aside0 (w'.heap[gb302]? = some (.cells #[(.slice A0_0 l0_0.length c0_0), (.slice A0_1 l0_1.length c0_1)] 51 (0, 0))) ∧ Aside0 (w'.heap[gb303]? = some (.cells #[.int .i64 a1_0, (.slice A1_1 l1_1.length c1_1), (.slice A1_2 l1_2.length c1_2)] 25 (0, 0))) ∧ Aside0 (Below w.heap.size w w'))
   case atStart => exact ⟨(0), hsr, H', ⟨Nat.le_refl _⟩, ⟨pk BK302.out⟩, ⟨pk BK303.out⟩, ⟨bl HB.out⟩⟩
   case round =>
    clear H'
    try clear c1
    try clear c2
    try clear p2
    try clear c4
    try clear c4b0
    try clear c4b1
    try clear c5
    try clear c6
    try clear p6
    try clear c9
    try clear hcz14_0 hcz14_1 hcz14_2 hfz14_0 hfz14_1 hfz14_2
    try clear hcz12_0 hcz12_1 hcz12_2 hfz12_0 hfz12_1 hfz12_2
    try clear hcz10_0 hcz10_1 hfz10_0 hfz10_1
    obtain ⟨x18_1, rfl, HA, HK1, BK302, BK303, HB⟩ := hrel
    cases gk with
    | zero => exact absurd HA.out (by simp [payload_Check.l0])
    | succ k1 =>
     have H := HA.out
     clear HA
     simp only [payload_Check.l0] at H
     by_cases c15 : x18_1 < (l1_1.length : Int)
     ·rw [if_pos c15] at H
      have c15b0 : decide (x18_1 < (l1_1.length : Int)) = true := decide_eq_true c15
      clear c15
      by_cases c16 : 0 ≤ x18_1
      ·rw [if_pos c16] at H
       have c16b0 : decide (0 ≤ x18_1) = true := decide_eq_true c16
       clear c16
       by_cases c17 : x18_1 < (l1_1.length : Int)
       ·rw [if_pos c17] at H
        have c17b0 : decide (x18_1 < (l1_1.length : Int)) = true := decide_eq_true c17
        clear c17
        replace H := Option.bind_eq_some_iff.mp H
        obtain ⟨t308, A180, H⟩ := H
        replace H : (if t308 = true then (payload_Check.l0 k1 l1_1 (l1_1.length : Int) (wrap64 (x18_1 + 1)) l0_0 l0_1 a1_0 l1_1 l1_2) else (some 60)) = some r := H
        have A18 := Aside0.mk A180
        clear A180
        by_cases c19 : t308 = true
        ·subst c19
         have H1 : (payload_Check.l0 k1 l1_1 (l1_1.length : Int) (wrap64 (x18_1 + 1)) l0_0 l0_1 a1_0 l1_1 l1_2) = some r := by rw [if_pos rfl] at H; exact H
         clear H
         have H := H1
         clear H1
         have H' := Aside0.mk H
         clear H
         have p306 : 0 ≤ (x18_1 : Int) := of_decide_eq_true ha
         have q306 : x18_1 < (l1_1.length : Int) := of_decide_eq_true ha
         obtain ⟨ad306, A306_1, c306_1, e306, hx306_0, hx306_1, hl306_1, hi306_1⟩ := at_T59 HR1_1.out x18_1 p306 q306
         cases e306
         replace hx306_0 := (HB.out.cell (World.block_lt_of_cell? w _ hx306_0)).trans hx306_0
         replace hx306_1 := (HB.out.cell (World.block_lt_of_cell? w _ hx306_1)).trans hx306_1
         have HR306_1 := Aside0.mk hi306_1
         have HC306_1 := Aside0.mk hl306_1
         clear hi306_1 hl306_1
         replace p306 := eq_true p306
         replace q306 := eq_true q306
         go_wp2_with (first | ((with_reducible refine gate_dst (N := 6) rfl ?_); refine box_event ?hg (N := 6) ?hd (cs := #[.string (⟨#[]⟩ : ByteArray), .slice none 0 0]) (t := 59) ?hr ?_; (case hd => rfl); (case hg => rfl); (case hr => first | (go_simp; done) | (go_simp; rfl)); intro gb307 hg w20 hbox hb; have BK307 := Aside0.mk (hbox); have GW307 := Aside0.mk (gs (w := w) hg (bl HB.out)); have GE307 := Aside0.mk (gs (w := w) hg (bl HB.out)); replace HB := Aside0.mk (below_step (bl HB.out) hb); have NB302_307 := Aside0.mk ((gl (g := gb302) hg (pk BK302.out))); have NB307_302 := Aside0.mk ((gm (g := gb302) hg (pk BK302.out))); replace BK302 := Aside0.mk (blk_below (pk BK302.out) hb); have NB303_307 := Aside0.mk ((gl (g := gb303) hg (pk BK303.out))); have NB307_303 := Aside0.mk ((gm (g := gb303) hg (pk BK303.out))); replace BK303 := Aside0.mk (blk_below (pk BK303.out) hb); clear hb hbox hg; have hnb21 := NB307_302.out; have hnc21 := NB302_307.out; have hnb22 := NB307_303.out; have hnc22 := NB303_307.out; obtain ⟨hcz23_0, hcz23_1, hfz23_0, hfz23_1⟩ := cz2 BK307.out; have hnb24 := NB302_303.out; have hnc24 := NB303_302.out; obtain ⟨hcz25_0, hcz25_1, hfz25_0, hfz25_1⟩ := cz2 BK302.out) | ((with_reducible refine gate_callee (f := 53) rfl ?_); refine goesL_ (some 24) rfl rfl Tryd.func53 kr rfl #[.agg #[.slice A0_0 l0_0.length c0_0, .slice A0_1 l0_1.length c0_1], .agg #[.string ((rd_T59 l1_1 x18_1).f0), .slice A306_1 ((rd_T59 l1_1 x18_1).f1).length c306_1]] rfl ga ?_; (with_reducible refine (payload_fits.calls k1 _ _ l0_0 _ _ l0_1 ((rd_T59 l1_1 x18_1).f0) _ _ ((rd_T59 l1_1 x18_1).f1) true _ ?side1 ?side2 ?side3 ?side4 ?side5 ?side6 A18.out).mono ?_); (case side1 => exact Kd.C_below HR0_0.out (bl HB.out)); (case side2 => exact HC0_0.out); (case side3 => exact Kd.C_below HR0_1.out (bl HB.out)); (case side4 => exact HC0_1.out); (case side5 => exact Kd.C_below HR306_1.out (bl HB.out)); (case side6 => exact HC306_1.out); rintro e w26 ⟨rfl, hb⟩; refine ⟨_, rfl, ?_⟩; replace BK302 := Aside0.mk (blk_below (g := gb302) (o := .cells #[.slice A0_0 l0_0.length c0_0, .slice A0_1 l0_1.length c0_1] 51 (0, 0)) (by refine pk ?_; refine blk_far ?_ NB302_307.out _; refine pk ?_; refine blk_far ?_ NB302_307.out _; exact pk BK302.out) hb); replace BK303 := Aside0.mk (blk_below (g := gb303) (o := .cells #[.int .i64 a1_0, .slice (some ad306) l1_1.length c1_1, .slice A1_2 l1_2.length c1_2] 25 (0, 0)) (by refine pk ?_; refine blk_far ?_ NB303_307.out _; refine pk ?_; refine blk_far ?_ NB303_307.out _; exact pk BK303.out) hb); replace BK307 := Aside0.mk (blk_below (g := gb307) (o := .cells #[.string ((rd_T59 l1_1 x18_1).f0), .slice A306_1 ((rd_T59 l1_1 x18_1).f1).length c306_1] 59 (0, 0)) (by refine pk ?_; refine blk_put (cs := #[.string ((rd_T59 l1_1 x18_1).f0), .slice none 0 0]) ?_ 1 _ rfl; refine pk ?_; refine blk_put (cs := #[.string (⟨#[]⟩ : ByteArray), .slice none 0 0]) ?_ 0 _ rfl; exact pk BK307.out) hb); replace HB := Aside0.mk (below_step (bl HB.out) hb); (try clear hb); (try clear hb2); (try clear hk); (try clear hi)))
         go_roundg k1
         case measure => have := HK1.out; omega
         case rel => exact ⟨(wrap64 (x18_1 + 1)), hsr, H', ⟨by have := HK1.out; omega⟩, ⟨pk BK302.out⟩, ⟨pk BK303.out⟩, ⟨bl HB.out⟩⟩
        ·replace c19 := Bool.eq_false_iff.mpr c19
         subst c19
         have H1 : (some 60) = some r := by rw [if_neg (show ¬ (false = true) by decide)] at H; exact H
         clear H
         have H := H1
         clear H1
         obtain rfl := Option.some.inj H
         have p306 : 0 ≤ (x18_1 : Int) := of_decide_eq_true ha
         have q306 : x18_1 < (l1_1.length : Int) := of_decide_eq_true ha
         obtain ⟨ad306, A306_1, c306_1, e306, hx306_0, hx306_1, hl306_1, hi306_1⟩ := at_T59 HR1_1.out x18_1 p306 q306
         cases e306
         replace hx306_0 := (HB.out.cell (World.block_lt_of_cell? w _ hx306_0)).trans hx306_0
         replace hx306_1 := (HB.out.cell (World.block_lt_of_cell? w _ hx306_1)).trans hx306_1
         have HR306_1 := Aside0.mk hi306_1
         have HC306_1 := Aside0.mk hl306_1
         clear hi306_1 hl306_1
         replace p306 := eq_true p306
         replace q306 := eq_true q306
         go_wp2_with (first | ((with_reducible refine gate_dst (N := 6) rfl ?_); refine box_event ?hg (N := 6) ?hd (cs := #[.string (⟨#[]⟩ : ByteArray), .slice none 0 0]) (t := 59) ?hr ?_; (case hd => rfl); (case hg => rfl); (case hr => first | (go_simp; done) | (go_simp; rfl)); intro gb307 hg w27 hbox hb; have BK307 := Aside0.mk (hbox); have GW307 := Aside0.mk (gs (w := w) hg (bl HB.out)); have GE307 := Aside0.mk (gs (w := w) hg (bl HB.out)); replace HB := Aside0.mk (below_step (bl HB.out) hb); have NB302_307 := Aside0.mk ((gl (g := gb302) hg (pk BK302.out))); have NB307_302 := Aside0.mk ((gm (g := gb302) hg (pk BK302.out))); replace BK302 := Aside0.mk (blk_below (pk BK302.out) hb); have NB303_307 := Aside0.mk ((gl (g := gb303) hg (pk BK303.out))); have NB307_303 := Aside0.mk ((gm (g := gb303) hg (pk BK303.out))); replace BK303 := Aside0.mk (blk_below (pk BK303.out) hb); clear hb hbox hg; have hnb28 := NB307_302.out; have hnc28 := NB302_307.out; have hnb29 := NB307_303.out; have hnc29 := NB303_307.out; obtain ⟨hcz30_0, hcz30_1, hfz30_0, hfz30_1⟩ := cz2 BK307.out; have hnb31 := NB302_303.out; have hnc31 := NB303_302.out; obtain ⟨hcz32_0, hcz32_1, hfz32_0, hfz32_1⟩ := cz2 BK302.out) | ((with_reducible refine gate_callee (f := 53) rfl ?_); refine goesL_ (some 24) rfl rfl Tryd.func53 kr rfl #[.agg #[.slice A0_0 l0_0.length c0_0, .slice A0_1 l0_1.length c0_1], .agg #[.string ((rd_T59 l1_1 x18_1).f0), .slice A306_1 ((rd_T59 l1_1 x18_1).f1).length c306_1]] rfl ga ?_; (with_reducible refine (payload_fits.calls k1 _ _ l0_0 _ _ l0_1 ((rd_T59 l1_1 x18_1).f0) _ _ ((rd_T59 l1_1 x18_1).f1) false _ ?side1 ?side2 ?side3 ?side4 ?side5 ?side6 A18.out).mono ?_); (case side1 => exact Kd.C_below HR0_0.out (bl HB.out)); (case side2 => exact HC0_0.out); (case side3 => exact Kd.C_below HR0_1.out (bl HB.out)); (case side4 => exact HC0_1.out); (case side5 => exact Kd.C_below HR306_1.out (bl HB.out)); (case side6 => exact HC306_1.out); rintro e w33 ⟨rfl, hb⟩; refine ⟨_, rfl, ?_⟩; replace BK302 := Aside0.mk (blk_below (g := gb302) (o := .cells #[.slice A0_0 l0_0.length c0_0, .slice A0_1 l0_1.length c0_1] 51 (0, 0)) (by refine pk ?_; refine blk_far ?_ NB302_307.out _; refine pk ?_; refine blk_far ?_ NB302_307.out _; exact pk BK302.out) hb); replace BK303 := Aside0.mk (blk_below (g := gb303) (o := .cells #[.int .i64 a1_0, .slice (some ad306) l1_1.length c1_1, .slice A1_2 l1_2.length c1_2] 25 (0, 0)) (by refine pk ?_; refine blk_far ?_ NB303_307.out _; refine pk ?_; refine blk_far ?_ NB303_307.out _; exact pk BK303.out) hb); replace BK307 := Aside0.mk (blk_below (g := gb307) (o := .cells #[.string ((rd_T59 l1_1 x18_1).f0), .slice A306_1 ((rd_T59 l1_1 x18_1).f1).length c306_1] 59 (0, 0)) (by refine pk ?_; refine blk_put (cs := #[.string ((rd_T59 l1_1 x18_1).f0), .slice none 0 0]) ?_ 1 _ rfl; refine pk ?_; refine blk_put (cs := #[.string (⟨#[]⟩ : ByteArray), .slice none 0 0]) ?_ 0 _ rfl; exact pk BK307.out) hb); replace HB := Aside0.mk (below_step (bl HB.out) hb); (try clear hb); (try clear hb2); (try clear hk); (try clear hi)))
         go_ret
         exact ⟨er0, bl HB.out⟩
       ·rw [if_neg c17] at H
        exact absurd H (by simp)
      ·rw [if_neg c16] at H
       exact absurd H (by simp)
     ·rw [if_neg c15] at H
      have c15b0 : decide (x18_1 < (l1_1.length : Int)) = false := decide_eq_false c15
      clear c15
      have H' := Aside0.mk H
      clear H
      have hnb34 := NB303_302.out
      have hnc34 := NB302_303.out
      obtain ⟨hcz35_0, hcz35_1, hcz35_2, hfz35_0, hfz35_1, hfz35_2⟩ := cz3 BK303.out
      go_wp2
      go_loopg [30] k1 (fun kq v30 w' => ∃ (x30_2 : Int), v30 = .int .i64 x30_2 ∧ Aside0 (payload_Check.l1 kq l1_2 (l1_2.length : Int) x30_2 l0_0 l0_1 = some r) ∧ Aside0 (kq ≤ k1) ∧ Aside0 (w'.heap[gb302]? = some (.cells #[(.slice A0_0 l0_0.length c0_0), (.slice A0_1 l0_1.length c0_1)] 51 (0, 0))) ∧ Aside0 (w'.heap[gb303]? = some (.cells #[.int .i64 a1_0, (.slice A1_1 l1_1.length c1_1), (.slice A1_2 l1_2.length c1_2)] 25 (0, 0))) ∧ Aside0 (Below w.heap.size w w'))
      case atStart => exact ⟨(0), hsr, H', ⟨Nat.le_refl _⟩, ⟨pk BK302.out⟩, ⟨pk BK303.out⟩, ⟨bl HB.out⟩⟩
      case round =>
       clear H'
       try clear c1
       try clear c2
       try clear p2
       try clear c3
       try clear p3
       try clear q3
       try clear hx3
       try clear c4
       try clear c4b0
       try clear c4b1
       try clear c5
       try clear c6
       try clear p6
       try clear c9
       try clear c15
       try clear c15b0
       try clear c16
       try clear c16b0
       try clear c17
       try clear c17b0
       try clear c19
       try clear c21
       try clear c22
       try clear c24
       try clear c28
       try clear c29
       try clear c30
       try clear p30
       try clear q30
       try clear hx30
       try clear c31
       try clear c34
       try clear hcz35_0 hcz35_1 hcz35_2 hfz35_0 hfz35_1 hfz35_2
       try clear hcz32_0 hcz32_1 hfz32_0 hfz32_1
       try clear hcz30_0 hcz30_1 hfz30_0 hfz30_1
       try clear hcz25_0 hcz25_1 hfz25_0 hfz25_1
       try clear hcz23_0 hcz23_1 hfz23_0 hfz23_1
       try clear hcz14_0 hcz14_1 hcz14_2 hfz14_0 hfz14_1 hfz14_2
       try clear hcz12_0 hcz12_1 hcz12_2 hfz12_0 hfz12_1 hfz12_2
       try clear hcz10_0 hcz10_1 hfz10_0 hfz10_1
       try clear hx306_0
       try clear hx306_1
       try clear p2
       try clear p306
       try clear p6
       try clear q306
       obtain ⟨x30_2, rfl, HA, HK2, BK302, BK303, HB⟩ := hrel
       cases gk with
       | zero => exact absurd HA.out (by simp [payload_Check.l1])
       | succ k2 =>
        have H := HA.out
        clear HA
        simp only [payload_Check.l1] at H
        by_cases c36 : x30_2 < (l1_2.length : Int)
        ·rw [if_pos c36] at H
         have c36b0 : decide (x30_2 < (l1_2.length : Int)) = true := decide_eq_true c36
         clear c36
         by_cases c37 : 0 ≤ x30_2
         ·rw [if_pos c37] at H
          have c37b0 : decide (0 ≤ x30_2) = true := decide_eq_true c37
          clear c37
          by_cases c38 : x30_2 < (l1_2.length : Int)
          ·rw [if_pos c38] at H
           have c38b0 : decide (x30_2 < (l1_2.length : Int)) = true := decide_eq_true c38
           clear c38
           replace H := Option.bind_eq_some_iff.mp H
           obtain ⟨t311, A390, H⟩ := H
           replace H : (if t311 = true then ((payload_value.f ((rd_T61 l1_2 x30_2).f1.f0) ((rd_T61 l1_2 x30_2).f1.f1) ((rd_T61 l1_2 x30_2).f1.f2)).bind fun t312 => (if t312 = true then (payload_Check.l1 k2 l1_2 (l1_2.length : Int) (wrap64 (x30_2 + 1)) l0_0 l0_1) else (some 51))) else (some 51)) = some r := H
           have A39 := Aside0.mk A390
           clear A390
           by_cases c40 : t311 = true
           ·subst c40
            have H1 : ((payload_value.f ((rd_T61 l1_2 x30_2).f1.f0) ((rd_T61 l1_2 x30_2).f1.f1) ((rd_T61 l1_2 x30_2).f1.f2)).bind fun t312 => (if t312 = true then (payload_Check.l1 k2 l1_2 (l1_2.length : Int) (wrap64 (x30_2 + 1)) l0_0 l0_1) else (some 51))) = some r := by rw [if_pos rfl] at H; exact H
            clear H
            have H := H1
            clear H1
            replace H := Option.bind_eq_some_iff.mp H
            obtain ⟨t312, A410, H⟩ := H
            replace H : (if t312 = true then (payload_Check.l1 k2 l1_2 (l1_2.length : Int) (wrap64 (x30_2 + 1)) l0_0 l0_1) else (some 51)) = some r := H
            have A41 := Aside0.mk A410
            clear A410
            by_cases c42 : t312 = true
            ·subst c42
             have H1 : (payload_Check.l1 k2 l1_2 (l1_2.length : Int) (wrap64 (x30_2 + 1)) l0_0 l0_1) = some r := by rw [if_pos rfl] at H; exact H
             clear H
             have H := H1
             clear H1
             have H' := Aside0.mk H
             clear H
             have p309 : 0 ≤ (x30_2 : Int) := of_decide_eq_true ha
             have q309 : x30_2 < (l1_2.length : Int) := of_decide_eq_true ha
             obtain ⟨ad309, e309, hx309_0, hx309_1, hx309_2, hx309_3⟩ := at_T61 HR1_2.out x30_2 p309 q309
             cases e309
             replace hx309_0 := (HB.out.cell (World.block_lt_of_cell? w _ hx309_0)).trans hx309_0
             replace hx309_1 := (HB.out.cell (World.block_lt_of_cell? w _ hx309_1)).trans hx309_1
             replace hx309_2 := (HB.out.cell (World.block_lt_of_cell? w _ hx309_2)).trans hx309_2
             replace hx309_3 := (HB.out.cell (World.block_lt_of_cell? w _ hx309_3)).trans hx309_3
             replace p309 := eq_true p309
             replace q309 := eq_true q309
             go_wp2_with (first | ((with_reducible refine gate_dst (N := 8) rfl ?_); refine box_event ?hg (N := 8) ?hd (cs := #[.string (⟨#[]⟩ : ByteArray), .int .i64 0, .int .i64 0, .string (⟨#[]⟩ : ByteArray)]) (t := 61) ?hr ?_; (case hd => rfl); (case hg => rfl); (case hr => first | (go_simp; done) | (go_simp; rfl)); intro gb310 hg w43 hbox hb; have BK310 := Aside0.mk (hbox); have GW310 := Aside0.mk (gs (w := w) hg (bl HB.out)); have GE310 := Aside0.mk (gs (w := w) hg (bl HB.out)); replace HB := Aside0.mk (below_step (bl HB.out) hb); have NB302_310 := Aside0.mk ((gl (g := gb302) hg (pk BK302.out))); have NB310_302 := Aside0.mk ((gm (g := gb302) hg (pk BK302.out))); replace BK302 := Aside0.mk (blk_below (pk BK302.out) hb); have NB303_310 := Aside0.mk ((gl (g := gb303) hg (pk BK303.out))); have NB310_303 := Aside0.mk ((gm (g := gb303) hg (pk BK303.out))); replace BK303 := Aside0.mk (blk_below (pk BK303.out) hb); clear hb hbox hg; have hnb44 := NB310_302.out; have hnc44 := NB302_310.out; have hnb45 := NB310_303.out; have hnc45 := NB303_310.out; obtain ⟨hcz46_0, hcz46_1, hcz46_2, hcz46_3, hfz46_0, hfz46_1, hfz46_2, hfz46_3⟩ := cz4 BK310.out; have hnb47 := NB302_303.out; have hnc47 := NB303_302.out; obtain ⟨hcz48_0, hcz48_1, hfz48_0, hfz48_1⟩ := cz2 BK302.out) | ((with_reducible refine gate_callee (f := 54) rfl ?_); refine goesL_ (some 42) rfl rfl Tryd.func54 kr rfl #[.slice A0_1 l0_1.length c0_1, .agg #[.string ((rd_T61 l1_2 x30_2).f0), .int .i64 ((rd_T61 l1_2 x30_2).f1.f0)]] rfl ga ?_; (with_reducible refine (api_FieldSpec_54.calls k2 _ _ l0_1 ((rd_T61 l1_2 x30_2).f0) ((rd_T61 l1_2 x30_2).f1.f0) true _ ?side1 ?side2 A39.out).mono ?_); (case side1 => exact Kd.C_below HR0_1.out (bl HB.out)); (case side2 => exact HC0_1.out); rintro e w49 ⟨rfl, hb⟩; refine ⟨_, rfl, ?_⟩; replace BK302 := Aside0.mk (blk_below (g := gb302) (o := .cells #[.slice A0_0 l0_0.length c0_0, .slice A0_1 l0_1.length c0_1] 51 (0, 0)) (by refine pk ?_; refine blk_far ?_ NB302_310.out _; refine pk ?_; refine blk_far ?_ NB302_310.out _; refine pk ?_; refine blk_far ?_ NB302_310.out _; refine pk ?_; refine blk_far ?_ NB302_310.out _; exact pk BK302.out) hb); replace BK303 := Aside0.mk (blk_below (g := gb303) (o := .cells #[.int .i64 a1_0, .slice A1_1 l1_1.length c1_1, .slice (some ad309) l1_2.length c1_2] 25 (0, 0)) (by refine pk ?_; refine blk_far ?_ NB303_310.out _; refine pk ?_; refine blk_far ?_ NB303_310.out _; refine pk ?_; refine blk_far ?_ NB303_310.out _; refine pk ?_; refine blk_far ?_ NB303_310.out _; exact pk BK303.out) hb); replace BK310 := Aside0.mk (blk_below (g := gb310) (o := .cells #[.string ((rd_T61 l1_2 x30_2).f0), .int .i64 ((rd_T61 l1_2 x30_2).f1.f0), .int .i64 ((rd_T61 l1_2 x30_2).f1.f1), .string ((rd_T61 l1_2 x30_2).f1.f2)] 61 (0, 0)) (by refine pk ?_; refine blk_put (cs := #[.string ((rd_T61 l1_2 x30_2).f0), .int .i64 ((rd_T61 l1_2 x30_2).f1.f0), .int .i64 ((rd_T61 l1_2 x30_2).f1.f1), .string (⟨#[]⟩ : ByteArray)]) ?_ 3 _ rfl; refine pk ?_; refine blk_put (cs := #[.string ((rd_T61 l1_2 x30_2).f0), .int .i64 ((rd_T61 l1_2 x30_2).f1.f0), .int .i64 0, .string (⟨#[]⟩ : ByteArray)]) ?_ 2 _ rfl; refine pk ?_; refine blk_put (cs := #[.string ((rd_T61 l1_2 x30_2).f0), .int .i64 0, .int .i64 0, .string (⟨#[]⟩ : ByteArray)]) ?_ 1 _ rfl; refine pk ?_; refine blk_put (cs := #[.string (⟨#[]⟩ : ByteArray), .int .i64 0, .int .i64 0, .string (⟨#[]⟩ : ByteArray)]) ?_ 0 _ rfl; exact pk BK310.out) hb); replace HB := Aside0.mk (below_step (bl HB.out) hb); (try clear hb); (try clear hb2); (try clear hk); (try clear hi); obtain ⟨hcz50_0, hcz50_1, hcz50_2, hcz50_3, hfz50_0, hfz50_1, hfz50_2, hfz50_3⟩ := cz4 BK310.out) | (go_at_call 55; (with_reducible refine (payload_value.calls ((rd_T61 l1_2 x30_2).f1.f0) ((rd_T61 l1_2 x30_2).f1.f1) ((rd_T61 l1_2 x30_2).f1.f2) true _ ?side1 A41.out).mono ?_); (case side1 => exact LaidU.below HU.out (bl HB.out)); rintro e w51 ⟨rfl, hb⟩; replace BK302 := Aside0.mk (blk_below (pk BK302.out) hb); replace BK303 := Aside0.mk (blk_below (pk BK303.out) hb); replace BK310 := Aside0.mk (blk_below (pk BK310.out) hb); replace HB := Aside0.mk (below_step (bl HB.out) hb); (try clear hb); (try clear hb2); (try clear hk); (try clear hi)))
             go_roundg k2
             case measure => have := HK1.out; have := HK2.out; omega
             case rel => exact ⟨(wrap64 (x30_2 + 1)), hsr, H', ⟨by have := HK1.out; have := HK2.out; omega⟩, ⟨pk BK302.out⟩, ⟨pk BK303.out⟩, ⟨bl HB.out⟩⟩
            ·replace c42 := Bool.eq_false_iff.mpr c42
             subst c42
             have H1 : (some 51) = some r := by rw [if_neg (show ¬ (false = true) by decide)] at H; exact H
             clear H
             have H := H1
             clear H1
             obtain rfl := Option.some.inj H
             have p309 : 0 ≤ (x30_2 : Int) := of_decide_eq_true ha
             have q309 : x30_2 < (l1_2.length : Int) := of_decide_eq_true ha
             obtain ⟨ad309, e309, hx309_0, hx309_1, hx309_2, hx309_3⟩ := at_T61 HR1_2.out x30_2 p309 q309
             cases e309
             replace hx309_0 := (HB.out.cell (World.block_lt_of_cell? w _ hx309_0)).trans hx309_0
             replace hx309_1 := (HB.out.cell (World.block_lt_of_cell? w _ hx309_1)).trans hx309_1
             replace hx309_2 := (HB.out.cell (World.block_lt_of_cell? w _ hx309_2)).trans hx309_2
             replace hx309_3 := (HB.out.cell (World.block_lt_of_cell? w _ hx309_3)).trans hx309_3
             replace p309 := eq_true p309
             replace q309 := eq_true q309
             go_wp2_with (first | ((with_reducible refine gate_dst (N := 8) rfl ?_); refine box_event ?hg (N := 8) ?hd (cs := #[.string (⟨#[]⟩ : ByteArray), .int .i64 0, .int .i64 0, .string (⟨#[]⟩ : ByteArray)]) (t := 61) ?hr ?_; (case hd => rfl); (case hg => rfl); (case hr => first | (go_simp; done) | (go_simp; rfl)); intro gb310 hg w52 hbox hb; have BK310 := Aside0.mk (hbox); have GW310 := Aside0.mk (gs (w := w) hg (bl HB.out)); have GE310 := Aside0.mk (gs (w := w) hg (bl HB.out)); replace HB := Aside0.mk (below_step (bl HB.out) hb); have NB302_310 := Aside0.mk ((gl (g := gb302) hg (pk BK302.out))); have NB310_302 := Aside0.mk ((gm (g := gb302) hg (pk BK302.out))); replace BK302 := Aside0.mk (blk_below (pk BK302.out) hb); have NB303_310 := Aside0.mk ((gl (g := gb303) hg (pk BK303.out))); have NB310_303 := Aside0.mk ((gm (g := gb303) hg (pk BK303.out))); replace BK303 := Aside0.mk (blk_below (pk BK303.out) hb); clear hb hbox hg; have hnb53 := NB310_302.out; have hnc53 := NB302_310.out; have hnb54 := NB310_303.out; have hnc54 := NB303_310.out; obtain ⟨hcz55_0, hcz55_1, hcz55_2, hcz55_3, hfz55_0, hfz55_1, hfz55_2, hfz55_3⟩ := cz4 BK310.out; have hnb56 := NB302_303.out; have hnc56 := NB303_302.out; obtain ⟨hcz57_0, hcz57_1, hfz57_0, hfz57_1⟩ := cz2 BK302.out) | ((with_reducible refine gate_callee (f := 54) rfl ?_); refine goesL_ (some 42) rfl rfl Tryd.func54 kr rfl #[.slice A0_1 l0_1.length c0_1, .agg #[.string ((rd_T61 l1_2 x30_2).f0), .int .i64 ((rd_T61 l1_2 x30_2).f1.f0)]] rfl ga ?_; (with_reducible refine (api_FieldSpec_54.calls k2 _ _ l0_1 ((rd_T61 l1_2 x30_2).f0) ((rd_T61 l1_2 x30_2).f1.f0) true _ ?side1 ?side2 A39.out).mono ?_); (case side1 => exact Kd.C_below HR0_1.out (bl HB.out)); (case side2 => exact HC0_1.out); rintro e w58 ⟨rfl, hb⟩; refine ⟨_, rfl, ?_⟩; replace BK302 := Aside0.mk (blk_below (g := gb302) (o := .cells #[.slice A0_0 l0_0.length c0_0, .slice A0_1 l0_1.length c0_1] 51 (0, 0)) (by refine pk ?_; refine blk_far ?_ NB302_310.out _; refine pk ?_; refine blk_far ?_ NB302_310.out _; refine pk ?_; refine blk_far ?_ NB302_310.out _; refine pk ?_; refine blk_far ?_ NB302_310.out _; exact pk BK302.out) hb); replace BK303 := Aside0.mk (blk_below (g := gb303) (o := .cells #[.int .i64 a1_0, .slice A1_1 l1_1.length c1_1, .slice (some ad309) l1_2.length c1_2] 25 (0, 0)) (by refine pk ?_; refine blk_far ?_ NB303_310.out _; refine pk ?_; refine blk_far ?_ NB303_310.out _; refine pk ?_; refine blk_far ?_ NB303_310.out _; refine pk ?_; refine blk_far ?_ NB303_310.out _; exact pk BK303.out) hb); replace BK310 := Aside0.mk (blk_below (g := gb310) (o := .cells #[.string ((rd_T61 l1_2 x30_2).f0), .int .i64 ((rd_T61 l1_2 x30_2).f1.f0), .int .i64 ((rd_T61 l1_2 x30_2).f1.f1), .string ((rd_T61 l1_2 x30_2).f1.f2)] 61 (0, 0)) (by refine pk ?_; refine blk_put (cs := #[.string ((rd_T61 l1_2 x30_2).f0), .int .i64 ((rd_T61 l1_2 x30_2).f1.f0), .int .i64 ((rd_T61 l1_2 x30_2).f1.f1), .string (⟨#[]⟩ : ByteArray)]) ?_ 3 _ rfl; refine pk ?_; refine blk_put (cs := #[.string ((rd_T61 l1_2 x30_2).f0), .int .i64 ((rd_T61 l1_2 x30_2).f1.f0), .int .i64 0, .string (⟨#[]⟩ : ByteArray)]) ?_ 2 _ rfl; refine pk ?_; refine blk_put (cs := #[.string ((rd_T61 l1_2 x30_2).f0), .int .i64 0, .int .i64 0, .string (⟨#[]⟩ : ByteArray)]) ?_ 1 _ rfl; refine pk ?_; refine blk_put (cs := #[.string (⟨#[]⟩ : ByteArray), .int .i64 0, .int .i64 0, .string (⟨#[]⟩ : ByteArray)]) ?_ 0 _ rfl; exact pk BK310.out) hb); replace HB := Aside0.mk (below_step (bl HB.out) hb); (try clear hb); (try clear hb2); (try clear hk); (try clear hi); obtain ⟨hcz59_0, hcz59_1, hcz59_2, hcz59_3, hfz59_0, hfz59_1, hfz59_2, hfz59_3⟩ := cz4 BK310.out) | (go_at_call 55; (with_reducible refine (payload_value.calls ((rd_T61 l1_2 x30_2).f1.f0) ((rd_T61 l1_2 x30_2).f1.f1) ((rd_T61 l1_2 x30_2).f1.f2) false _ ?side1 A41.out).mono ?_); (case side1 => exact LaidU.below HU.out (bl HB.out)); rintro e w60 ⟨rfl, hb⟩; replace BK302 := Aside0.mk (blk_below (pk BK302.out) hb); replace BK303 := Aside0.mk (blk_below (pk BK303.out) hb); replace BK310 := Aside0.mk (blk_below (pk BK310.out) hb); replace HB := Aside0.mk (below_step (bl HB.out) hb); (try clear hb); (try clear hb2); (try clear hk); (try clear hi)))
             go_ret
             exact ⟨er0, bl HB.out⟩
           ·replace c40 := Bool.eq_false_iff.mpr c40
            subst c40
            have H1 : (some 51) = some r := by rw [if_neg (show ¬ (false = true) by decide)] at H; exact H
            clear H
            have H := H1
            clear H1
            obtain rfl := Option.some.inj H
            have p309 : 0 ≤ (x30_2 : Int) := of_decide_eq_true ha
            have q309 : x30_2 < (l1_2.length : Int) := of_decide_eq_true ha
            obtain ⟨ad309, e309, hx309_0, hx309_1, hx309_2, hx309_3⟩ := at_T61 HR1_2.out x30_2 p309 q309
            cases e309
            replace hx309_0 := (HB.out.cell (World.block_lt_of_cell? w _ hx309_0)).trans hx309_0
            replace hx309_1 := (HB.out.cell (World.block_lt_of_cell? w _ hx309_1)).trans hx309_1
            replace hx309_2 := (HB.out.cell (World.block_lt_of_cell? w _ hx309_2)).trans hx309_2
            replace hx309_3 := (HB.out.cell (World.block_lt_of_cell? w _ hx309_3)).trans hx309_3
            replace p309 := eq_true p309
            replace q309 := eq_true q309
            go_wp2_with (first | ((with_reducible refine gate_dst (N := 8) rfl ?_); refine box_event ?hg (N := 8) ?hd (cs := #[.string (⟨#[]⟩ : ByteArray), .int .i64 0, .int .i64 0, .string (⟨#[]⟩ : ByteArray)]) (t := 61) ?hr ?_; (case hd => rfl); (case hg => rfl); (case hr => first | (go_simp; done) | (go_simp; rfl)); intro gb310 hg w61 hbox hb; have BK310 := Aside0.mk (hbox); have GW310 := Aside0.mk (gs (w := w) hg (bl HB.out)); have GE310 := Aside0.mk (gs (w := w) hg (bl HB.out)); replace HB := Aside0.mk (below_step (bl HB.out) hb); have NB302_310 := Aside0.mk ((gl (g := gb302) hg (pk BK302.out))); have NB310_302 := Aside0.mk ((gm (g := gb302) hg (pk BK302.out))); replace BK302 := Aside0.mk (blk_below (pk BK302.out) hb); have NB303_310 := Aside0.mk ((gl (g := gb303) hg (pk BK303.out))); have NB310_303 := Aside0.mk ((gm (g := gb303) hg (pk BK303.out))); replace BK303 := Aside0.mk (blk_below (pk BK303.out) hb); clear hb hbox hg; have hnb62 := NB310_302.out; have hnc62 := NB302_310.out; have hnb63 := NB310_303.out; have hnc63 := NB303_310.out; obtain ⟨hcz64_0, hcz64_1, hcz64_2, hcz64_3, hfz64_0, hfz64_1, hfz64_2, hfz64_3⟩ := cz4 BK310.out; have hnb65 := NB302_303.out; have hnc65 := NB303_302.out; obtain ⟨hcz66_0, hcz66_1, hfz66_0, hfz66_1⟩ := cz2 BK302.out) | ((with_reducible refine gate_callee (f := 54) rfl ?_); refine goesL_ (some 42) rfl rfl Tryd.func54 kr rfl #[.slice A0_1 l0_1.length c0_1, .agg #[.string ((rd_T61 l1_2 x30_2).f0), .int .i64 ((rd_T61 l1_2 x30_2).f1.f0)]] rfl ga ?_; (with_reducible refine (api_FieldSpec_54.calls k2 _ _ l0_1 ((rd_T61 l1_2 x30_2).f0) ((rd_T61 l1_2 x30_2).f1.f0) false _ ?side1 ?side2 A39.out).mono ?_); (case side1 => exact Kd.C_below HR0_1.out (bl HB.out)); (case side2 => exact HC0_1.out); rintro e w67 ⟨rfl, hb⟩; refine ⟨_, rfl, ?_⟩; replace BK302 := Aside0.mk (blk_below (g := gb302) (o := .cells #[.slice A0_0 l0_0.length c0_0, .slice A0_1 l0_1.length c0_1] 51 (0, 0)) (by refine pk ?_; refine blk_far ?_ NB302_310.out _; refine pk ?_; refine blk_far ?_ NB302_310.out _; refine pk ?_; refine blk_far ?_ NB302_310.out _; refine pk ?_; refine blk_far ?_ NB302_310.out _; exact pk BK302.out) hb); replace BK303 := Aside0.mk (blk_below (g := gb303) (o := .cells #[.int .i64 a1_0, .slice A1_1 l1_1.length c1_1, .slice (some ad309) l1_2.length c1_2] 25 (0, 0)) (by refine pk ?_; refine blk_far ?_ NB303_310.out _; refine pk ?_; refine blk_far ?_ NB303_310.out _; refine pk ?_; refine blk_far ?_ NB303_310.out _; refine pk ?_; refine blk_far ?_ NB303_310.out _; exact pk BK303.out) hb); replace BK310 := Aside0.mk (blk_below (g := gb310) (o := .cells #[.string ((rd_T61 l1_2 x30_2).f0), .int .i64 ((rd_T61 l1_2 x30_2).f1.f0), .int .i64 ((rd_T61 l1_2 x30_2).f1.f1), .string ((rd_T61 l1_2 x30_2).f1.f2)] 61 (0, 0)) (by refine pk ?_; refine blk_put (cs := #[.string ((rd_T61 l1_2 x30_2).f0), .int .i64 ((rd_T61 l1_2 x30_2).f1.f0), .int .i64 ((rd_T61 l1_2 x30_2).f1.f1), .string (⟨#[]⟩ : ByteArray)]) ?_ 3 _ rfl; refine pk ?_; refine blk_put (cs := #[.string ((rd_T61 l1_2 x30_2).f0), .int .i64 ((rd_T61 l1_2 x30_2).f1.f0), .int .i64 0, .string (⟨#[]⟩ : ByteArray)]) ?_ 2 _ rfl; refine pk ?_; refine blk_put (cs := #[.string ((rd_T61 l1_2 x30_2).f0), .int .i64 0, .int .i64 0, .string (⟨#[]⟩ : ByteArray)]) ?_ 1 _ rfl; refine pk ?_; refine blk_put (cs := #[.string (⟨#[]⟩ : ByteArray), .int .i64 0, .int .i64 0, .string (⟨#[]⟩ : ByteArray)]) ?_ 0 _ rfl; exact pk BK310.out) hb); replace HB := Aside0.mk (below_step (bl HB.out) hb); (try clear hb); (try clear hb2); (try clear hk); (try clear hi)))
            go_ret
            exact ⟨er0, bl HB.out⟩
          ·rw [if_neg c38] at H
           exact absurd H (by simp)
         ·rw [if_neg c37] at H
          exact absurd H (by simp)
        ·rw [if_neg c36] at H
         have c36b0 : decide (x30_2 < (l1_2.length : Int)) = false := decide_eq_false c36
         clear c36
         obtain rfl := Option.some.inj H
         go_wp2
         go_ret
         exact ⟨er0, bl HB.out⟩
  ·replace c6 := Bool.eq_false_iff.mpr c6
   subst c6
   have H1 : (some 120) = some r := by rw [if_neg (show ¬ (false = true) by decide)] at H; exact H
   clear H
   have H := H1
   clear H1
   obtain rfl := Option.some.inj H
   go_enter Tryd.func24, Tryd.ntmps24
   go_wp2_with (first | ((with_reducible refine gate_dst (N := 2) rfl ?_); refine box_event ?hg (N := 2) ?hd (cs := #[.slice A0_0 l0_0.length c0_0, .slice A0_1 l0_1.length c0_1]) (t := 51) ?hr ?_; (case hd => rfl); (case hg => rfl); (case hr => first | (go_simp; done) | (go_simp; rfl)); intro gb302 hg w68 hbox hb; have BK302 := Aside0.mk (hbox); have GW302 := Aside0.mk (gs (w := w) hg (bl HB.out)); have GE302 := Aside0.mk (gs (w := w) hg (bl HB.out)); replace HB := Aside0.mk (below_step (bl HB.out) hb); clear hb hbox hg) | ((with_reducible refine gate_dst (N := 3) rfl ?_); refine box_event ?hg (N := 3) ?hd (cs := #[.int .i64 a1_0, .slice A1_1 l1_1.length c1_1, .slice A1_2 l1_2.length c1_2]) (t := 25) ?hr ?_; (case hd => rfl); (case hg => rfl); (case hr => first | (go_simp; done) | (go_simp; rfl)); intro gb303 hg w69 hbox hb; have BK303 := Aside0.mk (hbox); have GW303 := Aside0.mk (gs (w := w) hg (bl HB.out)); have GE303 := Aside0.mk (gs (w := w) hg (bl HB.out)); replace HB := Aside0.mk (below_step (bl HB.out) hb); have NB302_303 := Aside0.mk ((gl (g := gb302) hg (pk BK302.out))); have NB303_302 := Aside0.mk ((gm (g := gb302) hg (pk BK302.out))); replace BK302 := Aside0.mk (blk_below (pk BK302.out) hb); clear hb hbox hg; have hnb70 := NB302_303.out; have hnc70 := NB303_302.out; obtain ⟨hcz71_0, hcz71_1, hfz71_0, hfz71_1⟩ := cz2 BK302.out) | ((with_reducible refine gate_callee (f := 22) rfl ?_); refine goesL_ (some 10) rfl rfl Tryd.func22 kr rfl #[.agg #[.slice A0_0 l0_0.length c0_0, .slice A0_1 l0_1.length c0_1]] rfl ga ?_; (with_reducible refine (payload_CheckSchema.calls k _ _ l0_0 _ _ l0_1 t304 _ ?side1 ?side2 ?side3 ?side4 A3.out).mono ?_); (case side1 => repeat (first | exact (Kd.C_below HR0_0.out HB.out) | (with_reducible refine Kd.C_alloc ?_ _) | (with_reducible refine Kd.C_drewN ?_ _) | (with_reducible refine Kd.C_drew ?_))); (case side2 => exact HC0_0.out); (case side3 => repeat (first | exact (Kd.C_below HR0_1.out HB.out) | (with_reducible refine Kd.C_alloc ?_ _) | (with_reducible refine Kd.C_drewN ?_ _) | (with_reducible refine Kd.C_drew ?_))); (case side4 => exact HC0_1.out); rintro e w72 ⟨rfl, hb⟩; refine ⟨_, rfl, ?_⟩; replace BK302 := Aside0.mk (blk_below (pk BK302.out) hb); replace BK303 := Aside0.mk (blk_below (pk BK303.out) hb); replace HB := Aside0.mk (below_step (bl HB.out) hb); (try clear hb); (try clear hb2); (try clear hk); (try clear hi); obtain ⟨hcz73_0, hcz73_1, hcz73_2, hfz73_0, hfz73_1, hfz73_2⟩ := cz3 BK303.out) | ((with_reducible refine gate_callee (f := 52) rfl ?_); refine goesL_ (some 13) rfl rfl Tryd.func52 kr rfl #[.agg #[.int .i64 a1_0, .slice A1_1 l1_1.length c1_1, .slice A1_2 l1_2.length c1_2]] rfl ga ?_; (with_reducible refine (payload_shape.calls k a1_0 _ _ l1_1 _ _ l1_2 false _ ?side1 ?side2 ?side3 ?side4 A5.out).mono ?_); (case side1 => repeat (first | exact (Kd.C_below HR1_1.out HB.out) | (with_reducible refine Kd.C_alloc ?_ _) | (with_reducible refine Kd.C_drewN ?_ _) | (with_reducible refine Kd.C_drew ?_))); (case side2 => exact HC1_1.out); (case side3 => repeat (first | exact (Kd.C_below HR1_2.out HB.out) | (with_reducible refine Kd.C_alloc ?_ _) | (with_reducible refine Kd.C_drewN ?_ _) | (with_reducible refine Kd.C_drew ?_))); (case side4 => exact HC1_2.out); rintro e w74 ⟨rfl, hb⟩; refine ⟨_, rfl, ?_⟩; replace BK302 := Aside0.mk (blk_below (pk BK302.out) hb); replace BK303 := Aside0.mk (blk_below (pk BK303.out) hb); replace HB := Aside0.mk (below_step (bl HB.out) hb); (try clear hb); (try clear hb2); (try clear hk); (try clear hi)))
   go_ret
   exact ⟨er0, bl HB.out⟩
 ·rw [if_neg c4] at H
  have c4b0 : (t304 == 0) = false := beq_eq_false_iff_ne.mpr c4
  have c4b1 : (t304 != 0) = true := bne_iff_ne.mpr c4
  obtain rfl := Option.some.inj H
  go_enter Tryd.func24, Tryd.ntmps24
  go_wp2_with (first | ((with_reducible refine gate_dst (N := 2) rfl ?_); refine box_event ?hg (N := 2) ?hd (cs := #[.slice A0_0 l0_0.length c0_0, .slice A0_1 l0_1.length c0_1]) (t := 51) ?hr ?_; (case hd => rfl); (case hg => rfl); (case hr => first | (go_simp; done) | (go_simp; rfl)); intro gb302 hg w75 hbox hb; have BK302 := Aside0.mk (hbox); have GW302 := Aside0.mk (gs (w := w) hg (bl HB.out)); have GE302 := Aside0.mk (gs (w := w) hg (bl HB.out)); replace HB := Aside0.mk (below_step (bl HB.out) hb); clear hb hbox hg) | ((with_reducible refine gate_dst (N := 3) rfl ?_); refine box_event ?hg (N := 3) ?hd (cs := #[.int .i64 a1_0, .slice A1_1 l1_1.length c1_1, .slice A1_2 l1_2.length c1_2]) (t := 25) ?hr ?_; (case hd => rfl); (case hg => rfl); (case hr => first | (go_simp; done) | (go_simp; rfl)); intro gb303 hg w76 hbox hb; have BK303 := Aside0.mk (hbox); have GW303 := Aside0.mk (gs (w := w) hg (bl HB.out)); have GE303 := Aside0.mk (gs (w := w) hg (bl HB.out)); replace HB := Aside0.mk (below_step (bl HB.out) hb); have NB302_303 := Aside0.mk ((gl (g := gb302) hg (pk BK302.out))); have NB303_302 := Aside0.mk ((gm (g := gb302) hg (pk BK302.out))); replace BK302 := Aside0.mk (blk_below (pk BK302.out) hb); clear hb hbox hg; have hnb77 := NB302_303.out; have hnc77 := NB303_302.out; obtain ⟨hcz78_0, hcz78_1, hfz78_0, hfz78_1⟩ := cz2 BK302.out) | ((with_reducible refine gate_callee (f := 22) rfl ?_); refine goesL_ (some 10) rfl rfl Tryd.func22 kr rfl #[.agg #[.slice A0_0 l0_0.length c0_0, .slice A0_1 l0_1.length c0_1]] rfl ga ?_; (with_reducible refine (payload_CheckSchema.calls k _ _ l0_0 _ _ l0_1 t304 _ ?side1 ?side2 ?side3 ?side4 A3.out).mono ?_); (case side1 => repeat (first | exact (Kd.C_below HR0_0.out HB.out) | (with_reducible refine Kd.C_alloc ?_ _) | (with_reducible refine Kd.C_drewN ?_ _) | (with_reducible refine Kd.C_drew ?_))); (case side2 => exact HC0_0.out); (case side3 => repeat (first | exact (Kd.C_below HR0_1.out HB.out) | (with_reducible refine Kd.C_alloc ?_ _) | (with_reducible refine Kd.C_drewN ?_ _) | (with_reducible refine Kd.C_drew ?_))); (case side4 => exact HC0_1.out); rintro e w79 ⟨rfl, hb⟩; refine ⟨_, rfl, ?_⟩; replace BK302 := Aside0.mk (blk_below (pk BK302.out) hb); replace BK303 := Aside0.mk (blk_below (pk BK303.out) hb); replace HB := Aside0.mk (below_step (bl HB.out) hb); (try clear hb); (try clear hb2); (try clear hk); (try clear hi)))
  go_ret
  exact ⟨er0, bl HB.out⟩

end Go.Proofs.YtbeljekpknpadaaDoor.PPayU
