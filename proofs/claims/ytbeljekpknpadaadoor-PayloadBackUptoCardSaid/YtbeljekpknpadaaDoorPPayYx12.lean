-- Written by a program of this session on top of the print: some functions by hand.
import Derived.Test.YtbeljekpknpadaaDoorPPayYx0
import Derived.Test.YtbeljekpknpadaaDoorPPayYx2
import Derived.Test.YtbeljekpknpadaaDoorPPayYx4
import Derived.Test.YtbeljekpknpadaaDoorPPayYx6
import Derived.Test.YtbeljekpknpadaaDoorPPayYx7
import Derived.Test.YtbeljekpknpadaaDoorPPayYx8
import Derived.Test.YtbeljekpknpadaaDoorPPayYx10
import Derived.Test.YtbeljekpknpadaaDoorPPayYx11
namespace Go.Proofs.YtbeljekpknpadaaDoor.PPayY
open Go.RowKit Go.Proofs.YtbeljekpknpadaaDoorW.PrintWords Go.Proofs.YtbeljekpknpadaaDoorW.PrintLast Go.Proofs.YtbeljekpknpadaaDoorW.PrintMore
attribute [local go_sem] max2_int min2_int max_two min_two max_three min_three max_four min_four   -- for this text's walks alone
set_option linter.unusedVariables false
set_option linter.unusedSimpArgs false

/-! ### lodestarref05_May: function 21 -/
mutual
def lodestarref05_May.l0 : Nat → Int → Int → List (S59) → List (S61) → Option (Bool)
 | 0, _, _, _, _ => none
 | k + 1, x3, x326000, x326001, x326002 => if x3 < (x326001.length : Int) then (if 0 ≤ x3 then (if (((rd_T59 x326001 x3).f1).length : Int) < 1 then (some false) else (if (((rd_T59 x326001 x3).f1).length : Int) > 64 then (some false) else ((lodestarref05_Range.f k ((rd_T59 x326001 x3).f1)).bind fun t328 => (if t328 = true then (lodestarref05_May.l0 k (wrap64 (x3 + 1)) x326000 x326001 x326002) else (some false))))) else (none)) else (lodestarref05_May.l1 k 0 x326000 x326001 x326002)
def lodestarref05_May.l1 : Nat → Int → Int → List (S59) → List (S61) → Option (Bool)
 | 0, _, _, _, _ => none
 | k + 1, x5, x326000, x326001, x326002 => if x5 < (x326002.length : Int) then (if 0 ≤ x5 then ((lodestarref05_Value.f k ((rd_T61 x326002 x5).f1.f0) ((rd_T61 x326002 x5).f1.f1) ((rd_T61 x326002 x5).f1.f2)).bind fun t330 => (if t330 = true then (lodestarref05_May.l1 k (wrap64 (x5 + 1)) x326000 x326001 x326002) else (some false))) else (none)) else (some true)
end
def lodestarref05_May.f (k : Nat) (a0_0 : Int) (l0_1 : List (S59)) (l0_2 : List (S61)) : Option (Bool) := (lodestarref05_shape.f k a0_0 l0_1 l0_2).bind fun t326 => (if t326 = true then (lodestarref05_May.l0 k 0 a0_0 l0_1 l0_2) else (some false))
theorem lodestarref05_May.mono_l : ∀ k, (∀ y0 y1 y2 y3, LeO (lodestarref05_May.l0 k y0 y1 y2 y3) (lodestarref05_May.l0 (k + 1) y0 y1 y2 y3)) ∧ (∀ y0 y1 y2 y3, LeO (lodestarref05_May.l1 k y0 y1 y2 y3) (lodestarref05_May.l1 (k + 1) y0 y1 y2 y3))
 | 0 => ⟨fun _ _ _ _ r h => by simp [lodestarref05_May.l0] at h, fun _ _ _ _ r h => by simp [lodestarref05_May.l1] at h⟩
 | k + 1 => by
  obtain ⟨ih0, ih1⟩ := lodestarref05_May.mono_l k
  refine ⟨?_, ?_⟩
  all_goals intros
  all_goals first | unfold lodestarref05_May.l0 | unfold lodestarref05_May.l1
  all_goals repeat' first
   | (with_reducible exact ih0 _ _ _ _)
   | (with_reducible exact ih1 _ _ _ _)
   | (with_reducible exact lodestarref05_Range.mono _ _)
   | (with_reducible exact lodestarref05_Value.mono _ _ _ _)
   | (with_reducible exact lodestarref05_shape.mono _ _ _ _)
   | (with_reducible exact LeO.refl _)
   | (with_reducible exact LeO.none _)
   | (with_reducible refine LeO.ite ?_ ?_)
   | (with_reducible refine LeO.bind ?_ (fun _ => ?_))
   | exact ih0 _ _ _ _
   | exact ih1 _ _ _ _
   | exact lodestarref05_Range.mono _ _
   | exact lodestarref05_Value.mono _ _ _ _
   | exact lodestarref05_shape.mono _ _ _ _
   | exact LeO.none _
   | refine LeO.ite ?_ ?_
   | refine LeO.bind ?_ (fun _ => ?_)
theorem lodestarref05_May.mono : ∀ a0 a1 a2 k, LeO (lodestarref05_May.f k a0 a1 a2) (lodestarref05_May.f (k + 1) a0 a1 a2) := by
 intro a0 a1 a2 k
 obtain ⟨ih0, ih1⟩ := lodestarref05_May.mono_l k
 unfold lodestarref05_May.f
 repeat' first
   | (with_reducible exact ih0 _ _ _ _)
   | (with_reducible exact ih1 _ _ _ _)
   | (with_reducible exact lodestarref05_Range.mono _ _)
   | (with_reducible exact lodestarref05_Value.mono _ _ _ _)
   | (with_reducible exact lodestarref05_shape.mono _ _ _ _)
   | (with_reducible exact LeO.refl _)
   | (with_reducible exact LeO.none _)
   | (with_reducible refine LeO.ite ?_ ?_)
   | (with_reducible refine LeO.bind ?_ (fun _ => ?_))
   | exact ih0 _ _ _ _
   | exact ih1 _ _ _ _
   | exact lodestarref05_Range.mono _ _
   | exact lodestarref05_Value.mono _ _ _ _
   | exact lodestarref05_shape.mono _ _ _ _
   | exact LeO.none _
   | refine LeO.ite ?_ ?_
   | refine LeO.bind ?_ (fun _ => ?_)
set_option maxHeartbeats 8000000 in
set_option maxRecDepth 100000 in
theorem lodestarref05_May.calls (k : Nat) (a0_0 : Int) (A0_1 : Option Addr) (c0_1 : Nat) (l0_1 : List (S59)) (A0_2 : Option Addr) (c0_2 : Nat) (l0_2 : List (S61)) (r : Bool) (w : World) (hr0_1 : Kd.C k59 w A0_1 l0_1.length l0_1) (hc0_1 : l0_1.length ≤ c0_1) (hr0_2 : Kd.C k61 w A0_2 l0_2.length l0_2) (hc0_2 : l0_2.length ≤ c0_2) (h : lodestarref05_May.f k a0_0 l0_1 l0_2 = some r) :
  Calls Tryd.prog 21 #[.agg #[.int .i64 a0_0, .slice A0_1 l0_1.length c0_1, .slice A0_2 l0_2.length c0_2]] w fun e w' => e = .returned (.bool r) ∧ Below w.heap.size w w' := by
 have hu25 := Tryd.underlying25
 have hu33 := Tryd.underlying33
 have HR0_1 := Aside0.mk hr0_1
 have HC0_1 := Aside0.mk hc0_1
 clear hr0_1 hc0_1
 have HR0_2 := Aside0.mk hr0_2
 have HC0_2 := Aside0.mk hc0_2
 clear hr0_2 hc0_2
 have HB := Aside0.mk (Below.refl w.heap.size w)
 have H : ((lodestarref05_shape.f k a0_0 l0_1 l0_2).bind fun t326 => (if t326 = true then (lodestarref05_May.l0 k 0 a0_0 l0_1 l0_2) else (some false))) = some r := h
 clear h
 replace H := Option.bind_eq_some_iff.mp H
 obtain ⟨t326, A20, H⟩ := H
 replace H : (if t326 = true then (lodestarref05_May.l0 k 0 a0_0 l0_1 l0_2) else (some false)) = some r := H
 have A2 := Aside0.mk A20
 clear A20
 by_cases c3 : t326 = true
 ·subst c3
  have H1 : (lodestarref05_May.l0 k 0 a0_0 l0_1 l0_2) = some r := by rw [if_pos rfl] at H; exact H
  clear H
  have H := H1
  clear H1
  have H' := Aside0.mk H
  clear H
  go_enter Tryd.func21, Tryd.ntmps21
  go_wp2_with (first | ((with_reducible refine gate_dst (N := 1) rfl ?_); (try (refine gate_guard (by rfl) ?_; dsimp only)); refine box_event ?hg (N := 1) ?hd (cs := #[.int .i64 a0_0, .slice A0_1 l0_1.length c0_1, .slice A0_2 l0_2.length c0_2]) (t := 25) ?hr ?_; (case hd => rfl); (case hg => rfl); (case hr => first | (go_simp; done) | (go_simp; rfl)); intro gb325 hg w4 hbox hb; have BK325 := Aside0.mk (hbox); have GW325 := Aside0.mk (gs (w := w) hg (bl HB.out)); have GE325 := Aside0.mk (gs (w := w) hg (bl HB.out)); replace HB := Aside0.mk (below_step (bl HB.out) hb); clear hb hbox hg; obtain ⟨hcz5_0, hcz5_1, hcz5_2, hfz5_0, hfz5_1, hfz5_2⟩ := cz3 BK325.out) | ((with_reducible refine gate_callee (f := 43) rfl ?_); refine goesL_ (some 7) rfl rfl Tryd.func43 kr rfl #[.agg #[.int .i64 a0_0, .slice A0_1 l0_1.length c0_1, .slice A0_2 l0_2.length c0_2]] rfl ga ?_; (with_reducible refine (lodestarref05_shape.calls k a0_0 _ _ l0_1 _ _ l0_2 true _ ?side1 ?side2 ?side3 ?side4 A2.out).mono ?_); (case side1 => repeat (first | exact (Kd.C_below HR0_1.out HB.out) | (with_reducible refine Kd.C_alloc ?_ _) | (with_reducible refine Kd.C_drewN ?_ _) | (with_reducible refine Kd.C_drew ?_))); (case side2 => exact HC0_1.out); (case side3 => repeat (first | exact (Kd.C_below HR0_2.out HB.out) | (with_reducible refine Kd.C_alloc ?_ _) | (with_reducible refine Kd.C_drewN ?_ _) | (with_reducible refine Kd.C_drew ?_))); (case side4 => exact HC0_2.out); rintro e w6 ⟨rfl, hb⟩; refine ⟨_, rfl, ?_⟩; replace BK325 := Aside0.mk (blk_below (pk BK325.out) hb); replace HB := Aside0.mk (below_step (bl HB.out) hb); (try clear hb); (try clear hb2); (try clear hk); (try clear hi)))
  go_loopg [3] k (fun kq v3 w' => ∃ (x3_1 : Int), v3 = .int .i64 x3_1 ∧ Aside0 (lodestarref05_May.l0 kq x3_1 a0_0 l0_1 l0_2 = some r) ∧ Aside0 (kq ≤ k) ∧ Aside0 (w'.heap[gb325]? = some (.cells #[.int .i64 a0_0, (.slice A0_1 l0_1.length c0_1), (.slice A0_2 l0_2.length c0_2)] 25 (0, 0))) ∧ Aside0 (Below w.heap.size w w'))
  case atStart => exact ⟨(0), hsr, H', ⟨Nat.le_refl _⟩, ⟨pk BK325.out⟩, ⟨bl HB.out⟩⟩
  case round =>
   clear H'
   try clear c2
   try clear p2
   try clear c3
   try clear c4
   try clear p6
   try clear hcz5_0 hcz5_1 hcz5_2 hfz5_0 hfz5_1 hfz5_2
   obtain ⟨x3_1, rfl, HA, HK1, BK325, HB⟩ := hrel
   cases gk with
   | zero => exact absurd HA.out (by simp [lodestarref05_May.l0])
   | succ k1 =>
    have H := HA.out
    clear HA
    simp only [lodestarref05_May.l0] at H
    by_cases c7 : x3_1 < (l0_1.length : Int)
    ·rw [if_pos c7] at H
     have c7b0 : decide (x3_1 < (l0_1.length : Int)) = true := decide_eq_true c7
     clear c7
     by_cases c8 : 0 ≤ x3_1
     ·rw [if_pos c8] at H
      have c8b0 : decide (0 ≤ x3_1) = true := decide_eq_true c8
      clear c8
      by_cases c9 : (((rd_T59 l0_1 x3_1).f1).length : Int) < 1
      ·rw [if_pos c9] at H
       have c9b0 : decide ((((rd_T59 l0_1 x3_1).f1).length : Int) < 1) = true := decide_eq_true c9
       have c9b1 : decide (((rd_T59 l0_1 x3_1).f1).length < 1) = true := decide_eq_true (by omega)
       clear c9
       obtain rfl := Option.some.inj H
       obtain ⟨hcz10_0, hcz10_1, hcz10_2, hfz10_0, hfz10_1, hfz10_2⟩ := cz3 BK325.out
       have p327 : 0 ≤ (x3_1 : Int) := of_decide_eq_true ha
       have q327 : x3_1 < (l0_1.length : Int) := of_decide_eq_true ha
       obtain ⟨ad327, A327_1, c327_1, e327, hx327_0, hx327_1, hl327_1, hi327_1⟩ := at_T59 HR0_1.out x3_1 p327 q327
       cases e327
       replace hx327_0 := (HB.out.cell (World.block_lt_of_cell? w _ hx327_0)).trans hx327_0
       replace hx327_1 := (HB.out.cell (World.block_lt_of_cell? w _ hx327_1)).trans hx327_1
       have HR327_1 := Aside0.mk hi327_1
       have HC327_1 := Aside0.mk hl327_1
       clear hi327_1 hl327_1
       replace p327 := eq_true p327
       replace q327 := eq_true q327
       go_wp2
       go_ret
       exact ⟨er0, bl HB.out⟩
      ·rw [if_neg c9] at H
       have c9b0 : decide ((((rd_T59 l0_1 x3_1).f1).length : Int) < 1) = false := decide_eq_false c9
       have c9b1 : decide (((rd_T59 l0_1 x3_1).f1).length < 1) = false := decide_eq_false (by omega)
       clear c9
       by_cases c11 : (((rd_T59 l0_1 x3_1).f1).length : Int) > 64
       ·rw [if_pos c11] at H
        have c11b0 : decide (64 < (((rd_T59 l0_1 x3_1).f1).length : Int)) = true := decide_eq_true c11
        have c11b1 : decide (64 < ((rd_T59 l0_1 x3_1).f1).length) = true := decide_eq_true (by omega)
        clear c11
        obtain rfl := Option.some.inj H
        obtain ⟨hcz12_0, hcz12_1, hcz12_2, hfz12_0, hfz12_1, hfz12_2⟩ := cz3 BK325.out
        have p327 : 0 ≤ (x3_1 : Int) := of_decide_eq_true ha
        have q327 : x3_1 < (l0_1.length : Int) := of_decide_eq_true ha
        obtain ⟨ad327, A327_1, c327_1, e327, hx327_0, hx327_1, hl327_1, hi327_1⟩ := at_T59 HR0_1.out x3_1 p327 q327
        cases e327
        replace hx327_0 := (HB.out.cell (World.block_lt_of_cell? w _ hx327_0)).trans hx327_0
        replace hx327_1 := (HB.out.cell (World.block_lt_of_cell? w _ hx327_1)).trans hx327_1
        have HR327_1 := Aside0.mk hi327_1
        have HC327_1 := Aside0.mk hl327_1
        clear hi327_1 hl327_1
        replace p327 := eq_true p327
        replace q327 := eq_true q327
        go_wp2
        go_ret
        exact ⟨er0, bl HB.out⟩
       ·rw [if_neg c11] at H
        have c11b0 : decide (64 < (((rd_T59 l0_1 x3_1).f1).length : Int)) = false := decide_eq_false c11
        have c11b1 : decide (64 < ((rd_T59 l0_1 x3_1).f1).length) = false := decide_eq_false (by omega)
        clear c11
        replace H := Option.bind_eq_some_iff.mp H
        obtain ⟨t328, A130, H⟩ := H
        replace H : (if t328 = true then (lodestarref05_May.l0 k1 (wrap64 (x3_1 + 1)) a0_0 l0_1 l0_2) else (some false)) = some r := H
        have A13 := Aside0.mk A130
        clear A130
        by_cases c14 : t328 = true
        ·subst c14
         have H1 : (lodestarref05_May.l0 k1 (wrap64 (x3_1 + 1)) a0_0 l0_1 l0_2) = some r := by rw [if_pos rfl] at H; exact H
         clear H
         have H := H1
         clear H1
         have H' := Aside0.mk H
         clear H
         obtain ⟨hcz15_0, hcz15_1, hcz15_2, hfz15_0, hfz15_1, hfz15_2⟩ := cz3 BK325.out
         have p327 : 0 ≤ (x3_1 : Int) := of_decide_eq_true ha
         have q327 : x3_1 < (l0_1.length : Int) := of_decide_eq_true ha
         obtain ⟨ad327, A327_1, c327_1, e327, hx327_0, hx327_1, hl327_1, hi327_1⟩ := at_T59 HR0_1.out x3_1 p327 q327
         cases e327
         replace hx327_0 := (HB.out.cell (World.block_lt_of_cell? w _ hx327_0)).trans hx327_0
         replace hx327_1 := (HB.out.cell (World.block_lt_of_cell? w _ hx327_1)).trans hx327_1
         have HR327_1 := Aside0.mk hi327_1
         have HC327_1 := Aside0.mk hl327_1
         clear hi327_1 hl327_1
         replace p327 := eq_true p327
         replace q327 := eq_true q327
         go_wp2_with (first | (go_at_call 44; (with_reducible refine (lodestarref05_Range.calls k1 _ _ ((rd_T59 l0_1 x3_1).f1) true _ ?side1 ?side2 A13.out).mono ?_); (case side1 => repeat (first | exact (Kd.C_below HR327_1.out HB.out) | (with_reducible refine Kd.C_alloc ?_ _) | (with_reducible refine Kd.C_drewN ?_ _) | (with_reducible refine Kd.C_drew ?_))); (case side2 => exact HC327_1.out); rintro e w' ⟨rfl, ⟨nd, rfl⟩⟩))
         go_roundg k1
         case measure => have := HK1.out; omega
         case rel => exact ⟨(wrap64 (x3_1 + 1)), hsr, H', ⟨by have := HK1.out; omega⟩, ⟨pk BK325.out⟩, ⟨bl HB.out⟩⟩
        ·replace c14 := Bool.eq_false_iff.mpr c14
         subst c14
         have H1 : (some false) = some r := by rw [if_neg (show ¬ (false = true) by decide)] at H; exact H
         clear H
         have H := H1
         clear H1
         obtain rfl := Option.some.inj H
         obtain ⟨hcz16_0, hcz16_1, hcz16_2, hfz16_0, hfz16_1, hfz16_2⟩ := cz3 BK325.out
         have p327 : 0 ≤ (x3_1 : Int) := of_decide_eq_true ha
         have q327 : x3_1 < (l0_1.length : Int) := of_decide_eq_true ha
         obtain ⟨ad327, A327_1, c327_1, e327, hx327_0, hx327_1, hl327_1, hi327_1⟩ := at_T59 HR0_1.out x3_1 p327 q327
         cases e327
         replace hx327_0 := (HB.out.cell (World.block_lt_of_cell? w _ hx327_0)).trans hx327_0
         replace hx327_1 := (HB.out.cell (World.block_lt_of_cell? w _ hx327_1)).trans hx327_1
         have HR327_1 := Aside0.mk hi327_1
         have HC327_1 := Aside0.mk hl327_1
         clear hi327_1 hl327_1
         replace p327 := eq_true p327
         replace q327 := eq_true q327
         go_wp2_with (first | (go_at_call 44; (with_reducible refine (lodestarref05_Range.calls k1 _ _ ((rd_T59 l0_1 x3_1).f1) false _ ?side1 ?side2 A13.out).mono ?_); (case side1 => repeat (first | exact (Kd.C_below HR327_1.out HB.out) | (with_reducible refine Kd.C_alloc ?_ _) | (with_reducible refine Kd.C_drewN ?_ _) | (with_reducible refine Kd.C_drew ?_))); (case side2 => exact HC327_1.out); rintro e w' ⟨rfl, ⟨nd, rfl⟩⟩))
         go_ret
         exact ⟨er0, bl HB.out⟩
     ·rw [if_neg c8] at H
      exact absurd H (by simp)
    ·rw [if_neg c7] at H
     have c7b0 : decide (x3_1 < (l0_1.length : Int)) = false := decide_eq_false c7
     clear c7
     have H' := Aside0.mk H
     clear H
     obtain ⟨hcz17_0, hcz17_1, hcz17_2, hfz17_0, hfz17_1, hfz17_2⟩ := cz3 BK325.out
     go_wp2
     go_loopg [5] k1 (fun kq v5 w' => ∃ (x5_2 : Int), v5 = .int .i64 x5_2 ∧ Aside0 (lodestarref05_May.l1 kq x5_2 a0_0 l0_1 l0_2 = some r) ∧ Aside0 (kq ≤ k1) ∧ Aside0 (w'.heap[gb325]? = some (.cells #[.int .i64 a0_0, (.slice A0_1 l0_1.length c0_1), (.slice A0_2 l0_2.length c0_2)] 25 (0, 0))) ∧ Aside0 (Below w.heap.size w w'))
     case atStart => exact ⟨(0), hsr, H', ⟨Nat.le_refl _⟩, ⟨pk BK325.out⟩, ⟨bl HB.out⟩⟩
     case round =>
      clear H'
      try clear c1
      try clear c2
      try clear p2
      try clear c3
      try clear p3
      try clear q3
      try clear hx3
      try clear c4
      try clear p6
      try clear c7
      try clear c7b0
      try clear c8
      try clear c8b0
      try clear c9
      try clear c9b0
      try clear c9b1
      try clear c11
      try clear c11b0
      try clear c11b1
      try clear c14
      try clear hcz17_0 hcz17_1 hcz17_2 hfz17_0 hfz17_1 hfz17_2
      try clear hcz16_0 hcz16_1 hcz16_2 hfz16_0 hfz16_1 hfz16_2
      try clear hcz15_0 hcz15_1 hcz15_2 hfz15_0 hfz15_1 hfz15_2
      try clear hcz12_0 hcz12_1 hcz12_2 hfz12_0 hfz12_1 hfz12_2
      try clear hcz10_0 hcz10_1 hcz10_2 hfz10_0 hfz10_1 hfz10_2
      try clear hcz5_0 hcz5_1 hcz5_2 hfz5_0 hfz5_1 hfz5_2
      try clear hx327_0
      try clear hx327_1
      try clear p2
      try clear p327
      try clear p6
      try clear q327
      obtain ⟨x5_2, rfl, HA, HK2, BK325, HB⟩ := hrel
      cases gk with
      | zero => exact absurd HA.out (by simp [lodestarref05_May.l1])
      | succ k2 =>
       have H := HA.out
       clear HA
       simp only [lodestarref05_May.l1] at H
       by_cases c18 : x5_2 < (l0_2.length : Int)
       ·rw [if_pos c18] at H
        have c18b0 : decide (x5_2 < (l0_2.length : Int)) = true := decide_eq_true c18
        clear c18
        by_cases c19 : 0 ≤ x5_2
        ·rw [if_pos c19] at H
         have c19b0 : decide (0 ≤ x5_2) = true := decide_eq_true c19
         clear c19
         replace H := Option.bind_eq_some_iff.mp H
         obtain ⟨t330, A200, H⟩ := H
         replace H : (if t330 = true then (lodestarref05_May.l1 k2 (wrap64 (x5_2 + 1)) a0_0 l0_1 l0_2) else (some false)) = some r := H
         have A20 := Aside0.mk A200
         clear A200
         by_cases c21 : t330 = true
         ·subst c21
          have H1 : (lodestarref05_May.l1 k2 (wrap64 (x5_2 + 1)) a0_0 l0_1 l0_2) = some r := by rw [if_pos rfl] at H; exact H
          clear H
          have H := H1
          clear H1
          have H' := Aside0.mk H
          clear H
          obtain ⟨hcz22_0, hcz22_1, hcz22_2, hfz22_0, hfz22_1, hfz22_2⟩ := cz3 BK325.out
          have p329 : 0 ≤ (x5_2 : Int) := of_decide_eq_true ha
          have q329 : x5_2 < (l0_2.length : Int) := of_decide_eq_true ha
          obtain ⟨ad329, e329, hx329_0, hx329_1, hx329_2, hx329_3⟩ := at_T61 HR0_2.out x5_2 p329 q329
          cases e329
          replace hx329_0 := (HB.out.cell (World.block_lt_of_cell? w _ hx329_0)).trans hx329_0
          replace hx329_1 := (HB.out.cell (World.block_lt_of_cell? w _ hx329_1)).trans hx329_1
          replace hx329_2 := (HB.out.cell (World.block_lt_of_cell? w _ hx329_2)).trans hx329_2
          replace hx329_3 := (HB.out.cell (World.block_lt_of_cell? w _ hx329_3)).trans hx329_3
          replace p329 := eq_true p329
          replace q329 := eq_true q329
          go_wp2_with (first | ((with_reducible refine gate_callee (f := 45) rfl ?_); refine goesL_ (some 48) rfl rfl Tryd.func45 kr rfl #[.agg #[.int .i64 ((rd_T61 l0_2 x5_2).f1.f0), .int .i64 ((rd_T61 l0_2 x5_2).f1.f1), .string ((rd_T61 l0_2 x5_2).f1.f2)]] rfl ga ?_; (with_reducible refine (lodestarref05_Value.calls k2 ((rd_T61 l0_2 x5_2).f1.f0) ((rd_T61 l0_2 x5_2).f1.f1) ((rd_T61 l0_2 x5_2).f1.f2) true _ A20.out).mono ?_); rintro e w23 ⟨rfl, hb⟩; refine ⟨_, rfl, ?_⟩; replace BK325 := Aside0.mk (blk_below (pk BK325.out) hb); replace HB := Aside0.mk (below_step (bl HB.out) hb); (try clear hb); (try clear hb2); (try clear hk); (try clear hi)))
          go_roundg k2
          case measure => have := HK1.out; have := HK2.out; omega
          case rel => exact ⟨(wrap64 (x5_2 + 1)), hsr, H', ⟨by have := HK1.out; have := HK2.out; omega⟩, ⟨pk BK325.out⟩, ⟨bl HB.out⟩⟩
         ·replace c21 := Bool.eq_false_iff.mpr c21
          subst c21
          have H1 : (some false) = some r := by rw [if_neg (show ¬ (false = true) by decide)] at H; exact H
          clear H
          have H := H1
          clear H1
          obtain rfl := Option.some.inj H
          obtain ⟨hcz24_0, hcz24_1, hcz24_2, hfz24_0, hfz24_1, hfz24_2⟩ := cz3 BK325.out
          have p329 : 0 ≤ (x5_2 : Int) := of_decide_eq_true ha
          have q329 : x5_2 < (l0_2.length : Int) := of_decide_eq_true ha
          obtain ⟨ad329, e329, hx329_0, hx329_1, hx329_2, hx329_3⟩ := at_T61 HR0_2.out x5_2 p329 q329
          cases e329
          replace hx329_0 := (HB.out.cell (World.block_lt_of_cell? w _ hx329_0)).trans hx329_0
          replace hx329_1 := (HB.out.cell (World.block_lt_of_cell? w _ hx329_1)).trans hx329_1
          replace hx329_2 := (HB.out.cell (World.block_lt_of_cell? w _ hx329_2)).trans hx329_2
          replace hx329_3 := (HB.out.cell (World.block_lt_of_cell? w _ hx329_3)).trans hx329_3
          replace p329 := eq_true p329
          replace q329 := eq_true q329
          go_wp2_with (first | ((with_reducible refine gate_callee (f := 45) rfl ?_); refine goesL_ (some 48) rfl rfl Tryd.func45 kr rfl #[.agg #[.int .i64 ((rd_T61 l0_2 x5_2).f1.f0), .int .i64 ((rd_T61 l0_2 x5_2).f1.f1), .string ((rd_T61 l0_2 x5_2).f1.f2)]] rfl ga ?_; (with_reducible refine (lodestarref05_Value.calls k2 ((rd_T61 l0_2 x5_2).f1.f0) ((rd_T61 l0_2 x5_2).f1.f1) ((rd_T61 l0_2 x5_2).f1.f2) false _ A20.out).mono ?_); rintro e w25 ⟨rfl, hb⟩; refine ⟨_, rfl, ?_⟩; replace BK325 := Aside0.mk (blk_below (pk BK325.out) hb); replace HB := Aside0.mk (below_step (bl HB.out) hb); (try clear hb); (try clear hb2); (try clear hk); (try clear hi)))
          go_ret
          exact ⟨er0, bl HB.out⟩
        ·rw [if_neg c19] at H
         exact absurd H (by simp)
       ·rw [if_neg c18] at H
        have c18b0 : decide (x5_2 < (l0_2.length : Int)) = false := decide_eq_false c18
        clear c18
        obtain rfl := Option.some.inj H
        obtain ⟨hcz26_0, hcz26_1, hcz26_2, hfz26_0, hfz26_1, hfz26_2⟩ := cz3 BK325.out
        go_wp2
        go_ret
        exact ⟨er0, bl HB.out⟩
 ·replace c3 := Bool.eq_false_iff.mpr c3
  subst c3
  have H1 : (some false) = some r := by rw [if_neg (show ¬ (false = true) by decide)] at H; exact H
  clear H
  have H := H1
  clear H1
  obtain rfl := Option.some.inj H
  go_enter Tryd.func21, Tryd.ntmps21
  go_wp2_with (first | ((with_reducible refine gate_dst (N := 1) rfl ?_); (try (refine gate_guard (by rfl) ?_; dsimp only)); refine box_event ?hg (N := 1) ?hd (cs := #[.int .i64 a0_0, .slice A0_1 l0_1.length c0_1, .slice A0_2 l0_2.length c0_2]) (t := 25) ?hr ?_; (case hd => rfl); (case hg => rfl); (case hr => first | (go_simp; done) | (go_simp; rfl)); intro gb325 hg w27 hbox hb; have BK325 := Aside0.mk (hbox); have GW325 := Aside0.mk (gs (w := w) hg (bl HB.out)); have GE325 := Aside0.mk (gs (w := w) hg (bl HB.out)); replace HB := Aside0.mk (below_step (bl HB.out) hb); clear hb hbox hg; obtain ⟨hcz28_0, hcz28_1, hcz28_2, hfz28_0, hfz28_1, hfz28_2⟩ := cz3 BK325.out) | ((with_reducible refine gate_callee (f := 43) rfl ?_); refine goesL_ (some 7) rfl rfl Tryd.func43 kr rfl #[.agg #[.int .i64 a0_0, .slice A0_1 l0_1.length c0_1, .slice A0_2 l0_2.length c0_2]] rfl ga ?_; (with_reducible refine (lodestarref05_shape.calls k a0_0 _ _ l0_1 _ _ l0_2 false _ ?side1 ?side2 ?side3 ?side4 A2.out).mono ?_); (case side1 => repeat (first | exact (Kd.C_below HR0_1.out HB.out) | (with_reducible refine Kd.C_alloc ?_ _) | (with_reducible refine Kd.C_drewN ?_ _) | (with_reducible refine Kd.C_drew ?_))); (case side2 => exact HC0_1.out); (case side3 => repeat (first | exact (Kd.C_below HR0_2.out HB.out) | (with_reducible refine Kd.C_alloc ?_ _) | (with_reducible refine Kd.C_drewN ?_ _) | (with_reducible refine Kd.C_drew ?_))); (case side4 => exact HC0_2.out); rintro e w29 ⟨rfl, hb⟩; refine ⟨_, rfl, ?_⟩; replace BK325 := Aside0.mk (blk_below (pk BK325.out) hb); replace HB := Aside0.mk (below_step (bl HB.out) hb); (try clear hb); (try clear hb2); (try clear hk); (try clear hi)))
  go_ret
  exact ⟨er0, bl HB.out⟩

/-! ### lodestarlaw05_PayloadBack: function 6 -/
def lodestarlaw05_PayloadBack.f (k : Nat) (a0_0 : Int) (l0_1 : List (S59)) (l0_2 : List (S61)) (a1 : ByteArray) (a2 : Int) : Option (Bool) := (payload_Encode.f k a0_0 l0_1 l0_2).bind fun bt332 => (if bt332.2 = 0 then (if bt332.1.toList = ([] : List UInt8) then (some false) else (if bt332.1.size + a1.size ≤ 9223372036854775807 then ((payload_Decode.f k (bt332.1 ++ a1)).bind fun bt336 => (if (bt332.1.size : Int) = 0 then (none) else (if 0 ≤ (Int.tmod (wrap64 ((Int.tmod a2 (bt332.1.size : Int)) + (bt332.1.size : Int))) (bt332.1.size : Int)) then (if (Int.tmod (wrap64 ((Int.tmod a2 (bt332.1.size : Int)) + (bt332.1.size : Int))) (bt332.1.size : Int)) ≤ (bt332.1.size : Int) then ((payload_Decode.f k (bt332.1.extract 0 ((Int.tmod (wrap64 ((Int.tmod a2 (bt332.1.size : Int)) + (bt332.1.size : Int))) (bt332.1.size : Int)) : Int).toNat)).bind fun bt346 => ((lodestarref05_Same.f k bt336.1 bt336.2.1 bt336.2.2.1 a0_0 l0_1 l0_2).bind fun t356 => (if t356 = true then (if bt336.2.2.2.1 = (bt332.1.size : Int) then (if bt336.2.2.2.2 = 0 then ((lodestarref05_Same.f k bt346.1 bt346.2.1 bt346.2.2.1 0 ([] : List (S59)) ([] : List (S61))).bind fun t357 => (if t357 = true then (if bt346.2.2.2.1 = 0 then (if bt346.2.2.2.2 = 52 then ((lodestarlaw05_awake.f k).bind fun t358 => (some t358)) else (some false)) else (some false)) else (some false))) else (some false)) else (some false)) else (some false)))) else (none)) else (none)))) else (none))) else (if bt332.1.toList = ([] : List UInt8) then ((lodestarref05_May.f k a0_0 l0_1 l0_2).bind fun t334 => (if t334 = true then (some false) else ((lodestarlaw05_awake.f k).bind fun t335 => (some t335)))) else (some false)))
theorem lodestarlaw05_PayloadBack.mono : ∀ a0 a1 a2 a3 a4 k, LeO (lodestarlaw05_PayloadBack.f k a0 a1 a2 a3 a4) (lodestarlaw05_PayloadBack.f (k + 1) a0 a1 a2 a3 a4) := by
 intro a0 a1 a2 a3 a4 k
 unfold lodestarlaw05_PayloadBack.f
 repeat' first
   | (with_reducible exact lodestarlaw05_awake.mono _)
   | (with_reducible exact lodestarref05_May.mono _ _ _ _)
   | (with_reducible exact lodestarref05_Same.mono _ _ _ _ _ _ _)
   | (with_reducible exact payload_Decode.mono _ _)
   | (with_reducible exact payload_Encode.mono _ _ _ _)
   | (with_reducible exact LeO.refl _)
   | (with_reducible exact LeO.none _)
   | (with_reducible refine LeO.ite ?_ ?_)
   | (with_reducible refine LeO.bind ?_ (fun _ => ?_))
   | exact lodestarlaw05_awake.mono _
   | exact lodestarref05_May.mono _ _ _ _
   | exact lodestarref05_Same.mono _ _ _ _ _ _ _
   | exact payload_Decode.mono _ _
   | exact payload_Encode.mono _ _ _ _
   | exact LeO.none _
   | refine LeO.ite ?_ ?_
   | refine LeO.bind ?_ (fun _ => ?_)
set_option maxHeartbeats 8000000 in
set_option maxRecDepth 100000 in
theorem lodestarlaw05_PayloadBack.calls (k : Nat) (a0_0 : Int) (A0_1 : Option Addr) (c0_1 : Nat) (l0_1 : List (S59)) (A0_2 : Option Addr) (c0_2 : Nat) (l0_2 : List (S61)) (a1 : ByteArray) (a2 : Int) (w : World) (hr0_1 : Kd.C k59 w A0_1 l0_1.length l0_1) (hc0_1 : l0_1.length ≤ c0_1) (hr0_2 : Kd.C k61 w A0_2 l0_2.length l0_2) (hc0_2 : l0_2.length ≤ c0_2) (hU : LaidU w) (h : lodestarlaw05_PayloadBack.f k a0_0 l0_1 l0_2 a1 a2 = some true) :
  Calls Tryd.prog 6 #[.agg #[.int .i64 a0_0, .slice A0_1 l0_1.length c0_1, .slice A0_2 l0_2.length c0_2], .string a1, .int .i64 a2] w fun e w' => e = .returned (.bool true) ∧ Below w.heap.size w w' := by
 have hu25 := Tryd.underlying25
 have HU := Aside0.mk hU
 clear hU
 have HR0_1 := Aside0.mk hr0_1
 have HC0_1 := Aside0.mk hc0_1
 clear hr0_1 hc0_1
 have HR0_2 := Aside0.mk hr0_2
 have HC0_2 := Aside0.mk hc0_2
 clear hr0_2 hc0_2
 have HB := Aside0.mk (Below.refl w.heap.size w)
 have H : ((payload_Encode.f k a0_0 l0_1 l0_2).bind fun bt332 => (if bt332.2 = 0 then (if bt332.1.toList = ([] : List UInt8) then (some false) else (if bt332.1.size + a1.size ≤ 9223372036854775807 then ((payload_Decode.f k (bt332.1 ++ a1)).bind fun bt336 => (if (bt332.1.size : Int) = 0 then (none) else (if 0 ≤ (Int.tmod (wrap64 ((Int.tmod a2 (bt332.1.size : Int)) + (bt332.1.size : Int))) (bt332.1.size : Int)) then (if (Int.tmod (wrap64 ((Int.tmod a2 (bt332.1.size : Int)) + (bt332.1.size : Int))) (bt332.1.size : Int)) ≤ (bt332.1.size : Int) then ((payload_Decode.f k (bt332.1.extract 0 ((Int.tmod (wrap64 ((Int.tmod a2 (bt332.1.size : Int)) + (bt332.1.size : Int))) (bt332.1.size : Int)) : Int).toNat)).bind fun bt346 => ((lodestarref05_Same.f k bt336.1 bt336.2.1 bt336.2.2.1 a0_0 l0_1 l0_2).bind fun t356 => (if t356 = true then (if bt336.2.2.2.1 = (bt332.1.size : Int) then (if bt336.2.2.2.2 = 0 then ((lodestarref05_Same.f k bt346.1 bt346.2.1 bt346.2.2.1 0 ([] : List (S59)) ([] : List (S61))).bind fun t357 => (if t357 = true then (if bt346.2.2.2.1 = 0 then (if bt346.2.2.2.2 = 52 then ((lodestarlaw05_awake.f k).bind fun t358 => (some t358)) else (some false)) else (some false)) else (some false))) else (some false)) else (some false)) else (some false)))) else (none)) else (none)))) else (none))) else (if bt332.1.toList = ([] : List UInt8) then ((lodestarref05_May.f k a0_0 l0_1 l0_2).bind fun t334 => (if t334 = true then (some false) else ((lodestarlaw05_awake.f k).bind fun t335 => (some t335)))) else (some false)))) = some true := h
 clear h
 replace H := Option.bind_eq_some_iff.mp H
 obtain ⟨⟨t332, t333⟩, A40, H⟩ := H
 replace H : (if t333 = 0 then (if t332.toList = ([] : List UInt8) then (some false) else (if t332.size + a1.size ≤ 9223372036854775807 then ((payload_Decode.f k (t332 ++ a1)).bind fun bt336 => (if (t332.size : Int) = 0 then (none) else (if 0 ≤ (Int.tmod (wrap64 ((Int.tmod a2 (t332.size : Int)) + (t332.size : Int))) (t332.size : Int)) then (if (Int.tmod (wrap64 ((Int.tmod a2 (t332.size : Int)) + (t332.size : Int))) (t332.size : Int)) ≤ (t332.size : Int) then ((payload_Decode.f k (t332.extract 0 ((Int.tmod (wrap64 ((Int.tmod a2 (t332.size : Int)) + (t332.size : Int))) (t332.size : Int)) : Int).toNat)).bind fun bt346 => ((lodestarref05_Same.f k bt336.1 bt336.2.1 bt336.2.2.1 a0_0 l0_1 l0_2).bind fun t356 => (if t356 = true then (if bt336.2.2.2.1 = (t332.size : Int) then (if bt336.2.2.2.2 = 0 then ((lodestarref05_Same.f k bt346.1 bt346.2.1 bt346.2.2.1 0 ([] : List (S59)) ([] : List (S61))).bind fun t357 => (if t357 = true then (if bt346.2.2.2.1 = 0 then (if bt346.2.2.2.2 = 52 then ((lodestarlaw05_awake.f k).bind fun t358 => (some t358)) else (some false)) else (some false)) else (some false))) else (some false)) else (some false)) else (some false)))) else (none)) else (none)))) else (none))) else (if t332.toList = ([] : List UInt8) then ((lodestarref05_May.f k a0_0 l0_1 l0_2).bind fun t334 => (if t334 = true then (some false) else ((lodestarlaw05_awake.f k).bind fun t335 => (some t335)))) else (some false))) = some true := H
 have A4 := Aside0.mk A40
 clear A40
 by_cases c5 : t333 = 0
 ·rw [if_pos c5] at H
  have c5b0 : (t333 == 0) = true := beq_iff_eq.mpr c5
  have c5b1 : (t333 != 0) = false := bne_eq_false_iff_eq.mpr c5
  clear c5
  by_cases c6 : t332.toList = ([] : List UInt8)
  ·rw [if_pos c6] at H
   have c6b0 : (t332.toList == ([] : List UInt8)) = true := beq_iff_eq.mpr c6
   have c6b1 : (t332.toList != ([] : List UInt8)) = false := bne_eq_false_iff_eq.mpr c6
   clear c6
   exact absurd (Option.some.inj H) (by simp)
  ·rw [if_neg c6] at H
   have c6b0 : (t332.toList == ([] : List UInt8)) = false := beq_eq_false_iff_ne.mpr c6
   have c6b1 : (t332.toList != ([] : List UInt8)) = true := bne_iff_ne.mpr c6
   by_cases c7 : t332.size + a1.size ≤ 9223372036854775807
   ·rw [if_pos c7] at H
    have c7b0 := eq_true c7
    have c7b1 : decide (t332.size + a1.size ≤ 9223372036854775807) = true := decide_eq_true c7
    try have c7b2 : (9223372036854775807 < t332.size + a1.size) = False := eq_false (Nat.not_lt.2 c7)
    replace H := Option.bind_eq_some_iff.mp H
    obtain ⟨⟨t336, t337, t340, t343, t344⟩, A80, H⟩ := H
    replace H : (if (t332.size : Int) = 0 then (none) else (if 0 ≤ (Int.tmod (wrap64 ((Int.tmod a2 (t332.size : Int)) + (t332.size : Int))) (t332.size : Int)) then (if (Int.tmod (wrap64 ((Int.tmod a2 (t332.size : Int)) + (t332.size : Int))) (t332.size : Int)) ≤ (t332.size : Int) then ((payload_Decode.f k (t332.extract 0 ((Int.tmod (wrap64 ((Int.tmod a2 (t332.size : Int)) + (t332.size : Int))) (t332.size : Int)) : Int).toNat)).bind fun bt346 => ((lodestarref05_Same.f k t336 t337 t340 a0_0 l0_1 l0_2).bind fun t356 => (if t356 = true then (if t343 = (t332.size : Int) then (if t344 = 0 then ((lodestarref05_Same.f k bt346.1 bt346.2.1 bt346.2.2.1 0 ([] : List (S59)) ([] : List (S61))).bind fun t357 => (if t357 = true then (if bt346.2.2.2.1 = 0 then (if bt346.2.2.2.2 = 52 then ((lodestarlaw05_awake.f k).bind fun t358 => (some t358)) else (some false)) else (some false)) else (some false))) else (some false)) else (some false)) else (some false)))) else (none)) else (none))) = some true := H
    have A8 := Aside0.mk A80
    clear A80
    by_cases c9 : (t332.size : Int) = 0
    ·rw [if_pos c9] at H
     exact absurd H (by simp)
    ·rw [if_neg c9] at H
     have c9b0 : ((t332.size : Int) == 0) = false := beq_eq_false_iff_ne.mpr c9
     have c9b1 : ((t332.size : Int) != 0) = true := bne_iff_ne.mpr c9
     obtain ⟨ji10, hji10⟩ : ∃ j_ : Int, (Int.tmod (wrap64 ((Int.tmod a2 (t332.size : Int)) + (t332.size : Int))) (t332.size : Int)) = j_ := ⟨_, rfl⟩
     replace H : (if 0 ≤ (ji10) then (if (ji10) ≤ (t332.size : Int) then ((payload_Decode.f k (t332.extract 0 ((ji10) : Int).toNat)).bind fun bt346 => ((lodestarref05_Same.f k t336 t337 t340 a0_0 l0_1 l0_2).bind fun t356 => (if t356 = true then (if t343 = (t332.size : Int) then (if t344 = 0 then ((lodestarref05_Same.f k bt346.1 bt346.2.1 bt346.2.2.1 0 ([] : List (S59)) ([] : List (S61))).bind fun t357 => (if t357 = true then (if bt346.2.2.2.1 = 0 then (if bt346.2.2.2.2 = 52 then ((lodestarlaw05_awake.f k).bind fun t358 => (some t358)) else (some false)) else (some false)) else (some false))) else (some false)) else (some false)) else (some false)))) else (none)) else (none)) = some true := by first | (rw [hji10] at H; exact H) | (simp only [hji10] at H ⊢; exact H)
     (try rw [hji10] at A4)
     (try rw [hji10] at A8)
     by_cases c11 : 0 ≤ (ji10)
     ·rw [if_pos c11] at H
      have c11b0 := eq_true c11
      have c11b1 : decide (0 ≤ (ji10)) = true := decide_eq_true c11
      clear c11
      by_cases c12 : (ji10) ≤ (t332.size : Int)
      ·rw [if_pos c12] at H
       have c12b0 := eq_true c12
       have c12b1 : decide ((ji10) ≤ (t332.size : Int)) = true := decide_eq_true c12
       clear c12
       replace H := Option.bind_eq_some_iff.mp H
       obtain ⟨⟨t346, t347, t350, t353, t354⟩, A130, H⟩ := H
       replace H : ((lodestarref05_Same.f k t336 t337 t340 a0_0 l0_1 l0_2).bind fun t356 => (if t356 = true then (if t343 = (t332.size : Int) then (if t344 = 0 then ((lodestarref05_Same.f k t346 t347 t350 0 ([] : List (S59)) ([] : List (S61))).bind fun t357 => (if t357 = true then (if t353 = 0 then (if t354 = 52 then ((lodestarlaw05_awake.f k).bind fun t358 => (some t358)) else (some false)) else (some false)) else (some false))) else (some false)) else (some false)) else (some false))) = some true := H
       have A13 := Aside0.mk A130
       clear A130
       replace H := Option.bind_eq_some_iff.mp H
       obtain ⟨t356, A140, H⟩ := H
       replace H : (if t356 = true then (if t343 = (t332.size : Int) then (if t344 = 0 then ((lodestarref05_Same.f k t346 t347 t350 0 ([] : List (S59)) ([] : List (S61))).bind fun t357 => (if t357 = true then (if t353 = 0 then (if t354 = 52 then ((lodestarlaw05_awake.f k).bind fun t358 => (some t358)) else (some false)) else (some false)) else (some false))) else (some false)) else (some false)) else (some false)) = some true := H
       have A14 := Aside0.mk A140
       clear A140
       by_cases c15 : t356 = true
       ·subst c15
        have H1 : (if t343 = (t332.size : Int) then (if t344 = 0 then ((lodestarref05_Same.f k t346 t347 t350 0 ([] : List (S59)) ([] : List (S61))).bind fun t357 => (if t357 = true then (if t353 = 0 then (if t354 = 52 then ((lodestarlaw05_awake.f k).bind fun t358 => (some t358)) else (some false)) else (some false)) else (some false))) else (some false)) else (some false)) = some true := by rw [if_pos rfl] at H; exact H
        clear H
        have H := H1
        clear H1
        by_cases c16 : t343 = (t332.size : Int)
        ·rw [if_pos c16] at H
         have c16b0 : (t343 == (t332.size : Int)) = true := beq_iff_eq.mpr c16
         have c16b1 : (t343 != (t332.size : Int)) = false := bne_eq_false_iff_eq.mpr c16
         clear c16
         by_cases c17 : t344 = 0
         ·rw [if_pos c17] at H
          have c17b0 : (t344 == 0) = true := beq_iff_eq.mpr c17
          have c17b1 : (t344 != 0) = false := bne_eq_false_iff_eq.mpr c17
          clear c17
          replace H := Option.bind_eq_some_iff.mp H
          obtain ⟨t357, A180, H⟩ := H
          replace H : (if t357 = true then (if t353 = 0 then (if t354 = 52 then ((lodestarlaw05_awake.f k).bind fun t358 => (some t358)) else (some false)) else (some false)) else (some false)) = some true := H
          have A18 := Aside0.mk A180
          clear A180
          by_cases c19 : t357 = true
          ·subst c19
           have H1 : (if t353 = 0 then (if t354 = 52 then ((lodestarlaw05_awake.f k).bind fun t358 => (some t358)) else (some false)) else (some false)) = some true := by rw [if_pos rfl] at H; exact H
           clear H
           have H := H1
           clear H1
           by_cases c20 : t353 = 0
           ·rw [if_pos c20] at H
            have c20b0 : (t353 == 0) = true := beq_iff_eq.mpr c20
            have c20b1 : (t353 != 0) = false := bne_eq_false_iff_eq.mpr c20
            clear c20
            by_cases c21 : t354 = 52
            ·rw [if_pos c21] at H
             have c21b0 : (t354 == 52) = true := beq_iff_eq.mpr c21
             have c21b1 : (t354 != 52) = false := bne_eq_false_iff_eq.mpr c21
             clear c21
             replace H := Option.bind_eq_some_iff.mp H
             obtain ⟨t358, A220, H⟩ := H
             replace H : (some t358) = some true := H
             have A22 := Aside0.mk A220
             clear A220
             have hE_ := Aside0.mk (Option.some.inj H)
             clear H
             go_enter Tryd.func6, Tryd.ntmps6
             go_wp2_with (first | ((with_reducible refine gate_dst (N := 3) rfl ?_); (try (refine gate_guard (by rfl) ?_; dsimp only)); refine box_event ?hg (N := 3) ?hd (cs := #[.int .i64 a0_0, .slice A0_1 l0_1.length c0_1, .slice A0_2 l0_2.length c0_2]) (t := 25) ?hr ?_; (case hd => rfl); (case hg => rfl); (case hr => first | (go_simp; done) | (go_simp; rfl)); intro gb331 hg w23 hbox hb; have BK331 := Aside0.mk (hbox); have GW331 := Aside0.mk (gs (w := w) hg (bl HB.out)); have GE331 := Aside0.mk (gs (w := w) hg (bl HB.out)); replace HB := Aside0.mk (below_step (bl HB.out) hb); clear hb hbox hg; obtain ⟨hcz24_0, hcz24_1, hcz24_2, hfz24_0, hfz24_1, hfz24_2⟩ := cz3 BK331.out) | ((with_reducible refine gate_callee (f := 13) rfl ?_); refine goesL_ (some 17) rfl rfl Tryd.func13 kr rfl #[.agg #[.int .i64 a0_0, .slice A0_1 l0_1.length c0_1, .slice A0_2 l0_2.length c0_2]] rfl ga ?_; (with_reducible refine (payload_Encode.calls k a0_0 _ _ l0_1 _ _ l0_2 t332 t333 _ ?side1 ?side2 ?side3 ?side4 ?side5 A4.out).mono ?_); (case side1 => repeat (first | exact (Kd.C_below HR0_1.out HB.out) | (with_reducible refine Kd.C_alloc ?_ _) | (with_reducible refine Kd.C_drewN ?_ _) | (with_reducible refine Kd.C_drew ?_))); (case side2 => exact HC0_1.out); (case side3 => repeat (first | exact (Kd.C_below HR0_2.out HB.out) | (with_reducible refine Kd.C_alloc ?_ _) | (with_reducible refine Kd.C_drewN ?_ _) | (with_reducible refine Kd.C_drew ?_))); (case side4 => exact HC0_2.out); (case side5 => exact LaidU.below HU.out (bl HB.out)); rintro e w25 ⟨rfl, hb⟩; refine ⟨_, rfl, ?_⟩; replace BK331 := Aside0.mk (blk_below (pk BK331.out) hb); replace HB := Aside0.mk (below_step (bl HB.out) hb); (try clear hb); (try clear hb2); (try clear hk); (try clear hi)) | ((with_reducible refine gate_callee (f := 19) rfl ?_); refine goesL_ (some 38) rfl rfl Tryd.func19 kr rfl #[.string (t332 ++ a1)] rfl ga ?_; (with_reducible refine (payload_Decode.calls k (t332 ++ a1) t336 t337 t340 t343 t344 _ ?side1 A8.out).mono ?_); (case side1 => exact LaidU.below HU.out (bl HB.out)); rintro e w26 ⟨v338, v341, rfl, ho0, ho1, hb⟩; refine ⟨_, rfl, ?_⟩; have HO339 := Aside0.mk (Kd.S_lower ho0 (below_size (bl HB.out))); have HO342 := Aside0.mk (Kd.R_lower ho1 (below_size (bl HB.out))); replace BK331 := Aside0.mk (blk_below (pk BK331.out) hb); replace HB := Aside0.mk (below_step (bl HB.out) hb); (try clear hb); (try clear hb2); (try clear hk); (try clear hi); (try clear ho0); (try clear ho1)) | ((with_reducible refine gate_dst (N := 9) rfl ?_); (try (refine gate_guard (by rfl) ?_; dsimp only)); refine box_event ?hg (N := 9) ?hd (cs := #[.int .i64 0, .slice none 0 0, .slice none 0 0]) (t := 25) ?hr ?_; (case hd => rfl); (case hg => rfl); (case hr => first | (go_simp; done) | (go_simp; rfl)); intro gb345 hg w27 hbox hb; replace HO339 := Aside0.mk (Kd.S_below (pS HO339.out) hb); replace HO342 := Aside0.mk (Kd.R_below (pR HO342.out) hb); have BK345 := Aside0.mk (hbox); have GW345 := Aside0.mk (gs (w := w) hg (bl HB.out)); have GE345 := Aside0.mk (gs (w := w) hg (bl HB.out)); replace HB := Aside0.mk (below_step (bl HB.out) hb); have NB331_345 := Aside0.mk ((gl (g := gb331) hg (pk BK331.out))); have NB345_331 := Aside0.mk ((gm (g := gb331) hg (pk BK331.out))); replace BK331 := Aside0.mk (blk_below (pk BK331.out) hb); clear hb hbox hg; have hnb28 := NB345_331.out; have hnc28 := NB331_345.out; obtain ⟨hcz29_0, hcz29_1, hcz29_2, hfz29_0, hfz29_1, hfz29_2⟩ := cz3 BK345.out; obtain ⟨Ao30, co30, eo30⟩ := Kd.S_slice HO339.out; subst eo30; obtain ⟨Ao31, co31, eo31⟩ := Kd.R_slice HO342.out; subst eo31) | ((with_reducible refine gate_callee (f := 19) rfl ?_); refine goesL_ (some 55) rfl rfl Tryd.func19 kr rfl #[.string (t332.extract 0 ((ji10) : Int).toNat)] rfl (by (try simp only [List.map_toArray, List.map_cons, List.map_nil]); first | done | (simp only [hji10]; rfl) | rfl | (simp only [List.length_drop, List.length_take]; rfl) | (go_simp; done) | (go_simp; rfl) | (go_simp; simp only [IntKind.wrap_u64]; omega) | (go_simp; simp only [IntKind.wrap_u32]; omega) | (go_simp; simp only [IntKind.wrap_u8]; omega) | (go_simp; unfold wrap64; omega)) ?_; (with_reducible refine (payload_Decode.calls k (t332.extract 0 ((ji10) : Int).toNat) t346 t347 t350 t353 t354 _ ?side1 A13.out).mono ?_); (case side1 => exact LaidU.below HU.out (bl HB.out)); rintro e w32 ⟨v348, v351, rfl, ho0, ho1, hb⟩; refine ⟨_, rfl, ?_⟩; have HO349 := Aside0.mk (Kd.S_lower (Kd.S_new' ho0 (Kd.S_lt (by (with_reducible repeat (first | apply Kd.S_alloc | apply Kd.S_drewN | apply Kd.S_drew)); exact (Kd.S_mono (Kd.S_far (p := ⟨gb345, 2, none⟩) (Kd.S_far (p := ⟨gb345, 1, none⟩) (Kd.S_far (p := ⟨gb345, 0, none⟩) (Kd.S_types HO339.out BK345.out (by decide)) (fun _ hk => hk.2) (.int .i64 t336)) (fun _ hk => hk.2) (.slice Ao30 t337.length co30)) (fun _ hk => hk.2) (.slice Ao31 t340.length co31)) (fun _ h_ => h_.1))))) (below_size (bl HB.out))); replace HO339 := Aside0.mk (Kd.S_elder' (by (with_reducible repeat (first | apply Kd.S_alloc | apply Kd.S_drewN | apply Kd.S_drew)); exact (Kd.S_mono (Kd.S_far (p := ⟨gb345, 2, none⟩) (Kd.S_far (p := ⟨gb345, 1, none⟩) (Kd.S_far (p := ⟨gb345, 0, none⟩) (Kd.S_types HO339.out BK345.out (by decide)) (fun _ hk => hk.2) (.int .i64 t336)) (fun _ hk => hk.2) (.slice Ao30 t337.length co30)) (fun _ hk => hk.2) (.slice Ao31 t340.length co31)) (fun _ h_ => h_.1))) (Kd.S_base ho0) hb); have HO352 := Aside0.mk (Kd.R_lower (Kd.R_new' ho1 (Kd.R_lt (by (with_reducible repeat (first | apply Kd.R_alloc | apply Kd.R_drewN | apply Kd.R_drew)); exact (Kd.R_mono (Kd.R_far (p := ⟨gb345, 2, none⟩) (Kd.R_far (p := ⟨gb345, 1, none⟩) (Kd.R_far (p := ⟨gb345, 0, none⟩) (Kd.R_types HO342.out BK345.out (by decide)) (fun _ hk => hk.2) (.int .i64 t336)) (fun _ hk => hk.2) (.slice Ao30 t337.length co30)) (fun _ hk => hk.2) (.slice Ao31 t340.length co31)) (fun _ h_ => h_.1))))) (below_size (bl HB.out))); replace HO342 := Aside0.mk (Kd.R_elder' (by (with_reducible repeat (first | apply Kd.R_alloc | apply Kd.R_drewN | apply Kd.R_drew)); exact (Kd.R_mono (Kd.R_far (p := ⟨gb345, 2, none⟩) (Kd.R_far (p := ⟨gb345, 1, none⟩) (Kd.R_far (p := ⟨gb345, 0, none⟩) (Kd.R_types HO342.out BK345.out (by decide)) (fun _ hk => hk.2) (.int .i64 t336)) (fun _ hk => hk.2) (.slice Ao30 t337.length co30)) (fun _ hk => hk.2) (.slice Ao31 t340.length co31)) (fun _ h_ => h_.1))) (Kd.R_base ho1) hb); replace BK331 := Aside0.mk (blk_below (g := gb331) (o := .cells #[.int .i64 a0_0, .slice A0_1 l0_1.length c0_1, .slice A0_2 l0_2.length c0_2] 25 (0, 0)) (by refine pk ?_; refine blk_far ?_ NB331_345.out _; refine pk ?_; refine blk_far ?_ NB331_345.out _; refine pk ?_; refine blk_far ?_ NB331_345.out _; exact pk BK331.out) hb); replace BK345 := Aside0.mk (blk_below (g := gb345) (o := .cells #[.int .i64 t336, .slice Ao30 t337.length co30, .slice Ao31 t340.length co31] 25 (0, 0)) (by refine pk ?_; refine blk_put (cs := #[.int .i64 t336, .slice Ao30 t337.length co30, .slice none 0 0]) ?_ 2 _ rfl; refine pk ?_; refine blk_put (cs := #[.int .i64 t336, .slice none 0 0, .slice none 0 0]) ?_ 1 _ rfl; refine pk ?_; refine blk_put (cs := #[.int .i64 0, .slice none 0 0, .slice none 0 0]) ?_ 0 _ rfl; exact pk BK345.out) hb); replace HB := Aside0.mk (below_step (bl HB.out) hb); (try clear hb); (try clear hb2); (try clear hk); (try clear hi); (try clear ho0); (try clear ho1)) | ((with_reducible refine gate_dst (N := 12) rfl ?_); (try (refine gate_guard (by rfl) ?_; dsimp only)); refine box_event ?hg (N := 12) ?hd (cs := #[.int .i64 0, .slice none 0 0, .slice none 0 0]) (t := 25) ?hr ?_; (case hd => rfl); (case hg => rfl); (case hr => first | (go_simp; done) | (go_simp; rfl)); intro gb355 hg w33 hbox hb; replace HO339 := Aside0.mk (Kd.S_below (pS HO339.out) hb); replace HO342 := Aside0.mk (Kd.R_below (pR HO342.out) hb); replace HO349 := Aside0.mk (Kd.S_below (pS HO349.out) hb); replace HO352 := Aside0.mk (Kd.R_below (pR HO352.out) hb); have BK355 := Aside0.mk (hbox); have GW355 := Aside0.mk (gs (w := w) hg (bl HB.out)); have GE355 := Aside0.mk (gs (w := w) hg (bl HB.out)); replace HB := Aside0.mk (below_step (bl HB.out) hb); have NB331_355 := Aside0.mk ((gl (g := gb331) hg (pk BK331.out))); have NB355_331 := Aside0.mk ((gm (g := gb331) hg (pk BK331.out))); replace BK331 := Aside0.mk (blk_below (pk BK331.out) hb); have NB345_355 := Aside0.mk ((gl (g := gb345) hg (pk BK345.out))); have NB355_345 := Aside0.mk ((gm (g := gb345) hg (pk BK345.out))); replace BK345 := Aside0.mk (blk_below (pk BK345.out) hb); clear hb hbox hg; have hnb34 := NB355_331.out; have hnc34 := NB331_355.out; have hnb35 := NB355_345.out; have hnc35 := NB345_355.out; obtain ⟨hcz36_0, hcz36_1, hcz36_2, hfz36_0, hfz36_1, hfz36_2⟩ := cz3 BK355.out; obtain ⟨Ao37, co37, eo37⟩ := Kd.S_slice HO349.out; subst eo37; obtain ⟨Ao38, co38, eo38⟩ := Kd.R_slice HO352.out; subst eo38; obtain ⟨hcz39_0, hcz39_1, hcz39_2, hfz39_0, hfz39_1, hfz39_2⟩ := cz3 BK345.out; obtain ⟨hcz40_0, hcz40_1, hcz40_2, hfz40_0, hfz40_1, hfz40_2⟩ := cz3 BK331.out) | ((with_reducible refine gate_callee (f := 10) rfl ?_); refine goesL_ (some 61) rfl rfl Tryd.func10 kr rfl #[.agg #[.int .i64 t336, .slice Ao30 t337.length co30, .slice Ao31 t340.length co31], .agg #[.int .i64 a0_0, .slice A0_1 l0_1.length c0_1, .slice A0_2 l0_2.length c0_2]] rfl ga ?_; (with_reducible refine (lodestarref05_Same.calls k t336 _ _ t337 _ _ t340 a0_0 _ _ l0_1 _ _ l0_2 true _ ?side1 ?side2 ?side3 ?side4 ?side5 ?side6 ?side7 ?side8 A14.out).mono ?_); (case side1 => refine (Kd.S_reads' (e := 59) (base := w.heap.size) (ok := fun k_ => (True ∧ some k_ ≠ (.slice Ao37 t347.length co37 : Value).ownBlock)) (n := t337.length) (c := co30) ?_).2.2; exact (by (with_reducible repeat (first | apply Kd.S_alloc | apply Kd.S_drewN | apply Kd.S_drew)); exact (Kd.S_mono (Kd.S_far (p := ⟨gb355, 2, none⟩) (Kd.S_far (p := ⟨gb355, 1, none⟩) (Kd.S_far (p := ⟨gb355, 0, none⟩) (Kd.S_types HO339.out BK355.out (by decide)) (fun _ hk => hk.2) (.int .i64 t346)) (fun _ hk => hk.2) (.slice Ao37 t347.length co37)) (fun _ hk => hk.2) (.slice Ao38 t350.length co38)) (fun _ h_ => h_.1)))); (case side2 => exact (Kd.S_reads' HO339.out).2.1); (case side3 => refine (Kd.R_reads' (e := 61) (base := w.heap.size) (ok := fun k_ => (True ∧ some k_ ≠ (.slice Ao38 t350.length co38 : Value).ownBlock)) (n := t340.length) (c := co31) ?_).2.2; exact (by (with_reducible repeat (first | apply Kd.R_alloc | apply Kd.R_drewN | apply Kd.R_drew)); exact (Kd.R_mono (Kd.R_far (p := ⟨gb355, 2, none⟩) (Kd.R_far (p := ⟨gb355, 1, none⟩) (Kd.R_far (p := ⟨gb355, 0, none⟩) (Kd.R_types HO342.out BK355.out (by decide)) (fun _ hk => hk.2) (.int .i64 t346)) (fun _ hk => hk.2) (.slice Ao37 t347.length co37)) (fun _ hk => hk.2) (.slice Ao38 t350.length co38)) (fun _ h_ => h_.1)))); (case side4 => exact (Kd.R_reads' HO342.out).2.1); (case side5 => exact Kd.C_below HR0_1.out (bl HB.out)); (case side6 => exact HC0_1.out); (case side7 => exact Kd.C_below HR0_2.out (bl HB.out)); (case side8 => exact HC0_2.out); rintro e w41 ⟨rfl, hb⟩; refine ⟨_, rfl, ?_⟩; replace HO339 := Aside0.mk (Kd.S_below (by (with_reducible repeat (first | apply Kd.S_alloc | apply Kd.S_drewN | apply Kd.S_drew)); exact (Kd.S_mono (Kd.S_far (p := ⟨gb355, 2, none⟩) (Kd.S_far (p := ⟨gb355, 1, none⟩) (Kd.S_far (p := ⟨gb355, 0, none⟩) (Kd.S_types HO339.out BK355.out (by decide)) (fun _ hk => hk.2) (.int .i64 t346)) (fun _ hk => hk.2) (.slice Ao37 t347.length co37)) (fun _ hk => hk.2) (.slice Ao38 t350.length co38)) (fun _ h_ => h_.1))) hb); replace HO342 := Aside0.mk (Kd.R_below (by (with_reducible repeat (first | apply Kd.R_alloc | apply Kd.R_drewN | apply Kd.R_drew)); exact (Kd.R_mono (Kd.R_far (p := ⟨gb355, 2, none⟩) (Kd.R_far (p := ⟨gb355, 1, none⟩) (Kd.R_far (p := ⟨gb355, 0, none⟩) (Kd.R_types HO342.out BK355.out (by decide)) (fun _ hk => hk.2) (.int .i64 t346)) (fun _ hk => hk.2) (.slice Ao37 t347.length co37)) (fun _ hk => hk.2) (.slice Ao38 t350.length co38)) (fun _ h_ => h_.1))) hb); replace HO349 := Aside0.mk (Kd.S_below (by (with_reducible repeat (first | apply Kd.S_alloc | apply Kd.S_drewN | apply Kd.S_drew)); exact (Kd.S_mono (Kd.S_far (p := ⟨gb355, 2, none⟩) (Kd.S_far (p := ⟨gb355, 1, none⟩) (Kd.S_far (p := ⟨gb355, 0, none⟩) (Kd.S_types HO349.out BK355.out (by decide)) (fun _ hk => hk.2) (.int .i64 t346)) (fun _ hk => hk.2) (.slice Ao37 t347.length co37)) (fun _ hk => hk.2) (.slice Ao38 t350.length co38)) (fun _ h_ => h_.1))) hb); replace HO352 := Aside0.mk (Kd.R_below (by (with_reducible repeat (first | apply Kd.R_alloc | apply Kd.R_drewN | apply Kd.R_drew)); exact (Kd.R_mono (Kd.R_far (p := ⟨gb355, 2, none⟩) (Kd.R_far (p := ⟨gb355, 1, none⟩) (Kd.R_far (p := ⟨gb355, 0, none⟩) (Kd.R_types HO352.out BK355.out (by decide)) (fun _ hk => hk.2) (.int .i64 t346)) (fun _ hk => hk.2) (.slice Ao37 t347.length co37)) (fun _ hk => hk.2) (.slice Ao38 t350.length co38)) (fun _ h_ => h_.1))) hb); replace BK331 := Aside0.mk (blk_below (g := gb331) (o := .cells #[.int .i64 a0_0, .slice A0_1 l0_1.length c0_1, .slice A0_2 l0_2.length c0_2] 25 (0, 0)) (by refine pk ?_; refine blk_far ?_ NB331_355.out _; refine pk ?_; refine blk_far ?_ NB331_355.out _; refine pk ?_; refine blk_far ?_ NB331_355.out _; exact pk BK331.out) hb); replace BK345 := Aside0.mk (blk_below (g := gb345) (o := .cells #[.int .i64 t336, .slice Ao30 t337.length co30, .slice Ao31 t340.length co31] 25 (0, 0)) (by refine pk ?_; refine blk_far ?_ NB345_355.out _; refine pk ?_; refine blk_far ?_ NB345_355.out _; refine pk ?_; refine blk_far ?_ NB345_355.out _; exact pk BK345.out) hb); replace BK355 := Aside0.mk (blk_below (g := gb355) (o := .cells #[.int .i64 t346, .slice Ao37 t347.length co37, .slice Ao38 t350.length co38] 25 (0, 0)) (by refine pk ?_; refine blk_put (cs := #[.int .i64 t346, .slice Ao37 t347.length co37, .slice none 0 0]) ?_ 2 _ rfl; refine pk ?_; refine blk_put (cs := #[.int .i64 t346, .slice none 0 0, .slice none 0 0]) ?_ 1 _ rfl; refine pk ?_; refine blk_put (cs := #[.int .i64 0, .slice none 0 0, .slice none 0 0]) ?_ 0 _ rfl; exact pk BK355.out) hb); replace HB := Aside0.mk (below_step (bl HB.out) hb); (try clear hb); (try clear hb2); (try clear hk); (try clear hi); obtain ⟨hcz42_0, hcz42_1, hcz42_2, hfz42_0, hfz42_1, hfz42_2⟩ := cz3 BK355.out) | (go_at_call 10; (refine (lodestarref05_Same.calls k t346 _ _ t347 _ _ t350 0 _ _ ([] : List (S59)) _ _ ([] : List (S61)) true _ ?side1 ?side2 ?side3 ?side4 ?side5 ?side6 ?side7 ?side8 A18.out).mono ?_); (case side1 => repeat (first | exact (Kd.S_reads' HO349.out).2.2 | (with_reducible refine Kd.C_alloc ?_ _) | (with_reducible refine Kd.C_drewN ?_ _) | (with_reducible refine Kd.C_drew ?_))); (case side2 => exact (Kd.S_reads' HO349.out).2.1); (case side3 => repeat (first | exact (Kd.R_reads' HO352.out).2.2 | (with_reducible refine Kd.C_alloc ?_ _) | (with_reducible refine Kd.C_drewN ?_ _) | (with_reducible refine Kd.C_drew ?_))); (case side4 => exact (Kd.R_reads' HO352.out).2.1); (case side5 => exact Kd.C_nil _ _); (case side6 => exact Nat.le_refl _); (case side7 => exact Kd.C_nil _ _); (case side8 => exact Nat.le_refl _); rintro e w43 ⟨rfl, hb⟩; replace HO339 := Aside0.mk (Kd.S_below (pS HO339.out) hb); replace HO342 := Aside0.mk (Kd.R_below (pR HO342.out) hb); replace HO349 := Aside0.mk (Kd.S_below (pS HO349.out) hb); replace HO352 := Aside0.mk (Kd.R_below (pR HO352.out) hb); replace BK331 := Aside0.mk (blk_below (pk BK331.out) hb); replace BK345 := Aside0.mk (blk_below (pk BK345.out) hb); replace BK355 := Aside0.mk (blk_below (pk BK355.out) hb); replace HB := Aside0.mk (below_step (bl HB.out) hb); (try clear hb); (try clear hb2); (try clear hk); (try clear hi)) | (go_at_call 12; (with_reducible refine (lodestarlaw05_awake.calls k  t358 _ ?side1 A22.out).mono ?_); (case side1 => exact LaidU.below HU.out (bl HB.out)); rintro e w44 ⟨rfl, hb⟩; replace HO339 := Aside0.mk (Kd.S_below (pS HO339.out) hb); replace HO342 := Aside0.mk (Kd.R_below (pR HO342.out) hb); replace HO349 := Aside0.mk (Kd.S_below (pS HO349.out) hb); replace HO352 := Aside0.mk (Kd.R_below (pR HO352.out) hb); replace BK331 := Aside0.mk (blk_below (pk BK331.out) hb); replace BK345 := Aside0.mk (blk_below (pk BK345.out) hb); replace BK355 := Aside0.mk (blk_below (pk BK355.out) hb); replace HB := Aside0.mk (below_step (bl HB.out) hb); (try clear hb); (try clear hb2); (try clear hk); (try clear hi)))
             go_ret
             exact ⟨by first | rfl | (simp [errW_none, errW_some] <;> rfl) | (simp only [← hji10]; first | rfl | (simp [errW_none, errW_some] <;> rfl)) | exact congrArg (fun b_ => Ending.returned (.bool b_)) hE_.out | (simp [*, errW_none, errW_some] <;> rfl), bl HB.out⟩
            ·rw [if_neg c21] at H
             have c21b0 : (t354 == 52) = false := beq_eq_false_iff_ne.mpr c21
             have c21b1 : (t354 != 52) = true := bne_iff_ne.mpr c21
             exact absurd (Option.some.inj H) (by simp)
           ·rw [if_neg c20] at H
            have c20b0 : (t353 == 0) = false := beq_eq_false_iff_ne.mpr c20
            have c20b1 : (t353 != 0) = true := bne_iff_ne.mpr c20
            exact absurd (Option.some.inj H) (by simp)
          ·replace c19 := Bool.eq_false_iff.mpr c19
           subst c19
           have H1 : (some false) = some true := by rw [if_neg (show ¬ (false = true) by decide)] at H; exact H
           clear H
           have H := H1
           clear H1
           exact absurd (Option.some.inj H) (by simp)
         ·rw [if_neg c17] at H
          have c17b0 : (t344 == 0) = false := beq_eq_false_iff_ne.mpr c17
          have c17b1 : (t344 != 0) = true := bne_iff_ne.mpr c17
          exact absurd (Option.some.inj H) (by simp)
        ·rw [if_neg c16] at H
         have c16b0 : (t343 == (t332.size : Int)) = false := beq_eq_false_iff_ne.mpr c16
         have c16b1 : (t343 != (t332.size : Int)) = true := bne_iff_ne.mpr c16
         exact absurd (Option.some.inj H) (by simp)
       ·replace c15 := Bool.eq_false_iff.mpr c15
        subst c15
        have H1 : (some false) = some true := by rw [if_neg (show ¬ (false = true) by decide)] at H; exact H
        clear H
        have H := H1
        clear H1
        exact absurd (Option.some.inj H) (by simp)
      ·rw [if_neg c12] at H
       exact absurd H (by simp)
     ·rw [if_neg c11] at H
      exact absurd H (by simp)
   ·rw [if_neg c7] at H
    exact absurd H (by simp)
 ·rw [if_neg c5] at H
  have c5b0 : (t333 == 0) = false := beq_eq_false_iff_ne.mpr c5
  have c5b1 : (t333 != 0) = true := bne_iff_ne.mpr c5
  by_cases c45 : t332.toList = ([] : List UInt8)
  ·rw [if_pos c45] at H
   have c45b0 : (t332.toList == ([] : List UInt8)) = true := beq_iff_eq.mpr c45
   have c45b1 : (t332.toList != ([] : List UInt8)) = false := bne_eq_false_iff_eq.mpr c45
   clear c45
   replace H := Option.bind_eq_some_iff.mp H
   obtain ⟨t334, A460, H⟩ := H
   replace H : (if t334 = true then (some false) else ((lodestarlaw05_awake.f k).bind fun t335 => (some t335))) = some true := H
   have A46 := Aside0.mk A460
   clear A460
   by_cases c47 : t334 = true
   ·subst c47
    have H1 : (some false) = some true := by rw [if_pos rfl] at H; exact H
    clear H
    have H := H1
    clear H1
    exact absurd (Option.some.inj H) (by simp)
   ·replace c47 := Bool.eq_false_iff.mpr c47
    subst c47
    have H1 : ((lodestarlaw05_awake.f k).bind fun t335 => (some t335)) = some true := by rw [if_neg (show ¬ (false = true) by decide)] at H; exact H
    clear H
    have H := H1
    clear H1
    replace H := Option.bind_eq_some_iff.mp H
    obtain ⟨t335, A480, H⟩ := H
    replace H : (some t335) = some true := H
    have A48 := Aside0.mk A480
    clear A480
    have hE_ := Aside0.mk (Option.some.inj H)
    clear H
    go_enter Tryd.func6, Tryd.ntmps6
    go_wp2_with (first | ((with_reducible refine gate_dst (N := 3) rfl ?_); (try (refine gate_guard (by rfl) ?_; dsimp only)); refine box_event ?hg (N := 3) ?hd (cs := #[.int .i64 a0_0, .slice A0_1 l0_1.length c0_1, .slice A0_2 l0_2.length c0_2]) (t := 25) ?hr ?_; (case hd => rfl); (case hg => rfl); (case hr => first | (go_simp; done) | (go_simp; rfl)); intro gb331 hg w49 hbox hb; have BK331 := Aside0.mk (hbox); have GW331 := Aside0.mk (gs (w := w) hg (bl HB.out)); have GE331 := Aside0.mk (gs (w := w) hg (bl HB.out)); replace HB := Aside0.mk (below_step (bl HB.out) hb); clear hb hbox hg; obtain ⟨hcz50_0, hcz50_1, hcz50_2, hfz50_0, hfz50_1, hfz50_2⟩ := cz3 BK331.out) | ((with_reducible refine gate_callee (f := 13) rfl ?_); refine goesL_ (some 17) rfl rfl Tryd.func13 kr rfl #[.agg #[.int .i64 a0_0, .slice A0_1 l0_1.length c0_1, .slice A0_2 l0_2.length c0_2]] rfl ga ?_; (with_reducible refine (payload_Encode.calls k a0_0 _ _ l0_1 _ _ l0_2 t332 t333 _ ?side1 ?side2 ?side3 ?side4 ?side5 A4.out).mono ?_); (case side1 => repeat (first | exact (Kd.C_below HR0_1.out HB.out) | (with_reducible refine Kd.C_alloc ?_ _) | (with_reducible refine Kd.C_drewN ?_ _) | (with_reducible refine Kd.C_drew ?_))); (case side2 => exact HC0_1.out); (case side3 => repeat (first | exact (Kd.C_below HR0_2.out HB.out) | (with_reducible refine Kd.C_alloc ?_ _) | (with_reducible refine Kd.C_drewN ?_ _) | (with_reducible refine Kd.C_drew ?_))); (case side4 => exact HC0_2.out); (case side5 => exact LaidU.below HU.out (bl HB.out)); rintro e w51 ⟨rfl, hb⟩; refine ⟨_, rfl, ?_⟩; replace BK331 := Aside0.mk (blk_below (pk BK331.out) hb); replace HB := Aside0.mk (below_step (bl HB.out) hb); (try clear hb); (try clear hb2); (try clear hk); (try clear hi); obtain ⟨hcz52_0, hcz52_1, hcz52_2, hfz52_0, hfz52_1, hfz52_2⟩ := cz3 BK331.out) | (go_at_call 21; (with_reducible refine (lodestarref05_May.calls k a0_0 _ _ l0_1 _ _ l0_2 false _ ?side1 ?side2 ?side3 ?side4 A46.out).mono ?_); (case side1 => repeat (first | exact (Kd.C_below HR0_1.out HB.out) | (with_reducible refine Kd.C_alloc ?_ _) | (with_reducible refine Kd.C_drewN ?_ _) | (with_reducible refine Kd.C_drew ?_))); (case side2 => exact HC0_1.out); (case side3 => repeat (first | exact (Kd.C_below HR0_2.out HB.out) | (with_reducible refine Kd.C_alloc ?_ _) | (with_reducible refine Kd.C_drewN ?_ _) | (with_reducible refine Kd.C_drew ?_))); (case side4 => exact HC0_2.out); rintro e w53 ⟨rfl, hb⟩; replace BK331 := Aside0.mk (blk_below (pk BK331.out) hb); replace HB := Aside0.mk (below_step (bl HB.out) hb); (try clear hb); (try clear hb2); (try clear hk); (try clear hi)) | (go_at_call 12; (with_reducible refine (lodestarlaw05_awake.calls k  t335 _ ?side1 A48.out).mono ?_); (case side1 => exact LaidU.below HU.out (bl HB.out)); rintro e w54 ⟨rfl, hb⟩; replace BK331 := Aside0.mk (blk_below (pk BK331.out) hb); replace HB := Aside0.mk (below_step (bl HB.out) hb); (try clear hb); (try clear hb2); (try clear hk); (try clear hi)))
    go_ret
    exact ⟨er1, bl HB.out⟩
  ·rw [if_neg c45] at H
   have c45b0 : (t332.toList == ([] : List UInt8)) = false := beq_eq_false_iff_ne.mpr c45
   have c45b1 : (t332.toList != ([] : List UInt8)) = true := bne_iff_ne.mpr c45
   exact absurd (Option.some.inj H) (by simp)

end Go.Proofs.YtbeljekpknpadaaDoor.PPayY
