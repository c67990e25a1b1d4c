-- Written by a program of this session on top of the print: some functions by hand.
import Derived.Test.YtbeljekpknpadaaDoorPPayUx0
import Derived.Test.YtbeljekpknpadaaDoorPPayUx6
namespace Go.Proofs.YtbeljekpknpadaaDoor.PPayU
open Go.RowKit Go.Proofs.YtbeljekpknpadaaDoorW.PrintWords Go.Proofs.YtbeljekpknpadaaDoorW.PrintLast Go.Proofs.YtbeljekpknpadaaDoorW.PrintMore
attribute [local go_sem] max2_int min2_int max_two min_two max_three min_three max_four min_four   -- for this text's walks alone
set_option linter.unusedVariables false
set_option linter.unusedSimpArgs false

/-! ### api_Field_36: function 36 -/
def api_Field_36.l0 : Nat → List (S61) → Int → Int → Option (Int)
 | 0, _, _, _ => none
 | k + 1, x0, x7, x8 => if x8 < x7 then (if 0 ≤ x8 then (if x8 < (x0.length : Int) then ((payload_may_1.f ((rd_T61 x0 x8).f0) ((rd_T61 x0 x8).f1.f0) ((rd_T61 x0 x8).f1.f1) ((rd_T61 x0 x8).f1.f2)).bind fun t163 => (if t163 = true then (some x8) else (api_Field_36.l0 k x0 x7 (wrap64 (x8 + 1))))) else (none)) else (none)) else (some (-1))
def api_Field_36.f (k : Nat) (l0 : List (S61)) (a1 : Nat) : Option (Int) := if a1 = 61 then (api_Field_36.l0 k l0 (l0.length : Int) 0) else (none)
theorem api_Field_36.mono_l : ∀ k, (∀ y0 y1 y2, LeO (api_Field_36.l0 k y0 y1 y2) (api_Field_36.l0 (k + 1) y0 y1 y2))
 | 0 => fun _ _ _ r h => by simp [api_Field_36.l0] at h
 | k + 1 => by
  have ih0 := api_Field_36.mono_l k
  ·intro y0 y1 y2
   unfold api_Field_36.l0
   repeat' first
   | (with_reducible exact ih0 _ _ _)
   | (with_reducible exact LeO.refl _)
   | (with_reducible exact LeO.none _)
   | (with_reducible refine LeO.ite ?_ ?_)
   | (with_reducible refine LeO.bind ?_ (fun _ => ?_))
   | exact ih0 _ _ _
   | exact LeO.none _
   | refine LeO.ite ?_ ?_
   | refine LeO.bind ?_ (fun _ => ?_)
theorem api_Field_36.mono : ∀ a0 a1 k, LeO (api_Field_36.f k a0 a1) (api_Field_36.f (k + 1) a0 a1) := by
 intro a0 a1 k
 have ih0 := api_Field_36.mono_l k
 unfold api_Field_36.f
 repeat' first
   | (with_reducible exact ih0 _ _ _)
   | (with_reducible exact LeO.refl _)
   | (with_reducible exact LeO.none _)
   | (with_reducible refine LeO.ite ?_ ?_)
   | (with_reducible refine LeO.bind ?_ (fun _ => ?_))
   | exact ih0 _ _ _
   | exact LeO.none _
   | refine LeO.ite ?_ ?_
   | refine LeO.bind ?_ (fun _ => ?_)
set_option maxHeartbeats 8000000 in
set_option maxRecDepth 100000 in
theorem api_Field_36.calls (k : Nat) (A0 : Option Addr) (c0 : Nat) (l0 : List (S61)) (a1 : Nat) (r : Int) (w : World) (hr0 : Kd.C k61 w A0 l0.length l0) (hc0 : l0.length ≤ c0) (hU : LaidU w) (h : api_Field_36.f k l0 a1 = some r) :
  Calls Tryd.prog 36 #[.slice A0 l0.length c0, .func (.func a1) #[] #[]] w fun e w' => e = .returned (.int .i64 r) ∧ Below w.heap.size w w' := by
 have hu61 := Tryd.underlying61
 have HU := Aside0.mk hU
 clear hU
 have HR0 := Aside0.mk hr0
 have HC0 := Aside0.mk hc0
 clear hr0 hc0
 have HB := Aside0.mk (Below.refl w.heap.size w)
 have H : (if a1 = 61 then (api_Field_36.l0 k l0 (l0.length : Int) 0) else (none)) = some r := h
 clear h
 by_cases c3 : a1 = 61
 ·rw [if_pos c3] at H
  subst c3
  have H' := Aside0.mk H
  clear H
  go_enter Tryd.func36, Tryd.ntmps36
  go_wp2
  go_loopg [8] k (fun kq v8 w' => ∃ (x8_1 : Int), v8 = .int .i64 x8_1 ∧ Aside0 (api_Field_36.l0 kq l0 (l0.length : Int) x8_1 = some r) ∧ Aside0 (kq ≤ k) ∧ Aside0 (Below w.heap.size w w'))
  case atStart => exact ⟨(0), hsr, H', ⟨Nat.le_refl _⟩, ⟨bl HB.out⟩⟩
  case round =>
   clear H'
   try clear p2
   try clear c3
   obtain ⟨x8_1, rfl, HA, HK1, HB⟩ := hrel
   cases gk with
   | zero => exact absurd HA.out (by simp [api_Field_36.l0])
   | succ k1 =>
    have H := HA.out
    clear HA
    simp only [api_Field_36.l0] at H
    by_cases c4 : x8_1 < (l0.length : Int)
    ·rw [if_pos c4] at H
     have c4b0 : decide (x8_1 < (l0.length : Int)) = true := decide_eq_true c4
     clear c4
     by_cases c5 : 0 ≤ x8_1
     ·rw [if_pos c5] at H
      have c5b0 : decide (0 ≤ x8_1) = true := decide_eq_true c5
      clear c5
      by_cases c6 : x8_1 < (l0.length : Int)
      ·rw [if_pos c6] at H
       have c6b0 : decide (x8_1 < (l0.length : Int)) = true := decide_eq_true c6
       clear c6
       replace H := Option.bind_eq_some_iff.mp H
       obtain ⟨t163, A70, H⟩ := H
       replace H : (if t163 = true then (some x8_1) else (api_Field_36.l0 k1 l0 (l0.length : Int) (wrap64 (x8_1 + 1)))) = some r := H
       have A7 := Aside0.mk A70
       clear A70
       by_cases c8 : t163 = true
       ·subst c8
        have H1 : (some x8_1) = some r := by rw [if_pos rfl] at H; exact H
        clear H
        have H := H1
        clear H1
        obtain rfl := Option.some.inj H
        have p162 : 0 ≤ (x8_1 : Int) := of_decide_eq_true ha
        have q162 : x8_1 < (l0.length : Int) := of_decide_eq_true ha
        obtain ⟨ad162, e162, hx162_0, hx162_1, hx162_2, hx162_3⟩ := at_T61 HR0.out x8_1 p162 q162
        cases e162
        replace hx162_0 := (HB.out.cell (World.block_lt_of_cell? w _ hx162_0)).trans hx162_0
        replace hx162_1 := (HB.out.cell (World.block_lt_of_cell? w _ hx162_1)).trans hx162_1
        replace hx162_2 := (HB.out.cell (World.block_lt_of_cell? w _ hx162_2)).trans hx162_2
        replace hx162_3 := (HB.out.cell (World.block_lt_of_cell? w _ hx162_3)).trans hx162_3
        replace p162 := eq_true p162
        replace q162 := eq_true q162
        go_wp2_with (first | (go_at_call 61; (with_reducible refine (payload_may_1.calls ((rd_T61 l0 x8_1).f0) ((rd_T61 l0 x8_1).f1.f0) ((rd_T61 l0 x8_1).f1.f1) ((rd_T61 l0 x8_1).f1.f2) true _ ?side1 A7.out).mono ?_); (case side1 => exact LaidU.below HU.out (bl HB.out)); rintro e w9 ⟨rfl, hb⟩; replace HB := Aside0.mk (below_step (bl HB.out) hb); (try clear hb); (try clear hb2); (try clear hk); (try clear hi)))
        go_ret
        exact ⟨er0, bl HB.out⟩
       ·replace c8 := Bool.eq_false_iff.mpr c8
        subst c8
        have H1 : (api_Field_36.l0 k1 l0 (l0.length : Int) (wrap64 (x8_1 + 1))) = some r := by rw [if_neg (show ¬ (false = true) by decide)] at H; exact H
        clear H
        have H := H1
        clear H1
        have H' := Aside0.mk H
        clear H
        have p162 : 0 ≤ (x8_1 : Int) := of_decide_eq_true ha
        have q162 : x8_1 < (l0.length : Int) := of_decide_eq_true ha
        obtain ⟨ad162, e162, hx162_0, hx162_1, hx162_2, hx162_3⟩ := at_T61 HR0.out x8_1 p162 q162
        cases e162
        replace hx162_0 := (HB.out.cell (World.block_lt_of_cell? w _ hx162_0)).trans hx162_0
        replace hx162_1 := (HB.out.cell (World.block_lt_of_cell? w _ hx162_1)).trans hx162_1
        replace hx162_2 := (HB.out.cell (World.block_lt_of_cell? w _ hx162_2)).trans hx162_2
        replace hx162_3 := (HB.out.cell (World.block_lt_of_cell? w _ hx162_3)).trans hx162_3
        replace p162 := eq_true p162
        replace q162 := eq_true q162
        go_wp2_with (first | (go_at_call 61; (with_reducible refine (payload_may_1.calls ((rd_T61 l0 x8_1).f0) ((rd_T61 l0 x8_1).f1.f0) ((rd_T61 l0 x8_1).f1.f1) ((rd_T61 l0 x8_1).f1.f2) false _ ?side1 A7.out).mono ?_); (case side1 => exact LaidU.below HU.out (bl HB.out)); rintro e w10 ⟨rfl, hb⟩; replace HB := Aside0.mk (below_step (bl HB.out) hb); (try clear hb); (try clear hb2); (try clear hk); (try clear hi)))
        go_roundg k1
        case measure => have := HK1.out; omega
        case rel => exact ⟨(wrap64 (x8_1 + 1)), hsr, H', ⟨by have := HK1.out; omega⟩, ⟨bl HB.out⟩⟩
      ·rw [if_neg c6] at H
       exact absurd H (by simp)
     ·rw [if_neg c5] at H
      exact absurd H (by simp)
    ·rw [if_neg c4] at H
     have c4b0 : decide (x8_1 < (l0.length : Int)) = false := decide_eq_false c4
     clear c4
     obtain rfl := Option.some.inj H
     go_wp2
     go_ret
     exact ⟨er0, bl HB.out⟩
 ·rw [if_neg c3] at H
  exact absurd H (by simp)

/-! ### api_Field_60: function 60 -/
def api_Field_60.f (k : Nat) (l0 : List (S61)) (a1 : Nat) : Option (Bool) := if a1 = 61 then ((api_Field_36.f k l0 61).bind fun t164 => (some (decide (t164 ≥ 0)))) else (none)
theorem api_Field_60.mono : ∀ a0 a1 k, LeO (api_Field_60.f k a0 a1) (api_Field_60.f (k + 1) a0 a1) := by
 intro a0 a1 k
 unfold api_Field_60.f
 repeat' first
   | (with_reducible exact api_Field_36.mono _ _ _)
   | (with_reducible exact LeO.refl _)
   | (with_reducible exact LeO.none _)
   | (with_reducible refine LeO.ite ?_ ?_)
   | (with_reducible refine LeO.bind ?_ (fun _ => ?_))
   | exact api_Field_36.mono _ _ _
   | exact LeO.none _
   | refine LeO.ite ?_ ?_
   | refine LeO.bind ?_ (fun _ => ?_)
set_option maxHeartbeats 8000000 in
set_option maxRecDepth 100000 in
theorem api_Field_60.calls (k : Nat) (A0 : Option Addr) (c0 : Nat) (l0 : List (S61)) (a1 : Nat) (r : Bool) (w : World) (hr0 : Kd.C k61 w A0 l0.length l0) (hc0 : l0.length ≤ c0) (hU : LaidU w) (h : api_Field_60.f k l0 a1 = some r) :
  Calls Tryd.prog 60 #[.slice A0 l0.length c0, .func (.func a1) #[] #[]] w fun e w' => e = .returned (.bool r) ∧ Below w.heap.size w w' := by
 have HU := Aside0.mk hU
 clear hU
 have HR0 := Aside0.mk hr0
 have HC0 := Aside0.mk hc0
 clear hr0 hc0
 have HB := Aside0.mk (Below.refl w.heap.size w)
 have H : (if a1 = 61 then ((api_Field_36.f k l0 61).bind fun t164 => (some (decide (t164 ≥ 0)))) else (none)) = some r := h
 clear h
 by_cases c3 : a1 = 61
 ·rw [if_pos c3] at H
  subst c3
  replace H := Option.bind_eq_some_iff.mp H
  obtain ⟨t164, A40, H⟩ := H
  replace H : (some (decide (t164 ≥ 0))) = some r := H
  have A4 := Aside0.mk A40
  clear A40
  obtain rfl := Option.some.inj H
  go_enter Tryd.func60, Tryd.ntmps60
  go_wp2_with (first | ((with_reducible refine gate_callee (f := 36) rfl ?_); refine goesL_ (some 7) rfl rfl Tryd.func36 kr rfl #[.slice A0 l0.length c0, .func (.func 61) #[] #[]] rfl ga ?_; (with_reducible refine (api_Field_36.calls k _ _ l0 61 t164 _ ?side1 ?side2 ?side3 A4.out).mono ?_); (case side1 => repeat (first | exact HR0.out | (with_reducible refine Kd.C_alloc ?_ _) | (with_reducible refine Kd.C_drewN ?_ _) | (with_reducible refine Kd.C_drew ?_))); (case side2 => exact HC0.out); (case side3 => exact LaidU.below HU.out (bl HB.out)); rintro e w5 ⟨rfl, hb⟩; refine ⟨_, rfl, ?_⟩; replace HB := Aside0.mk (below_step (bl HB.out) hb); (try clear hb); (try clear hb2); (try clear hk); (try clear hi)))
  go_ret
  exact ⟨er0, bl HB.out⟩
 ·rw [if_neg c3] at H
  exact absurd H (by simp)

/-! ### payload_may: function 30 -/
def payload_may.l0 : Nat → List (S59) → Int → Int → Int → List (S59) → List (S61) → Option (Bool)
 | 0, _, _, _, _, _, _ => none
 | k + 1, x9, x10, x11, x166000, x166001, x166002 => if x11 < x10 then (if 0 ≤ x11 then (if x11 < (x9.length : Int) then (if (((rd_T59 x9 x11).f1).length : Int) < 1 then (some false) else (if (((rd_T59 x9 x11).f1).length : Int) > 64 then (some false) else ((payload_inside.f k ((rd_T59 x9 x11).f1)).bind fun t169 => (if t169 = true then (payload_may.l0 k x9 x10 (wrap64 (x11 + 1)) x166000 x166001 x166002) else (some false))))) else (none)) else (none)) else ((api_Field_60.f k x166002 61).bind fun t170 => (some (!t170)))
def payload_may.f (k : Nat) (a0_0 : Int) (l0_1 : List (S59)) (l0_2 : List (S61)) : Option (Bool) := (payload_shape.f k a0_0 l0_1 l0_2).bind fun t166 => (if t166 = true then (payload_may.l0 k l0_1 (l0_1.length : Int) 0 a0_0 l0_1 l0_2) else (some false))
theorem payload_may.mono_l : ∀ k, (∀ y0 y1 y2 y3 y4 y5, LeO (payload_may.l0 k y0 y1 y2 y3 y4 y5) (payload_may.l0 (k + 1) y0 y1 y2 y3 y4 y5))
 | 0 => fun _ _ _ _ _ _ r h => by simp [payload_may.l0] at h
 | k + 1 => by
  have ih0 := payload_may.mono_l k
  ·intro y0 y1 y2 y3 y4 y5
   unfold payload_may.l0
   repeat' first
   | (with_reducible exact ih0 _ _ _ _ _ _)
   | (with_reducible exact api_Field_60.mono _ _ _)
   | (with_reducible exact payload_inside.mono _ _)
   | (with_reducible exact payload_shape.mono _ _ _ _)
   | (with_reducible exact LeO.refl _)
   | (with_reducible exact LeO.none _)
   | (with_reducible refine LeO.ite ?_ ?_)
   | (with_reducible refine LeO.bind ?_ (fun _ => ?_))
   | exact ih0 _ _ _ _ _ _
   | exact api_Field_60.mono _ _ _
   | exact payload_inside.mono _ _
   | exact payload_shape.mono _ _ _ _
   | exact LeO.none _
   | refine LeO.ite ?_ ?_
   | refine LeO.bind ?_ (fun _ => ?_)
theorem payload_may.mono : ∀ a0 a1 a2 k, LeO (payload_may.f k a0 a1 a2) (payload_may.f (k + 1) a0 a1 a2) := by
 intro a0 a1 a2 k
 have ih0 := payload_may.mono_l k
 unfold payload_may.f
 repeat' first
   | (with_reducible exact ih0 _ _ _ _ _ _)
   | (with_reducible exact api_Field_60.mono _ _ _)
   | (with_reducible exact payload_inside.mono _ _)
   | (with_reducible exact payload_shape.mono _ _ _ _)
   | (with_reducible exact LeO.refl _)
   | (with_reducible exact LeO.none _)
   | (with_reducible refine LeO.ite ?_ ?_)
   | (with_reducible refine LeO.bind ?_ (fun _ => ?_))
   | exact ih0 _ _ _ _ _ _
   | exact api_Field_60.mono _ _ _
   | exact payload_inside.mono _ _
   | exact payload_shape.mono _ _ _ _
   | exact LeO.none _
   | refine LeO.ite ?_ ?_
   | refine LeO.bind ?_ (fun _ => ?_)
set_option maxHeartbeats 8000000 in
set_option maxRecDepth 100000 in
theorem payload_may.calls (k : Nat) (a0_0 : Int) (A0_1 : Option Addr) (c0_1 : Nat) (l0_1 : List (S59)) (A0_2 : Option Addr) (c0_2 : Nat) (l0_2 : List (S61)) (r : Bool) (w : World) (hr0_1 : Kd.C k59 w A0_1 l0_1.length l0_1) (hc0_1 : l0_1.length ≤ c0_1) (hr0_2 : Kd.C k61 w A0_2 l0_2.length l0_2) (hc0_2 : l0_2.length ≤ c0_2) (hU : LaidU w) (h : payload_may.f k a0_0 l0_1 l0_2 = some r) :
  Calls Tryd.prog 30 #[.agg #[.int .i64 a0_0, .slice A0_1 l0_1.length c0_1, .slice A0_2 l0_2.length c0_2]] w fun e w' => e = .returned (.bool r) ∧ Below w.heap.size w w' := by
 have hu25 := Tryd.underlying25
 have hu59 := Tryd.underlying59
 have HU := Aside0.mk hU
 clear hU
 have HR0_1 := Aside0.mk hr0_1
 have HC0_1 := Aside0.mk hc0_1
 clear hr0_1 hc0_1
 have HR0_2 := Aside0.mk hr0_2
 have HC0_2 := Aside0.mk hc0_2
 clear hr0_2 hc0_2
 have HB := Aside0.mk (Below.refl w.heap.size w)
 have H : ((payload_shape.f k a0_0 l0_1 l0_2).bind fun t166 => (if t166 = true then (payload_may.l0 k l0_1 (l0_1.length : Int) 0 a0_0 l0_1 l0_2) else (some false))) = some r := h
 clear h
 replace H := Option.bind_eq_some_iff.mp H
 obtain ⟨t166, A20, H⟩ := H
 replace H : (if t166 = true then (payload_may.l0 k l0_1 (l0_1.length : Int) 0 a0_0 l0_1 l0_2) else (some false)) = some r := H
 have A2 := Aside0.mk A20
 clear A20
 by_cases c3 : t166 = true
 ·subst c3
  have H1 : (payload_may.l0 k l0_1 (l0_1.length : Int) 0 a0_0 l0_1 l0_2) = some r := by rw [if_pos rfl] at H; exact H
  clear H
  have H := H1
  clear H1
  have H' := Aside0.mk H
  clear H
  go_enter Tryd.func30, Tryd.ntmps30
  go_wp2_with (first | ((with_reducible refine gate_dst (N := 1) rfl ?_); (try (refine gate_guard (by rfl) ?_; dsimp only)); refine box_event ?hg (N := 1) ?hd (cs := #[.int .i64 a0_0, .slice A0_1 l0_1.length c0_1, .slice A0_2 l0_2.length c0_2]) (t := 25) ?hr ?_; (case hd => rfl); (case hg => rfl); (case hr => first | (go_simp; done) | (go_simp; rfl)); intro gb165 hg w4 hbox hb; have BK165 := Aside0.mk (hbox); have GW165 := Aside0.mk (gs (w := w) hg (bl HB.out)); have GE165 := Aside0.mk (gs (w := w) hg (bl HB.out)); replace HB := Aside0.mk (below_step (bl HB.out) hb); clear hb hbox hg; obtain ⟨hcz5_0, hcz5_1, hcz5_2, hfz5_0, hfz5_1, hfz5_2⟩ := cz3 BK165.out) | ((with_reducible refine gate_callee (f := 52) rfl ?_); refine goesL_ (some 6) rfl rfl Tryd.func52 kr rfl #[.agg #[.int .i64 a0_0, .slice A0_1 l0_1.length c0_1, .slice A0_2 l0_2.length c0_2]] rfl ga ?_; (with_reducible refine (payload_shape.calls k a0_0 _ _ l0_1 _ _ l0_2 true _ ?side1 ?side2 ?side3 ?side4 A2.out).mono ?_); (case side1 => repeat (first | exact (Kd.C_below HR0_1.out HB.out) | (with_reducible refine Kd.C_alloc ?_ _) | (with_reducible refine Kd.C_drewN ?_ _) | (with_reducible refine Kd.C_drew ?_))); (case side2 => exact HC0_1.out); (case side3 => repeat (first | exact (Kd.C_below HR0_2.out HB.out) | (with_reducible refine Kd.C_alloc ?_ _) | (with_reducible refine Kd.C_drewN ?_ _) | (with_reducible refine Kd.C_drew ?_))); (case side4 => exact HC0_2.out); rintro e w6 ⟨rfl, hb⟩; refine ⟨_, rfl, ?_⟩; replace BK165 := Aside0.mk (blk_below (pk BK165.out) hb); replace HB := Aside0.mk (below_step (bl HB.out) hb); (try clear hb); (try clear hb2); (try clear hk); (try clear hi); obtain ⟨hcz7_0, hcz7_1, hcz7_2, hfz7_0, hfz7_1, hfz7_2⟩ := cz3 BK165.out))
  go_loopg [11] k (fun kq v11 w' => ∃ (x11_1 : Int), v11 = .int .i64 x11_1 ∧ Aside0 (payload_may.l0 kq l0_1 (l0_1.length : Int) x11_1 a0_0 l0_1 l0_2 = some r) ∧ Aside0 (kq ≤ k) ∧ Aside0 (w'.heap[gb165]? = some (.cells #[.int .i64 a0_0, (.slice A0_1 l0_1.length c0_1), (.slice A0_2 l0_2.length c0_2)] 25 (0, 0))) ∧ Aside0 (Below w.heap.size w w'))
  case atStart => exact ⟨(0), hsr, H', ⟨Nat.le_refl _⟩, ⟨pk BK165.out⟩, ⟨bl HB.out⟩⟩
  case round =>
   clear H'
   try clear p2
   try clear c3
   try clear c5
   try clear p6
   try clear hcz7_0 hcz7_1 hcz7_2 hfz7_0 hfz7_1 hfz7_2
   try clear hcz5_0 hcz5_1 hcz5_2 hfz5_0 hfz5_1 hfz5_2
   obtain ⟨x11_1, rfl, HA, HK1, BK165, HB⟩ := hrel
   cases gk with
   | zero => exact absurd HA.out (by simp [payload_may.l0])
   | succ k1 =>
    have H := HA.out
    clear HA
    simp only [payload_may.l0] at H
    by_cases c8 : x11_1 < (l0_1.length : Int)
    ·rw [if_pos c8] at H
     have c8b0 : decide (x11_1 < (l0_1.length : Int)) = true := decide_eq_true c8
     clear c8
     by_cases c9 : 0 ≤ x11_1
     ·rw [if_pos c9] at H
      have c9b0 : decide (0 ≤ x11_1) = true := decide_eq_true c9
      clear c9
      by_cases c10 : x11_1 < (l0_1.length : Int)
      ·rw [if_pos c10] at H
       have c10b0 : decide (x11_1 < (l0_1.length : Int)) = true := decide_eq_true c10
       clear c10
       by_cases c11 : (((rd_T59 l0_1 x11_1).f1).length : Int) < 1
       ·rw [if_pos c11] at H
        have c11b0 : decide ((((rd_T59 l0_1 x11_1).f1).length : Int) < 1) = true := decide_eq_true c11
        have c11b1 : decide (((rd_T59 l0_1 x11_1).f1).length < 1) = true := decide_eq_true (by omega)
        clear c11
        obtain rfl := Option.some.inj H
        have p167 : 0 ≤ (x11_1 : Int) := of_decide_eq_true ha
        have q167 : x11_1 < (l0_1.length : Int) := of_decide_eq_true ha
        obtain ⟨ad167, A167_1, c167_1, e167, hx167_0, hx167_1, hl167_1, hi167_1⟩ := at_T59 HR0_1.out x11_1 p167 q167
        cases e167
        replace hx167_0 := (HB.out.cell (World.block_lt_of_cell? w _ hx167_0)).trans hx167_0
        replace hx167_1 := (HB.out.cell (World.block_lt_of_cell? w _ hx167_1)).trans hx167_1
        have HR167_1 := Aside0.mk hi167_1
        have HC167_1 := Aside0.mk hl167_1
        clear hi167_1 hl167_1
        replace p167 := eq_true p167
        replace q167 := eq_true q167
        go_wp2_with (first | ((with_reducible refine gate_dst (N := 4) rfl ?_); (try (refine gate_guard (by rfl) ?_; dsimp only)); refine box_event ?hg (N := 4) ?hd (cs := #[.string (⟨#[]⟩ : ByteArray), .slice none 0 0]) (t := 59) ?hr ?_; (case hd => rfl); (case hg => rfl); (case hr => first | (go_simp; done) | (go_simp; rfl)); intro gb168 hg w12 hbox hb; have BK168 := Aside0.mk (hbox); have GW168 := Aside0.mk (gs (w := w) hg (bl HB.out)); have GE168 := Aside0.mk (gs (w := w) hg (bl HB.out)); replace HB := Aside0.mk (below_step (bl HB.out) hb); have NB165_168 := Aside0.mk ((gl (g := gb165) hg (pk BK165.out))); have NB168_165 := Aside0.mk ((gm (g := gb165) hg (pk BK165.out))); replace BK165 := Aside0.mk (blk_below (pk BK165.out) hb); clear hb hbox hg; have hnb13 := NB168_165.out; have hnc13 := NB165_168.out; obtain ⟨hcz14_0, hcz14_1, hfz14_0, hfz14_1⟩ := cz2 BK168.out))
        go_ret
        exact ⟨er0, bl HB.out⟩
       ·rw [if_neg c11] at H
        have c11b0 : decide ((((rd_T59 l0_1 x11_1).f1).length : Int) < 1) = false := decide_eq_false c11
        have c11b1 : decide (((rd_T59 l0_1 x11_1).f1).length < 1) = false := decide_eq_false (by omega)
        clear c11
        by_cases c15 : (((rd_T59 l0_1 x11_1).f1).length : Int) > 64
        ·rw [if_pos c15] at H
         have c15b0 : decide (64 < (((rd_T59 l0_1 x11_1).f1).length : Int)) = true := decide_eq_true c15
         have c15b1 : decide (64 < ((rd_T59 l0_1 x11_1).f1).length) = true := decide_eq_true (by omega)
         clear c15
         obtain rfl := Option.some.inj H
         have p167 : 0 ≤ (x11_1 : Int) := of_decide_eq_true ha
         have q167 : x11_1 < (l0_1.length : Int) := of_decide_eq_true ha
         obtain ⟨ad167, A167_1, c167_1, e167, hx167_0, hx167_1, hl167_1, hi167_1⟩ := at_T59 HR0_1.out x11_1 p167 q167
         cases e167
         replace hx167_0 := (HB.out.cell (World.block_lt_of_cell? w _ hx167_0)).trans hx167_0
         replace hx167_1 := (HB.out.cell (World.block_lt_of_cell? w _ hx167_1)).trans hx167_1
         have HR167_1 := Aside0.mk hi167_1
         have HC167_1 := Aside0.mk hl167_1
         clear hi167_1 hl167_1
         replace p167 := eq_true p167
         replace q167 := eq_true q167
         go_wp2_with (first | ((with_reducible refine gate_dst (N := 4) rfl ?_); (try (refine gate_guard (by rfl) ?_; dsimp only)); refine box_event ?hg (N := 4) ?hd (cs := #[.string (⟨#[]⟩ : ByteArray), .slice none 0 0]) (t := 59) ?hr ?_; (case hd => rfl); (case hg => rfl); (case hr => first | (go_simp; done) | (go_simp; rfl)); intro gb168 hg w16 hbox hb; have BK168 := Aside0.mk (hbox); have GW168 := Aside0.mk (gs (w := w) hg (bl HB.out)); have GE168 := Aside0.mk (gs (w := w) hg (bl HB.out)); replace HB := Aside0.mk (below_step (bl HB.out) hb); have NB165_168 := Aside0.mk ((gl (g := gb165) hg (pk BK165.out))); have NB168_165 := Aside0.mk ((gm (g := gb165) hg (pk BK165.out))); replace BK165 := Aside0.mk (blk_below (pk BK165.out) hb); clear hb hbox hg; have hnb17 := NB168_165.out; have hnc17 := NB165_168.out; obtain ⟨hcz18_0, hcz18_1, hfz18_0, hfz18_1⟩ := cz2 BK168.out))
         go_ret
         exact ⟨er0, bl HB.out⟩
        ·rw [if_neg c15] at H
         have c15b0 : decide (64 < (((rd_T59 l0_1 x11_1).f1).length : Int)) = false := decide_eq_false c15
         have c15b1 : decide (64 < ((rd_T59 l0_1 x11_1).f1).length) = false := decide_eq_false (by omega)
         clear c15
         replace H := Option.bind_eq_some_iff.mp H
         obtain ⟨t169, A190, H⟩ := H
         replace H : (if t169 = true then (payload_may.l0 k1 l0_1 (l0_1.length : Int) (wrap64 (x11_1 + 1)) a0_0 l0_1 l0_2) else (some false)) = some r := H
         have A19 := Aside0.mk A190
         clear A190
         by_cases c20 : t169 = true
         ·subst c20
          have H1 : (payload_may.l0 k1 l0_1 (l0_1.length : Int) (wrap64 (x11_1 + 1)) a0_0 l0_1 l0_2) = some r := by rw [if_pos rfl] at H; exact H
          clear H
          have H := H1
          clear H1
          have H' := Aside0.mk H
          clear H
          have p167 : 0 ≤ (x11_1 : Int) := of_decide_eq_true ha
          have q167 : x11_1 < (l0_1.length : Int) := of_decide_eq_true ha
          obtain ⟨ad167, A167_1, c167_1, e167, hx167_0, hx167_1, hl167_1, hi167_1⟩ := at_T59 HR0_1.out x11_1 p167 q167
          cases e167
          replace hx167_0 := (HB.out.cell (World.block_lt_of_cell? w _ hx167_0)).trans hx167_0
          replace hx167_1 := (HB.out.cell (World.block_lt_of_cell? w _ hx167_1)).trans hx167_1
          have HR167_1 := Aside0.mk hi167_1
          have HC167_1 := Aside0.mk hl167_1
          clear hi167_1 hl167_1
          replace p167 := eq_true p167
          replace q167 := eq_true q167
          go_wp2_with (first | ((with_reducible refine gate_dst (N := 4) rfl ?_); (try (refine gate_guard (by rfl) ?_; dsimp only)); refine box_event ?hg (N := 4) ?hd (cs := #[.string (⟨#[]⟩ : ByteArray), .slice none 0 0]) (t := 59) ?hr ?_; (case hd => rfl); (case hg => rfl); (case hr => first | (go_simp; done) | (go_simp; rfl)); intro gb168 hg w21 hbox hb; have BK168 := Aside0.mk (hbox); have GW168 := Aside0.mk (gs (w := w) hg (bl HB.out)); have GE168 := Aside0.mk (gs (w := w) hg (bl HB.out)); replace HB := Aside0.mk (below_step (bl HB.out) hb); have NB165_168 := Aside0.mk ((gl (g := gb165) hg (pk BK165.out))); have NB168_165 := Aside0.mk ((gm (g := gb165) hg (pk BK165.out))); replace BK165 := Aside0.mk (blk_below (pk BK165.out) hb); clear hb hbox hg; have hnb22 := NB168_165.out; have hnc22 := NB165_168.out; obtain ⟨hcz23_0, hcz23_1, hfz23_0, hfz23_1⟩ := cz2 BK168.out) | (go_at_call 59; (with_reducible refine (payload_inside.calls k1 _ _ ((rd_T59 l0_1 x11_1).f1) true _ ?side1 ?side2 A19.out).mono ?_); (case side1 => exact Kd.C_below HR167_1.out (bl HB.out)); (case side2 => exact HC167_1.out); rintro e w' ⟨rfl, ⟨nd, rfl⟩⟩))
          go_roundg k1
          case measure => have := HK1.out; omega
          case rel => exact ⟨(wrap64 (x11_1 + 1)), hsr, H', ⟨by have := HK1.out; omega⟩, ⟨by refine pk ?_; refine blk_far ?_ NB165_168.out _; refine pk ?_; refine blk_far ?_ NB165_168.out _; exact pk BK165.out⟩, ⟨bl HB.out⟩⟩
         ·replace c20 := Bool.eq_false_iff.mpr c20
          subst c20
          have H1 : (some false) = some r := by rw [if_neg (show ¬ (false = true) by decide)] at H; exact H
          clear H
          have H := H1
          clear H1
          obtain rfl := Option.some.inj H
          have p167 : 0 ≤ (x11_1 : Int) := of_decide_eq_true ha
          have q167 : x11_1 < (l0_1.length : Int) := of_decide_eq_true ha
          obtain ⟨ad167, A167_1, c167_1, e167, hx167_0, hx167_1, hl167_1, hi167_1⟩ := at_T59 HR0_1.out x11_1 p167 q167
          cases e167
          replace hx167_0 := (HB.out.cell (World.block_lt_of_cell? w _ hx167_0)).trans hx167_0
          replace hx167_1 := (HB.out.cell (World.block_lt_of_cell? w _ hx167_1)).trans hx167_1
          have HR167_1 := Aside0.mk hi167_1
          have HC167_1 := Aside0.mk hl167_1
          clear hi167_1 hl167_1
          replace p167 := eq_true p167
          replace q167 := eq_true q167
          go_wp2_with (first | ((with_reducible refine gate_dst (N := 4) rfl ?_); (try (refine gate_guard (by rfl) ?_; dsimp only)); refine box_event ?hg (N := 4) ?hd (cs := #[.string (⟨#[]⟩ : ByteArray), .slice none 0 0]) (t := 59) ?hr ?_; (case hd => rfl); (case hg => rfl); (case hr => first | (go_simp; done) | (go_simp; rfl)); intro gb168 hg w24 hbox hb; have BK168 := Aside0.mk (hbox); have GW168 := Aside0.mk (gs (w := w) hg (bl HB.out)); have GE168 := Aside0.mk (gs (w := w) hg (bl HB.out)); replace HB := Aside0.mk (below_step (bl HB.out) hb); have NB165_168 := Aside0.mk ((gl (g := gb165) hg (pk BK165.out))); have NB168_165 := Aside0.mk ((gm (g := gb165) hg (pk BK165.out))); replace BK165 := Aside0.mk (blk_below (pk BK165.out) hb); clear hb hbox hg; have hnb25 := NB168_165.out; have hnc25 := NB165_168.out; obtain ⟨hcz26_0, hcz26_1, hfz26_0, hfz26_1⟩ := cz2 BK168.out) | (go_at_call 59; (with_reducible refine (payload_inside.calls k1 _ _ ((rd_T59 l0_1 x11_1).f1) false _ ?side1 ?side2 A19.out).mono ?_); (case side1 => exact Kd.C_below HR167_1.out (bl HB.out)); (case side2 => exact HC167_1.out); rintro e w' ⟨rfl, ⟨nd, rfl⟩⟩))
          go_ret
          exact ⟨er0, bl HB.out⟩
      ·rw [if_neg c10] at H
       exact absurd H (by simp)
     ·rw [if_neg c9] at H
      exact absurd H (by simp)
    ·rw [if_neg c8] at H
     have c8b0 : decide (x11_1 < (l0_1.length : Int)) = false := decide_eq_false c8
     clear c8
     replace H := Option.bind_eq_some_iff.mp H
     obtain ⟨t170, A270, H⟩ := H
     replace H : (some (!t170)) = some r := H
     have A27 := Aside0.mk A270
     clear A270
     obtain rfl := Option.some.inj H
     obtain ⟨hcz28_0, hcz28_1, hcz28_2, hfz28_0, hfz28_1, hfz28_2⟩ := cz3 BK165.out
     go_wp2_with (first | ((with_reducible refine gate_callee (f := 60) rfl ?_); refine goesL_ (some 34) rfl rfl Tryd.func60 kr rfl #[.slice A0_2 l0_2.length c0_2, .func (.func 61) #[] #[]] rfl ga ?_; (with_reducible refine (api_Field_60.calls k1 _ _ l0_2 61 t170 _ ?side1 ?side2 ?side3 A27.out).mono ?_); (case side1 => repeat (first | exact (Kd.C_below HR0_2.out HB.out) | (with_reducible refine Kd.C_alloc ?_ _) | (with_reducible refine Kd.C_drewN ?_ _) | (with_reducible refine Kd.C_drew ?_))); (case side2 => exact HC0_2.out); (case side3 => exact LaidU.below HU.out (bl HB.out)); rintro e w29 ⟨rfl, hb⟩; refine ⟨_, rfl, ?_⟩; replace BK165 := Aside0.mk (blk_below (pk BK165.out) hb); replace HB := Aside0.mk (below_step (bl HB.out) hb); (try clear hb); (try clear hb2); (try clear hk); (try clear hi)))
     go_ret
     exact ⟨er0, bl HB.out⟩
 ·replace c3 := Bool.eq_false_iff.mpr c3
  subst c3
  have H1 : (some false) = some r := by rw [if_neg (show ¬ (false = true) by decide)] at H; exact H
  clear H
  have H := H1
  clear H1
  obtain rfl := Option.some.inj H
  go_enter Tryd.func30, Tryd.ntmps30
  go_wp2_with (first | ((with_reducible refine gate_dst (N := 1) rfl ?_); (try (refine gate_guard (by rfl) ?_; dsimp only)); refine box_event ?hg (N := 1) ?hd (cs := #[.int .i64 a0_0, .slice A0_1 l0_1.length c0_1, .slice A0_2 l0_2.length c0_2]) (t := 25) ?hr ?_; (case hd => rfl); (case hg => rfl); (case hr => first | (go_simp; done) | (go_simp; rfl)); intro gb165 hg w30 hbox hb; have BK165 := Aside0.mk (hbox); have GW165 := Aside0.mk (gs (w := w) hg (bl HB.out)); have GE165 := Aside0.mk (gs (w := w) hg (bl HB.out)); replace HB := Aside0.mk (below_step (bl HB.out) hb); clear hb hbox hg; obtain ⟨hcz31_0, hcz31_1, hcz31_2, hfz31_0, hfz31_1, hfz31_2⟩ := cz3 BK165.out) | ((with_reducible refine gate_callee (f := 52) rfl ?_); refine goesL_ (some 6) rfl rfl Tryd.func52 kr rfl #[.agg #[.int .i64 a0_0, .slice A0_1 l0_1.length c0_1, .slice A0_2 l0_2.length c0_2]] rfl ga ?_; (with_reducible refine (payload_shape.calls k a0_0 _ _ l0_1 _ _ l0_2 false _ ?side1 ?side2 ?side3 ?side4 A2.out).mono ?_); (case side1 => repeat (first | exact (Kd.C_below HR0_1.out HB.out) | (with_reducible refine Kd.C_alloc ?_ _) | (with_reducible refine Kd.C_drewN ?_ _) | (with_reducible refine Kd.C_drew ?_))); (case side2 => exact HC0_1.out); (case side3 => repeat (first | exact (Kd.C_below HR0_2.out HB.out) | (with_reducible refine Kd.C_alloc ?_ _) | (with_reducible refine Kd.C_drewN ?_ _) | (with_reducible refine Kd.C_drew ?_))); (case side4 => exact HC0_2.out); rintro e w32 ⟨rfl, hb⟩; refine ⟨_, rfl, ?_⟩; replace BK165 := Aside0.mk (blk_below (pk BK165.out) hb); replace HB := Aside0.mk (below_step (bl HB.out) hb); (try clear hb); (try clear hb2); (try clear hk); (try clear hi)))
  go_ret
  exact ⟨er0, bl HB.out⟩

/-! ### num_Fix: function 62 -/
mutual
def num_Fix.j0 : Nat → Int → Int → Bool → Option (ByteArray × Int)
 | 0, _, _, _ => none
 | k + 1, x0, x1, x24 => if x24 = true then (some ((⟨#[]⟩ : ByteArray), 11)) else (if 0 ≤ x1 then (if (x1 : Int).toNat ≤ 281474976710656 then ((some (List.replicate (x1 : Int).toNat 0 : List Int)).bind fun y171 => (num_Fix.l0 k x0 y171 (y171.length : Int) 0)) else (none)) else (none))
def num_Fix.l0 : Nat → Int → List Int → Int → Int → Option (ByteArray × Int)
 | 0, _, _, _, _ => none
 | k + 1, x0, x6, x28, x29 => if x29 < x28 then (if 0 ≤ (wrap64 (8 * x29)) then (if 0 ≤ x29 then (if x29 < (x6.length : Int) then (num_Fix.l0 k x0 (x6.set (x29 : Int).toNat ((shr .u64 x0 (wrap64 (8 * x29))) % 256)) x28 (wrap64 (x29 + 1))) else (none)) else (none)) else (none)) else (some (strOfNums x6, 0))
end
def num_Fix.f (k : Nat) (a0 : Int) (a1 : Int) : Option (ByteArray × Int) := if a1 < 1 then (num_Fix.j0 k a0 a1 true) else (if a1 > 8 then (num_Fix.j0 k a0 a1 true) else (if a1 < 8 then (if 0 ≤ (wrap64 (8 * a1)) then (num_Fix.j0 k a0 a1 ((shr .u64 a0 (wrap64 (8 * a1))) != 0)) else (none)) else (num_Fix.j0 k a0 a1 false)))
theorem num_Fix.mono_l : ∀ k, (∀ y0 y1 y2, LeO (num_Fix.j0 k y0 y1 y2) (num_Fix.j0 (k + 1) y0 y1 y2)) ∧ (∀ y0 y1 y2 y3, LeO (num_Fix.l0 k y0 y1 y2 y3) (num_Fix.l0 (k + 1) y0 y1 y2 y3))
 | 0 => ⟨fun _ _ _ r h => by simp [num_Fix.j0] at h, fun _ _ _ _ r h => by simp [num_Fix.l0] at h⟩
 | k + 1 => by
  obtain ⟨ih0, ih1⟩ := num_Fix.mono_l k
  refine ⟨?_, ?_⟩
  all_goals intros
  all_goals first | unfold num_Fix.j0 | unfold num_Fix.l0
  all_goals repeat' first
   | (with_reducible exact ih0 _ _ _)
   | (with_reducible exact ih1 _ _ _ _)
   | (with_reducible exact LeO.refl _)
   | (with_reducible exact LeO.none _)
   | (with_reducible refine LeO.ite ?_ ?_)
   | (with_reducible refine LeO.bind ?_ (fun _ => ?_))
   | exact ih0 _ _ _
   | exact ih1 _ _ _ _
   | exact LeO.none _
   | refine LeO.ite ?_ ?_
   | refine LeO.bind ?_ (fun _ => ?_)
theorem num_Fix.mono : ∀ a0 a1 k, LeO (num_Fix.f k a0 a1) (num_Fix.f (k + 1) a0 a1) := by
 intro a0 a1 k
 obtain ⟨ih0, ih1⟩ := num_Fix.mono_l k
 unfold num_Fix.f
 repeat' first
   | (with_reducible exact ih0 _ _ _)
   | (with_reducible exact ih1 _ _ _ _)
   | (with_reducible exact LeO.refl _)
   | (with_reducible exact LeO.none _)
   | (with_reducible refine LeO.ite ?_ ?_)
   | (with_reducible refine LeO.bind ?_ (fun _ => ?_))
   | exact ih0 _ _ _
   | exact ih1 _ _ _ _
   | exact LeO.none _
   | refine LeO.ite ?_ ?_
   | refine LeO.bind ?_ (fun _ => ?_)
set_option maxHeartbeats 8000000 in
set_option maxRecDepth 100000 in
theorem num_Fix.calls (k : Nat) (a0 : Int) (a1 : Int) (r1 : ByteArray) (r2 : Int) (w : World) (h : num_Fix.f k a0 a1 = some (r1, r2)) :
  Calls Tryd.prog 62 #[.int .u64 a0, .int .i64 a1] w fun e w' => e = .returned (.tuple #[.string r1, .int .i64 r2]) ∧ Below w.heap.size w w' := by
 have HB := Aside0.mk (Below.refl w.heap.size w)
 have H : (if a1 < 1 then (num_Fix.j0 k a0 a1 true) else (if a1 > 8 then (num_Fix.j0 k a0 a1 true) else (if a1 < 8 then (if 0 ≤ (wrap64 (8 * a1)) then (num_Fix.j0 k a0 a1 ((shr .u64 a0 (wrap64 (8 * a1))) != 0)) else (none)) else (num_Fix.j0 k a0 a1 false)))) = some (r1, r2) := h
 clear h
 have HC3 := Aside0.mk H
 clear H
 go_enter Tryd.func62, Tryd.ntmps62
 go_upto_region 1 with (fail)
 go_cut [24] (fun v24 wc => ∃ (kq : Nat) (x24_2 : Bool), v24 = .bool x24_2 ∧ Aside0 (num_Fix.j0 kq a0 a1 x24_2 = some (r1, r2)) ∧ Aside0 (kq ≤ k) ∧ Aside0 (Below w.heap.size w wc))
 case first =>
  have H := HC3.out
  clear HC3
  by_cases c4 : a1 < 1
  ·rw [if_pos c4] at H
   have c4b0 : decide (a1 < 1) = true := decide_eq_true c4
   clear c4
   (first | rw [c4b0] | (simp only [i64_w, i32_w]; rw [c4b0]) | skip)
   have H' := Aside0.mk H
   clear H
   go_wp2
   go_meet
   case rel => exact ⟨_, (true), hsr, H', ⟨by first | omega | exact Nat.le_refl _⟩, ⟨bl HB.out⟩⟩
  ·rw [if_neg c4] at H
   have c4b0 : decide (a1 < 1) = false := decide_eq_false c4
   clear c4
   (first | rw [c4b0] | (simp only [i64_w, i32_w]; rw [c4b0]) | skip)
   by_cases c5 : a1 > 8
   ·rw [if_pos c5] at H
    have c5b0 : decide (8 < a1) = true := decide_eq_true c5
    clear c5
    have H' := Aside0.mk H
    clear H
    go_wp2
    go_meet
    case rel => exact ⟨_, (true), hsr, H', ⟨by first | omega | exact Nat.le_refl _⟩, ⟨bl HB.out⟩⟩
   ·rw [if_neg c5] at H
    have c5b0 : decide (8 < a1) = false := decide_eq_false c5
    clear c5
    by_cases c6 : a1 < 8
    ·rw [if_pos c6] at H
     have c6b0 : decide (a1 < 8) = true := decide_eq_true c6
     clear c6
     obtain ⟨ji7, hji7⟩ : ∃ j_ : Int, (wrap64 (8 * a1)) = j_ := ⟨_, rfl⟩
     replace H : (if 0 ≤ (ji7) then (num_Fix.j0 k a0 a1 ((shr .u64 a0 (ji7)) != 0)) else (none)) = some (r1, r2) := by first | (rw [hji7] at H; exact H) | (simp only [hji7] at H ⊢; exact H)
     have hji7w : (IntKind.i64.wrap (8 * a1)) = ji7 := (i64_w _).trans hji7
     by_cases c8 : 0 ≤ (ji7)
     ·rw [if_pos c8] at H
      have c8b0 := eq_true c8
      have c8b1 : decide (0 ≤ (ji7)) = true := decide_eq_true c8
      clear c8
      obtain ⟨ji9, hji9⟩ : ∃ j_ : Int, (shr .u64 a0 (ji7)) = j_ := ⟨_, rfl⟩
      replace H : (num_Fix.j0 k a0 a1 ((ji9) != 0)) = some (r1, r2) := by first | (rw [hji9] at H; exact H) | (simp only [hji9] at H ⊢; exact H)
      have hji9_ : (a0 / 2 ^ min (ji7).toNat 64) = ji9 := hji9
      have hji9z : (ji7) ≤ 64 → (a0 / 2 ^ (ji7).toNat) = ji9 := shr_small hji9
      have H' := Aside0.mk H
      clear H
      go_wp2
      go_meet
      case rel => exact ⟨_, (((ji9) != 0)), (by first | rfl | (simp; done) | (simp only [← hji9] <;> (first | rfl | simp)) | (simp [*]; done)), H', ⟨by first | omega | exact Nat.le_refl _⟩, ⟨bl HB.out⟩⟩
     ·rw [if_neg c8] at H
      exact absurd H (by simp)
    ·rw [if_neg c6] at H
     have c6b0 : decide (a1 < 8) = false := decide_eq_false c6
     clear c6
     have H' := Aside0.mk H
     clear H
     go_wp2
     go_meet
     case rel => exact ⟨_, (false), hsr, H', ⟨by first | omega | exact Nat.le_refl _⟩, ⟨bl HB.out⟩⟩
 case rest =>
  clear HC3
  try clear p2
  try clear c4
  try clear c4b0
  try clear c5
  try clear c5b0
  try clear c6
  try clear c6b0
  try clear p6
  try clear c8
  try clear c8b0
  try clear c8b1
  obtain ⟨kq, x24_2, rfl, HA, HJ2, HB⟩ := hcut
  cases kq with
  | zero => exact absurd HA.out (by simp [num_Fix.j0])
  | succ kj2 =>
   have H := HA.out
   clear HA
   simp only [num_Fix.j0] at H
   by_cases c10 : x24_2 = true
   ·subst c10
    have H1 : (some ((⟨#[]⟩ : ByteArray), 11)) = some (r1, r2) := by rw [if_pos rfl] at H; exact H
    clear H
    have H := H1
    clear H1
    simp only [Option.some.injEq, Prod.mk.injEq] at H
    obtain ⟨rfl, rfl⟩ := H
    go_wp2
    go_ret2
    exact ⟨er0, bl HB.out⟩
   ·replace c10 := Bool.eq_false_iff.mpr c10
    subst c10
    have H1 : (if 0 ≤ a1 then (if (a1 : Int).toNat ≤ 281474976710656 then ((some (List.replicate (a1 : Int).toNat 0 : List Int)).bind fun y171 => (num_Fix.l0 kj2 a0 y171 (y171.length : Int) 0)) else (none)) else (none)) = some (r1, r2) := by rw [if_neg (show ¬ (false = true) by decide)] at H; exact H
    clear H
    have H := H1
    clear H1
    by_cases c11 : 0 ≤ a1
    ·rw [if_pos c11] at H
     have c11b0 := eq_true c11
     have c11b1 : decide (0 ≤ a1) = true := decide_eq_true c11
     clear c11
     by_cases c12 : (a1 : Int).toNat ≤ 281474976710656
     ·rw [if_pos c12] at H
      have c12b0 := eq_true c12
      have c12b1 : decide ((a1 : Int).toNat ≤ 281474976710656) = true := decide_eq_true c12
      clear c12
      obtain ⟨y171, hy171⟩ : ∃ y_ : List Int, y_ = (List.replicate (a1 : Int).toNat 0) := ⟨_, rfl⟩
      replace H : (num_Fix.l0 kj2 a0 y171 (y171.length : Int) 0) = some (r1, r2) := by first | (rw [hy171]; with_reducible exact H) | (have H2_ := (Option.bind_some _ _).symm.trans H; rw [hy171]; with_reducible exact H2_) | (have H2_ := (Option.bind_some _ _).symm.trans H; with_reducible exact H2_) | with_reducible exact H | (rw [hy171]; exact H) | exact H
      have Ny171 := Aside0.mk hy171
      clear hy171
      have H' := Aside0.mk H
      clear H
      go_wp2_with (first | ((with_reducible refine gate_dst (N := 26) rfl ?_); refine Kd.R_make (Kd.int .u8) _ 5 rfl (N := 26) rfl 66 _ _ rfl a1 rfl rfl Tryd.underlying66 (.int .u8 0) 1 info5 rfl (by decide) (by omega) 0 (ok := fun _ => True) (okp := fun _ => True) rfl (fun _ hk => hk) trivial (of_decide_eq_true ha) (Nat.le_trans (Nat.mul_le_mul_right _ (of_decide_eq_true ha : a1.toNat ≤ 281474976710656)) (by omega)) (Below.refl _ _) (Nat.le_refl _) ?_; intro v172 w13 ho14 hb hg_ hnew_; clear hg_ hnew_; (first | rw [← Ny171.out] at ho14 | (simp only [Int.reduceToNat] at ho14; rw [← Ny171.out] at ho14)); have HO173 := Aside0.mk (Kd.R_lower ho14 (below_size (bl HB.out))); replace HB := Aside0.mk (below_step (bl HB.out) hb); clear hb ho14; obtain ⟨Ao15, co15, eo15⟩ := Kd.R_slice HO173.out; subst eo15))
      go_loopg [29] kj2 (fun kq v29 w' => ∃ (x6_2 : List Int) (x29_2 : Int), v29 = .int .i64 x29_2 ∧ Aside0 (num_Fix.l0 kq a0 x6_2 (y171.length : Int) x29_2 = some (r1, r2)) ∧ Aside0 (kq ≤ kj2) ∧ Aside0 (Kd.R (Kd.int .u8) 5 w' w.heap.size (fun _ => True) (.slice Ao15 y171.length co15) x6_2) ∧ Aside0 (Below w.heap.size w w'))
      case atStart => exact ⟨(y171), (0), hsr, H', ⟨Nat.le_refl _⟩, ⟨pR HO173.out⟩, ⟨bl HB.out⟩⟩
      case round =>
       clear H'
       try clear c1
       try clear p2
       try clear c4
       try clear c4b0
       try clear c5
       try clear c5b0
       try clear c6
       try clear c6b0
       try clear p6
       try clear c8
       try clear c8b0
       try clear c8b1
       try clear c10
       try clear c11
       try clear c11b0
       try clear c11b1
       try clear c12
       try clear c12b0
       try clear c12b1
       try clear p2
       try clear p6
       obtain ⟨x6_2, x29_2, rfl, HA, HK2, HO_6, HB⟩ := hrel
       have hl6_2 := (Kd.R_reads' HO_6.out).1
       rw [hl6_2] at HO_6
       (try simp only [hl6_2])
       cases gk with
       | zero => exact absurd HA.out (by simp [num_Fix.l0])
       | succ k2 =>
        have H := HA.out
        clear HA
        simp only [num_Fix.l0] at H
        by_cases c16 : x29_2 < (y171.length : Int)
        ·rw [if_pos c16] at H
         have c16b0 : decide (x29_2 < (y171.length : Int)) = true := decide_eq_true c16
         (try (have c16y0 := c16b0; simp only [hl6_2] at c16y0))
         clear c16
         obtain ⟨ji17, hji17⟩ : ∃ j_ : Int, (wrap64 (8 * x29_2)) = j_ := ⟨_, rfl⟩
         replace H : (if 0 ≤ (ji17) then (if 0 ≤ x29_2 then (if x29_2 < (x6_2.length : Int) then (num_Fix.l0 k2 a0 (x6_2.set (x29_2 : Int).toNat ((shr .u64 a0 (ji17)) % 256)) (y171.length : Int) (wrap64 (x29_2 + 1))) else (none)) else (none)) else (none)) = some (r1, r2) := by first | (rw [hji17] at H; exact H) | (simp only [hji17] at H ⊢; exact H)
         have hji17w : (IntKind.i64.wrap (8 * x29_2)) = ji17 := (i64_w _).trans hji17
         by_cases c18 : 0 ≤ (ji17)
         ·rw [if_pos c18] at H
          have c18b0 := eq_true c18
          have c18b1 : decide (0 ≤ (ji17)) = true := decide_eq_true c18
          clear c18
          obtain ⟨ji19, hji19⟩ : ∃ j_ : Int, (shr .u64 a0 (ji17)) = j_ := ⟨_, rfl⟩
          replace H : (if 0 ≤ x29_2 then (if x29_2 < (x6_2.length : Int) then (num_Fix.l0 k2 a0 (x6_2.set (x29_2 : Int).toNat ((ji19) % 256)) (y171.length : Int) (wrap64 (x29_2 + 1))) else (none)) else (none)) = some (r1, r2) := by first | (rw [hji19] at H; exact H) | (simp only [hji19] at H ⊢; exact H)
          have hji19_ : (a0 / 2 ^ min (ji17).toNat 64) = ji19 := hji19
          have hji19z : (ji17) ≤ 64 → (a0 / 2 ^ (ji17).toNat) = ji19 := shr_small hji19
          by_cases c20 : 0 ≤ x29_2
          ·rw [if_pos c20] at H
           have c20b0 : decide (0 ≤ x29_2) = true := decide_eq_true c20
           (try (have c20y0 := c20b0; simp only [hl6_2] at c20y0))
           clear c20
           by_cases c21 : x29_2 < (x6_2.length : Int)
           ·rw [if_pos c21] at H
            have c21b0 : decide (x29_2 < (x6_2.length : Int)) = true := decide_eq_true c21
            (try (have c21y0 := c21b0; simp only [hl6_2] at c21y0))
            clear c21
            obtain ⟨y174, hy174⟩ : ∃ y_ : List Int, y_ = (x6_2.set (x29_2 : Int).toNat ((ji19) % 256)) := ⟨_, rfl⟩
            replace H : (num_Fix.l0 k2 a0 y174 (y171.length : Int) (wrap64 (x29_2 + 1))) = some (r1, r2) := by first | (rw [hy174]; with_reducible exact H) | (have H2_ := (Option.bind_some _ _).symm.trans H; rw [hy174]; with_reducible exact H2_) | (have H2_ := (Option.bind_some _ _).symm.trans H; with_reducible exact H2_) | with_reducible exact H | (rw [hy174]; exact H) | exact H
            have Ny174 := Aside0.mk hy174
            clear hy174
            have H' := Aside0.mk H
            clear H
            have p22 : 0 ≤ (x29_2 : Int) := of_decide_eq_true ha
            have q22 : (x29_2 : Int) < ((x6_2.length : Int) : Int) := of_decide_eq_true ha
            obtain ⟨go22, co22, eo22, gb22, gl22, cl22, HG22⟩ := Kd.R_form HO_6.out (by omega)
            (first | cases eo22 | (injection eo22 with ea_ en_ ec_; (first | subst ea_ | (injection ea_ with ea_; subst ea_)); subst ec_; clear en_))
            have GB22 := Aside0.mk gb22
            have GG22 := Aside0.mk HG22
            clear gb22 gl22 HG22
            obtain ⟨hx22_0, hf22_0⟩ := Kd.R_celln 0 HO_6.out (x29_2 : Int) p22 q22
            replace p22 := eq_true p22
            replace q22 := eq_true q22
            have HP23 := Kd.R_putg HO_6.out (x29_2 : Int) ((ji19) % 256)
            go_wp2_with (first | ((with_reducible refine gate_store (t := 5) (p := 39) rfl ?_); refine store_event (t := 5) (p := 39) (v := ?vo_w24) (w1 := (wr.setCell ⟨go22, (x29_2 : Int).toNat, none⟩ (.int .u8 ((ji19) % 256)))) ?hg ?ho ?hn ?hr ?_; (case ho => rfl); (case hg => rfl); (case hn => rfl); (case hr => first | (go_simp; done) | (go_simp; rfl)); intro w24 hw; have hg : wr.grownBy w24 (some go22) := (by rw [hw]; exact HP23.2); have hp_ : Kd.R (Kd.int .u8) 5 w24 w.heap.size (fun _ => True) (.slice (some ⟨go22, 0, none⟩) x6_2.length co15) y174 := (by rw [hw, Ny174.out]; exact HP23.1); clear HP23; replace HO_6 := Aside0.mk (hp_); replace HB := Aside0.mk ((by rw [hw]; exact below_set (HB.out) GB22.out : Below w.heap.size w w24)); clear hg hw hp_))
            (try simp only [← hl6_2])
            go_roundg k2
            case measure => have := HJ2.out; have := HK2.out; omega
            case rel => exact ⟨(y174), (wrap64 (x29_2 + 1)), hsr, H', ⟨by have := HJ2.out; have := HK2.out; omega⟩, ⟨by (try simp only [hl6_2]); (with_reducible repeat (first | apply Kd.R_alloc | apply Kd.R_drewN | apply Kd.R_drew)); exact HO_6.out⟩, ⟨bl HB.out⟩⟩
           ·rw [if_neg c21] at H
            exact absurd H (by simp)
          ·rw [if_neg c20] at H
           exact absurd H (by simp)
         ·rw [if_neg c18] at H
          exact absurd H (by simp)
        ·rw [if_neg c16] at H
         have c16b0 : decide (x29_2 < (y171.length : Int)) = false := decide_eq_false c16
         (try (have c16y0 := c16b0; simp only [hl6_2] at c16y0))
         clear c16
         simp only [Option.some.injEq, Prod.mk.injEq] at H
         obtain ⟨rfl, rfl⟩ := H
         have hcv25 := own_string (P := Tryd.prog) Tryd.underlying66 Tryd.underlying5 Tryd.underlying9 (Kd.own_of_R HO_6.out)
         go_wp2
         go_ret2
         exact ⟨er0, bl HB.out⟩
     ·rw [if_neg c12] at H
      exact absurd H (by simp)
    ·rw [if_neg c11] at H
     exact absurd H (by simp)

/-! ### payload_put: function 31 -/
def payload_put.f (k : Nat) (l0 : List Int) (a1 : Int) (a2 : Int) : Option (List Int) := (num_Fix.f k (IntKind.u64.wrap (a1)) a2).bind fun bt175 => (if l0.length + bt175.1.size < 140737488355328 then (some (l0 ++ bytesOf bt175.1)) else (none))
theorem payload_put.mono : ∀ a0 a1 a2 k, LeO (payload_put.f k a0 a1 a2) (payload_put.f (k + 1) a0 a1 a2) := by
 intro a0 a1 a2 k
 unfold payload_put.f
 repeat' first
   | (with_reducible exact num_Fix.mono _ _ _)
   | (with_reducible exact LeO.refl _)
   | (with_reducible exact LeO.none _)
   | (with_reducible refine LeO.ite ?_ ?_)
   | (with_reducible refine LeO.bind ?_ (fun _ => ?_))
   | exact num_Fix.mono _ _ _
   | exact LeO.none _
   | refine LeO.ite ?_ ?_
   | refine LeO.bind ?_ (fun _ => ?_)
set_option maxHeartbeats 8000000 in
set_option maxRecDepth 100000 in
theorem payload_put.calls (k : Nat) (P0_ : Nat → Prop) (u9000_ : Value) (l0 : List Int) (a1 : Int) (a2 : Int) (r : List Int) (w0 w : World) (hB : Below w0.heap.size w0 w) (ho0 : Kd.R (Kd.int .u8) 5 w w0.heap.size P0_ u9000_ l0) (h : payload_put.f k l0 a1 a2 = some r) :
  Calls Tryd.prog 31 #[u9000_, .int .i64 a1, .int .i64 a2] w fun e w' => ∃ v0_ : Value, e = .returned (v0_) ∧ Kd.R (Kd.int .u8) 5 w' w0.heap.size (fun k_ => (P0_ k_ ∨ w.heap.size ≤ k_)) v0_ r ∧ Below w0.heap.size w0 w' ∧ Kept w w' (fun k_ => P0_ k_) := by
 have HO0 := Aside0.mk (show Kd.R (Kd.int .u8) 5 w w0.heap.size (fun k_ => (P0_ k_ ∨ w.heap.size ≤ k_)) u9000_ l0 from Kd.R_mono ho0 (fun k_ hk => (.inl hk)))
 have HK := Aside0.mk (Kept.refl w (fun k_ => P0_ k_))
 have HW0 := Aside0.mk hB.size
 have HB := Aside0.mk hB
 clear hB
 have H : ((num_Fix.f k (IntKind.u64.wrap (a1)) a2).bind fun bt175 => (if l0.length + bt175.1.size < 140737488355328 then (some (l0 ++ bytesOf bt175.1)) else (none))) = some r := h
 clear h
 replace H := Option.bind_eq_some_iff.mp H
 obtain ⟨⟨t175, t176⟩, A40, H⟩ := H
 replace H : (if l0.length + t175.size < 140737488355328 then (some (l0 ++ bytesOf t175)) else (none)) = some r := H
 have A4 := Aside0.mk A40
 clear A40
 by_cases c5 : l0.length + t175.size < 140737488355328
 ·rw [if_pos c5] at H
  have LMc5 := Aside0.mk c5
  clear c5
  obtain ⟨y177, hy177⟩ : ∃ y_ : List Int, y_ = (l0 ++ bytesOf t175) := ⟨_, rfl⟩
  replace H : (some y177) = some r := by first | (rw [hy177]; with_reducible exact H) | (have H2_ := (Option.bind_some _ _).symm.trans H; rw [hy177]; with_reducible exact H2_) | (have H2_ := (Option.bind_some _ _).symm.trans H; with_reducible exact H2_) | with_reducible exact H | (rw [hy177]; exact H) | exact H
  have Ny177 := Aside0.mk hy177
  clear hy177
  obtain rfl := Option.some.inj H
  go_enter Tryd.func31, Tryd.ntmps31
  go_wp2_with (first | ((with_reducible refine gate_callee (f := 62) rfl ?_); refine goesL_ (some 13) rfl rfl Tryd.func62 kr rfl #[.int .u64 (IntKind.u64.wrap (a1)), .int .i64 a2] rfl ga ?_; (with_reducible refine (num_Fix.calls k (IntKind.u64.wrap (a1)) a2 t175 t176 _ A4.out).mono ?_); rintro e w6 ⟨rfl, hb⟩; refine ⟨_, rfl, ?_⟩; replace HO0 := Aside0.mk (Kd.R_below (pR HO0.out) hb); replace HK := Aside0.mk (Kept.below (S := (fun k_ => P0_ k_)) (by repeat (first | (with_reducible first | exact HK.out | apply Kept.alloc | apply Kept.drewN | apply Kept.drew) | exact HK.out)) hb); replace HB := Aside0.mk (below_step (bl HB.out) hb); (try clear hb); (try clear hb2); (try clear hk); (try clear hi)) | (at_builtin; refine print_append_str2 (w0 := w0) w0.heap.size rfl (.tmp 16) _ 66 9 5 rfl Tryd.underlying66 Tryd.underlying9 info5 u9000_ l0 t175 rfl rfl ?aO ?aB ?aS ?aL ?_; (case aB => exact (bl HB.out)); (case aO => exact (Kd.own_of_R (pR HO0.out))); (case aS => exact (below_size (bl HB.out))); (case aL => have := LMc5.out; omega); intro v178 w7 ho0 hb hg hat0; have ho := Kd.R_of_own (h1 := fun _ => rfl) (ok := (fun k_ => (P0_ k_ ∨ w.heap.size ≤ k_))) ho0 (fun k_ e_ => (hat0 k_ e_).elim (fun e_ => (by first | exact HO0.out.1 k_ e_ | (cases e_; done) | exact (pR HO0.out).1 k_ e_)) ((show ∀ k_, _ ≤ k_ → ((fun k_ => (P0_ k_ ∨ w.heap.size ≤ k_))) k_ from (fun k_ hk => (.inr (Nat.le_trans (by first | exact HK.out.1 | exact (show Kept w _ (fun k_ => P0_ k_) from by repeat (first | (with_reducible first | exact HK.out | apply Kept.alloc | apply Kept.drewN | apply Kept.drew) | exact HK.out)).1) hk)))) k_)); clear ho0; clear hat0; have hat := True.intro; rw [← Ny177.out] at ho; change Kd.R (Kd.int .u8) 5 w7 w0.heap.size (fun k_ => (P0_ k_ ∨ w.heap.size ≤ k_)) v178 y177 at ho; replace HB := Aside0.mk (hb); replace HK := Aside0.mk (Kept.of_grown (S := (fun k_ => P0_ k_)) hg (by repeat (first | (with_reducible first | exact HK.out | apply Kept.alloc | apply Kept.drewN | apply Kept.drew) | exact HK.out)) (fun k_ e_ => (HO0.out.1 k_ e_))); have HO179 := Aside0.mk (ho); clear HO0; clear ho hb hg hat))
  go_ret
  exact ⟨_, er0, pR HO179.out, bl HB.out, by repeat (first | (with_reducible first | exact HK.out | apply Kept.alloc | apply Kept.drewN | apply Kept.drew) | exact HK.out)⟩
 ·rw [if_neg c5] at H
  exact absurd H (by simp)

/-! ### payload_width: function 32 -/
def payload_width.f (a0 : Int) : Option Int := if a0 = 0 then some 0 else if a0 = 1 then some 8 else if a0 = 2 then some 2 else if a0 = 3 then some 1 else none
set_option maxHeartbeats 800000 in
theorem payload_width.calls (a0 : Int) (r : Int) (w : World) (h : payload_width.f a0 = some r) :
  Calls Tryd.prog 32 #[.int .i64 a0] w fun e w' => e = .returned (.int .i64 r) ∧ Drawn0 w w' := by
 have i0 : ∀ w, (Instr.index 102 (.agg #[.int .i64 0, .int .i64 8, .int .i64 2, .int .i64 1]) (.int .i64 0)).run Tryd.prog w = .ok (.int .i64 0) w := fun _ => by kernel_rfl
 have i1 : ∀ w, (Instr.index 102 (.agg #[.int .i64 0, .int .i64 8, .int .i64 2, .int .i64 1]) (.int .i64 1)).run Tryd.prog w = .ok (.int .i64 8) w := fun _ => by kernel_rfl
 have i2 : ∀ w, (Instr.index 102 (.agg #[.int .i64 0, .int .i64 8, .int .i64 2, .int .i64 1]) (.int .i64 2)).run Tryd.prog w = .ok (.int .i64 2) w := fun _ => by kernel_rfl
 have i3 : ∀ w, (Instr.index 102 (.agg #[.int .i64 0, .int .i64 8, .int .i64 2, .int .i64 1]) (.int .i64 3)).run Tryd.prog w = .ok (.int .i64 1) w := fun _ => by kernel_rfl
 unfold payload_width.f at h
 by_cases h0 : a0 = 0
 ·subst h0
  obtain rfl : 0 = r := by simpa using h
  clear h
  go_enter Tryd.func32, Tryd.ntmps32
  go_wp2
  go_ret
  exact ⟨rfl, Drawn0.refl _⟩
 ·rw [if_neg h0] at h
  by_cases h1 : a0 = 1
  ·subst h1
   obtain rfl : 8 = r := by simpa using h
   clear h h0
   go_enter Tryd.func32, Tryd.ntmps32
   go_wp2
   go_ret
   exact ⟨rfl, Drawn0.refl _⟩
  ·rw [if_neg h1] at h
   by_cases h2 : a0 = 2
   ·subst h2
    obtain rfl : 2 = r := by simpa using h
    clear h h0 h1
    go_enter Tryd.func32, Tryd.ntmps32
    go_wp2
    go_ret
    exact ⟨rfl, Drawn0.refl _⟩
   ·rw [if_neg h2] at h
    by_cases h3 : a0 = 3
    ·subst h3
     obtain rfl : 1 = r := by simpa using h
     clear h h0 h1 h2
     go_enter Tryd.func32, Tryd.ntmps32
     go_wp2
     go_ret
     exact ⟨rfl, Drawn0.refl _⟩
    ·rw [if_neg h3] at h
     cases h

end Go.Proofs.YtbeljekpknpadaaDoor.PPayU
