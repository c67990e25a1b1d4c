-- Written by a program of this session on top of the print: some functions by hand.
import Derived.Test.YtbeljekpknpadaaDoorPPayUx0
import Derived.Test.YtbeljekpknpadaaDoorPPayUx11
namespace Go.Proofs.YtbeljekpknpadaaDoor.PPayU
open Go.RowKit Go.Proofs.YtbeljekpknpadaaDoorW.PrintWords Go.Proofs.YtbeljekpknpadaaDoorW.PrintLast Go.Proofs.YtbeljekpknpadaaDoorW.PrintMore
attribute [local go_sem] max2_int min2_int max_two min_two max_three min_three max_four min_four   -- for this text's walks alone
set_option linter.unusedVariables false
set_option linter.unusedSimpArgs false

/-! ### lodestarref05_CheckSchema: function 23 -/
mutual
def lodestarref05_CheckSchema.j0 : Nat → Bool → List (S89) → List (S93) → Option (Int)
 | 0, _, _, _ => none
 | k + 1, x23, x277000, x277001 => if x23 = true then (some 50) else (lodestarref05_CheckSchema.l0 k ([] : List ByteArray) 0 x277000 x277001)
def lodestarref05_CheckSchema.l0 : Nat → List ByteArray → Int → List (S89) → List (S93) → Option (Int)
 | 0, _, _, _, _ => none
 | k + 1, x3, x5, x277000, x277001 => if x5 < (x277000.length : Int) then (if 0 ≤ x5 then (if ((rd_T89 x277000 x5).f1) < 1 then (lodestarref05_CheckSchema.j2 k x3 x5 true x277000 x277001 ((rd_T89 x277000 x5).f0) ((rd_T89 x277000 x5).f1) ((rd_T89 x277000 x5).f2)) else (if ((rd_T89 x277000 x5).f1) > 64 then (lodestarref05_CheckSchema.j2 k x3 x5 true x277000 x277001 ((rd_T89 x277000 x5).f0) ((rd_T89 x277000 x5).f1) ((rd_T89 x277000 x5).f2)) else (if ((rd_T89 x277000 x5).f2) < 1 then (lodestarref05_CheckSchema.j2 k x3 x5 true x277000 x277001 ((rd_T89 x277000 x5).f0) ((rd_T89 x277000 x5).f1) ((rd_T89 x277000 x5).f2)) else (lodestarref05_CheckSchema.j2 k x3 x5 (decide (((rd_T89 x277000 x5).f2) > 3)) x277000 x277001 ((rd_T89 x277000 x5).f0) ((rd_T89 x277000 x5).f1) ((rd_T89 x277000 x5).f2))))) else (none)) else (lodestarref05_CheckSchema.l1 k x3 ([] : List ByteArray) 0 x277000 x277001)
def lodestarref05_CheckSchema.j2 : Nat → List ByteArray → Int → Bool → List (S89) → List (S93) → ByteArray → Int → Int → Option (Int)
 | 0, _, _, _, _, _, _, _, _ => none
 | k + 1, x3, x5, x53, x277000, x277001, x279000, x279001, x279002 => if x53 = true then (some 50) else (if x3.length < 8796093022208 then (lodestarref05_CheckSchema.l0 k (x3 ++ [x279000]) (wrap64 (x5 + 1)) x277000 x277001) else (none))
def lodestarref05_CheckSchema.l1 : Nat → List ByteArray → List ByteArray → Int → List (S89) → List (S93) → Option (Int)
 | 0, _, _, _, _, _ => none
 | k + 1, x3, x4, x7, x277000, x277001 => if x7 < (x277001.length : Int) then (if 0 ≤ x7 then (if ((rd_T93 x277001 x7).f1) < 1 then (some 50) else (if ((rd_T93 x277001 x7).f1) > 3 then (some 50) else (if x4.length < 8796093022208 then (lodestarref05_CheckSchema.l1 k x3 (x4 ++ [(rd_T93 x277001 x7).f0]) (wrap64 (x7 + 1)) x277000 x277001) else (none)))) else (none)) else ((lodestarref05_Names.f k x3).bind fun t288 => (if t288 = true then ((lodestarref05_Names.f k x4).bind fun t289 => (if t289 = true then (some 0) else (some 50))) else (some 50)))
end
def lodestarref05_CheckSchema.f (k : Nat) (l0_0 : List (S89)) (l0_1 : List (S93)) : Option (Int) := if (l0_0.length : Int) < 1 then (lodestarref05_CheckSchema.j0 k true l0_0 l0_1) else (if (l0_0.length : Int) > 4 then (lodestarref05_CheckSchema.j0 k true l0_0 l0_1) else (lodestarref05_CheckSchema.j0 k (decide ((l0_1.length : Int) > 16)) l0_0 l0_1))
theorem lodestarref05_CheckSchema.mono_l : ∀ k, (∀ y0 y1 y2, LeO (lodestarref05_CheckSchema.j0 k y0 y1 y2) (lodestarref05_CheckSchema.j0 (k + 1) y0 y1 y2)) ∧ (∀ y0 y1 y2 y3, LeO (lodestarref05_CheckSchema.l0 k y0 y1 y2 y3) (lodestarref05_CheckSchema.l0 (k + 1) y0 y1 y2 y3)) ∧ (∀ y0 y1 y2 y3 y4 y5 y6 y7, LeO (lodestarref05_CheckSchema.j2 k y0 y1 y2 y3 y4 y5 y6 y7) (lodestarref05_CheckSchema.j2 (k + 1) y0 y1 y2 y3 y4 y5 y6 y7)) ∧ (∀ y0 y1 y2 y3 y4, LeO (lodestarref05_CheckSchema.l1 k y0 y1 y2 y3 y4) (lodestarref05_CheckSchema.l1 (k + 1) y0 y1 y2 y3 y4))
 | 0 => ⟨fun _ _ _ r h => by simp [lodestarref05_CheckSchema.j0] at h, fun _ _ _ _ r h => by simp [lodestarref05_CheckSchema.l0] at h, fun _ _ _ _ _ _ _ _ r h => by simp [lodestarref05_CheckSchema.j2] at h, fun _ _ _ _ _ r h => by simp [lodestarref05_CheckSchema.l1] at h⟩
 | k + 1 => by
  obtain ⟨ih0, ih1, ih2, ih3⟩ := lodestarref05_CheckSchema.mono_l k
  refine ⟨?_, ?_, ?_, ?_⟩
  all_goals intros
  all_goals first | unfold lodestarref05_CheckSchema.j0 | unfold lodestarref05_CheckSchema.l0 | unfold lodestarref05_CheckSchema.j2 | unfold lodestarref05_CheckSchema.l1
  all_goals repeat' first
   | (with_reducible exact ih0 _ _ _)
   | (with_reducible exact ih1 _ _ _ _)
   | (with_reducible exact ih2 _ _ _ _ _ _ _ _)
   | (with_reducible exact ih3 _ _ _ _ _)
   | (with_reducible exact lodestarref05_Names.mono _ _)
   | (with_reducible exact LeO.refl _)
   | (with_reducible exact LeO.none _)
   | (with_reducible refine LeO.ite ?_ ?_)
   | (with_reducible refine LeO.bind ?_ (fun _ => ?_))
   | exact ih0 _ _ _
   | exact ih1 _ _ _ _
   | exact ih2 _ _ _ _ _ _ _ _
   | exact ih3 _ _ _ _ _
   | exact lodestarref05_Names.mono _ _
   | exact LeO.none _
   | refine LeO.ite ?_ ?_
   | refine LeO.bind ?_ (fun _ => ?_)
theorem lodestarref05_CheckSchema.mono : ∀ a0 a1 k, LeO (lodestarref05_CheckSchema.f k a0 a1) (lodestarref05_CheckSchema.f (k + 1) a0 a1) := by
 intro a0 a1 k
 obtain ⟨ih0, ih1, ih2, ih3⟩ := lodestarref05_CheckSchema.mono_l k
 unfold lodestarref05_CheckSchema.f
 repeat' first
   | (with_reducible exact ih0 _ _ _)
   | (with_reducible exact ih1 _ _ _ _)
   | (with_reducible exact ih2 _ _ _ _ _ _ _ _)
   | (with_reducible exact ih3 _ _ _ _ _)
   | (with_reducible exact lodestarref05_Names.mono _ _)
   | (with_reducible exact LeO.refl _)
   | (with_reducible exact LeO.none _)
   | (with_reducible refine LeO.ite ?_ ?_)
   | (with_reducible refine LeO.bind ?_ (fun _ => ?_))
   | exact ih0 _ _ _
   | exact ih1 _ _ _ _
   | exact ih2 _ _ _ _ _ _ _ _
   | exact ih3 _ _ _ _ _
   | exact lodestarref05_Names.mono _ _
   | exact LeO.none _
   | refine LeO.ite ?_ ?_
   | refine LeO.bind ?_ (fun _ => ?_)
set_option maxHeartbeats 8000000 in
set_option maxRecDepth 100000 in
theorem lodestarref05_CheckSchema.calls (k : Nat) (A0_0 : Option Addr) (c0_0 : Nat) (l0_0 : List (S89)) (A0_1 : Option Addr) (c0_1 : Nat) (l0_1 : List (S93)) (r : Int) (w : World) (hr0_0 : Kd.C k89 w A0_0 l0_0.length l0_0) (hc0_0 : l0_0.length ≤ c0_0) (hr0_1 : Kd.C k93 w A0_1 l0_1.length l0_1) (hc0_1 : l0_1.length ≤ c0_1) (h : lodestarref05_CheckSchema.f k l0_0 l0_1 = some r) :
  Calls Tryd.prog 23 #[.agg #[.slice A0_0 l0_0.length c0_0, .slice A0_1 l0_1.length c0_1]] w fun e w' => e = .returned (.int .i64 r) ∧ Below w.heap.size w w' := by
 have hu51 := Tryd.underlying51
 have hu89 := Tryd.underlying89
 have HR0_0 := Aside0.mk hr0_0
 have HC0_0 := Aside0.mk hc0_0
 clear hr0_0 hc0_0
 have HR0_1 := Aside0.mk hr0_1
 have HC0_1 := Aside0.mk hc0_1
 clear hr0_1 hc0_1
 have HB := Aside0.mk (Below.refl w.heap.size w)
 have H : (if (l0_0.length : Int) < 1 then (lodestarref05_CheckSchema.j0 k true l0_0 l0_1) else (if (l0_0.length : Int) > 4 then (lodestarref05_CheckSchema.j0 k true l0_0 l0_1) else (lodestarref05_CheckSchema.j0 k (decide ((l0_1.length : Int) > 16)) l0_0 l0_1))) = some r := h
 clear h
 have HC2 := Aside0.mk H
 clear H
 go_enter Tryd.func23, Tryd.ntmps23
 go_upto_region 1 with (first | ((with_reducible refine gate_dst (N := 1) rfl ?_); (try (refine gate_guard (by rfl) ?_; dsimp only)); refine box_event ?hg (N := 1) ?hd (cs := #[.slice A0_0 l0_0.length c0_0, .slice A0_1 l0_1.length c0_1]) (t := 51) ?hr ?_; (case hd => rfl); (case hg => rfl); (case hr => first | (go_simp; done) | (go_simp; rfl)); intro gb276 hg w3 hbox hb; have BK276 := Aside0.mk (hbox); have GW276 := Aside0.mk (gs (w := w) hg (bl HB.out)); have GE276 := Aside0.mk (gs (w := w) hg (bl HB.out)); replace HB := Aside0.mk (below_step (bl HB.out) hb); clear hb hbox hg))
 (try simp only [Act.put, List.setIfInBounds_toArray, List.set_cons_zero, List.set_cons_succ])
 go_cut [23] (fun v23 wc => ∃ (kq : Nat) (x23_1 : Bool), v23 = .bool x23_1 ∧ Aside0 (lodestarref05_CheckSchema.j0 kq x23_1 l0_0 l0_1 = some r) ∧ Aside0 (kq ≤ k) ∧ Aside0 (wc.heap[gb276]? = some (.cells #[(.slice A0_0 l0_0.length c0_0), (.slice A0_1 l0_1.length c0_1)] 51 (0, 0))) ∧ Aside0 (Below w.heap.size w wc))
 case first =>
  have H := HC2.out
  clear HC2
  by_cases c4 : (l0_0.length : Int) < 1
  ·rw [if_pos c4] at H
   have c4b0 : decide ((l0_0.length : Int) < 1) = true := decide_eq_true c4
   have c4b1 : decide (l0_0.length < 1) = true := decide_eq_true (by omega)
   clear c4
   (first | rw [c4b0] | (simp only [i64_w, i32_w]; rw [c4b0]) | skip)
   have H' := Aside0.mk H
   clear H
   obtain ⟨hcz5_0, hcz5_1, hfz5_0, hfz5_1⟩ := cz2 BK276.out
   go_wp2
   go_meet
   case rel => exact ⟨_, (true), hsr, H', ⟨by first | omega | exact Nat.le_refl _⟩, ⟨pk BK276.out⟩, ⟨bl HB.out⟩⟩
  ·rw [if_neg c4] at H
   have c4b0 : decide ((l0_0.length : Int) < 1) = false := decide_eq_false c4
   have c4b1 : decide (l0_0.length < 1) = false := decide_eq_false (by omega)
   clear c4
   (first | rw [c4b0] | (simp only [i64_w, i32_w]; rw [c4b0]) | skip)
   by_cases c6 : (l0_0.length : Int) > 4
   ·rw [if_pos c6] at H
    have c6b0 : decide (4 < (l0_0.length : Int)) = true := decide_eq_true c6
    have c6b1 : decide (4 < l0_0.length) = true := decide_eq_true (by omega)
    clear c6
    have H' := Aside0.mk H
    clear H
    obtain ⟨hcz7_0, hcz7_1, hfz7_0, hfz7_1⟩ := cz2 BK276.out
    go_wp2
    go_meet
    case rel => exact ⟨_, (true), hsr, H', ⟨by first | omega | exact Nat.le_refl _⟩, ⟨pk BK276.out⟩, ⟨bl HB.out⟩⟩
   ·rw [if_neg c6] at H
    have c6b0 : decide (4 < (l0_0.length : Int)) = false := decide_eq_false c6
    have c6b1 : decide (4 < l0_0.length) = false := decide_eq_false (by omega)
    clear c6
    have H' := Aside0.mk H
    clear H
    obtain ⟨hcz8_0, hcz8_1, hfz8_0, hfz8_1⟩ := cz2 BK276.out
    go_wp2
    go_meet
    case rel => exact ⟨_, (decide ((l0_1.length : Int) > 16)), hsr, H', ⟨by first | omega | exact Nat.le_refl _⟩, ⟨pk BK276.out⟩, ⟨bl HB.out⟩⟩
 case rest =>
  clear HC2
  try clear c2
  try clear p2
  try clear c4
  try clear c4b0
  try clear c4b1
  try clear c6
  try clear c6b0
  try clear c6b1
  try clear hcz8_0 hcz8_1 hfz8_0 hfz8_1
  try clear hcz7_0 hcz7_1 hfz7_0 hfz7_1
  try clear hcz5_0 hcz5_1 hfz5_0 hfz5_1
  obtain ⟨kq, x23_1, rfl, HA, HJ1, BK276, HB⟩ := hcut
  cases kq with
  | zero => exact absurd HA.out (by simp [lodestarref05_CheckSchema.j0])
  | succ kj1 =>
   have H := HA.out
   clear HA
   simp only [lodestarref05_CheckSchema.j0] at H
   by_cases c9 : x23_1 = true
   ·subst c9
    have H1 : (some 50) = some r := by rw [if_pos rfl] at H; exact H
    clear H
    have H := H1
    clear H1
    obtain rfl := Option.some.inj H
    go_wp2
    go_ret
    exact ⟨er0, bl HB.out⟩
   ·replace c9 := Bool.eq_false_iff.mpr c9
    subst c9
    have H1 : (lodestarref05_CheckSchema.l0 kj1 ([] : List ByteArray) 0 l0_0 l0_1) = some r := by rw [if_neg (show ¬ (false = true) by decide)] at H; exact H
    clear H
    have H := H1
    clear H1
    have H' := Aside0.mk H
    clear H
    go_wp2
    go_loopg [3, 5] kj1 (fun kq v3 v5 w' => ∃ (x3_2 : List ByteArray) (x5_2 : Int), v5 = .int .i64 x5_2 ∧ Aside0 (lodestarref05_CheckSchema.l0 kq x3_2 x5_2 l0_0 l0_1 = some r) ∧ Aside0 (kq ≤ kj1) ∧ Aside0 (Kd.R Kd.string 9 w' w.heap.size (fun _ => True) v3 x3_2) ∧ Aside0 (w'.heap[gb276]? = some (.cells #[(.slice A0_0 l0_0.length c0_0), (.slice A0_1 l0_1.length c0_1)] 51 (0, 0))) ∧ Aside0 (Below w.heap.size w w'))
    case atStart => exact ⟨(([] : List ByteArray)), (0), hsr, H', ⟨Nat.le_refl _⟩, ⟨by first | exact Kd.R_nil _ _ _ _ _ | exact Kd.N_nil _ _ _ _ _ | exact Kd.V_nil _ _ _ _ _ | exact Kd.Q_nil _ _ _ _ _ | exact Kd.S_nil _ _ _ _ _⟩, ⟨pk BK276.out⟩, ⟨bl HB.out⟩⟩
    case round =>
     clear H'
     try clear c2
     try clear p2
     try clear c4
     try clear c4b0
     try clear c4b1
     try clear c6
     try clear c6b0
     try clear c6b1
     try clear c9
     try clear hcz8_0 hcz8_1 hfz8_0 hfz8_1
     try clear hcz7_0 hcz7_1 hfz7_0 hfz7_1
     try clear hcz5_0 hcz5_1 hfz5_0 hfz5_1
     try clear p2
     obtain ⟨x3_2, x5_2, rfl, HA, HK2, HO_3, BK276, HB⟩ := hrel
     cases gk with
     | zero => exact absurd HA.out (by simp [lodestarref05_CheckSchema.l0])
     | succ k2 =>
      have H := HA.out
      clear HA
      simp only [lodestarref05_CheckSchema.l0] at H
      by_cases c10 : x5_2 < (l0_0.length : Int)
      ·rw [if_pos c10] at H
       have c10b0 : decide (x5_2 < (l0_0.length : Int)) = true := decide_eq_true c10
       clear c10
       by_cases c11 : 0 ≤ x5_2
       ·rw [if_pos c11] at H
        have c11b0 : decide (0 ≤ x5_2) = true := decide_eq_true c11
        clear c11
        have HC12 := Aside0.mk H
        clear H
        obtain ⟨hcz13_0, hcz13_1, hfz13_0, hfz13_1⟩ := cz2 BK276.out
        have p277 : 0 ≤ (x5_2 : Int) := of_decide_eq_true ha
        have q277 : x5_2 < (l0_0.length : Int) := of_decide_eq_true ha
        obtain ⟨ad277, e277, hx277_0, hx277_1, hx277_2⟩ := at_T89 HR0_0.out x5_2 p277 q277
        cases e277
        replace hx277_0 := (HB.out.cell (World.block_lt_of_cell? w _ hx277_0)).trans hx277_0
        replace hx277_1 := (HB.out.cell (World.block_lt_of_cell? w _ hx277_1)).trans hx277_1
        replace hx277_2 := (HB.out.cell (World.block_lt_of_cell? w _ hx277_2)).trans hx277_2
        replace p277 := eq_true p277
        replace q277 := eq_true q277
        go_upto_region 8 with (first | ((with_reducible refine gate_dst (N := 6) rfl ?_); (try (refine gate_guard (by rfl) ?_; dsimp only)); refine box_event ?hg (N := 6) ?hd (cs := #[.string (⟨#[]⟩ : ByteArray), .int .i64 0, .int .i64 0]) (t := 89) ?hr ?_; (case hd => rfl); (case hg => rfl); (case hr => first | (go_simp; done) | (go_simp; rfl)); intro gb278 hg w14 hbox hb; replace HO_3 := Aside0.mk (Kd.R_below (pR HO_3.out) hb); have BK278 := Aside0.mk (hbox); have GW278 := Aside0.mk (gs (w := w) hg (bl HB.out)); have GE278 := Aside0.mk (gs (w := w) hg (bl HB.out)); replace HB := Aside0.mk (below_step (bl HB.out) hb); have NB276_278 := Aside0.mk ((gl (g := gb276) hg (pk BK276.out))); have NB278_276 := Aside0.mk ((gm (g := gb276) hg (pk BK276.out))); replace BK276 := Aside0.mk (blk_below (pk BK276.out) hb); clear hb hbox hg; have hnb15 := NB278_276.out; have hnc15 := NB276_278.out; obtain ⟨hcz16_0, hcz16_1, hcz16_2, hfz16_0, hfz16_1, hfz16_2⟩ := cz3 BK278.out))
        (try simp only [Act.put, List.setIfInBounds_toArray, List.set_cons_zero, List.set_cons_succ])
        go_cut [53] (fun v53 wc => ∃ (kq : Nat) (x53_11 : Bool), v53 = .bool x53_11 ∧ Aside0 (lodestarref05_CheckSchema.j2 kq x3_2 x5_2 x53_11 l0_0 l0_1 ((rd_T89 l0_0 x5_2).f0) ((rd_T89 l0_0 x5_2).f1) ((rd_T89 l0_0 x5_2).f2) = some r) ∧ Aside0 (kq ≤ k2) ∧ Aside0 (Kd.R Kd.string 9 wc w.heap.size (fun _ => True) u3 x3_2) ∧ Aside0 (wc.heap[gb276]? = some (.cells #[(.slice (some ad277) l0_0.length c0_0), (.slice A0_1 l0_1.length c0_1)] 51 (0, 0))) ∧ Aside0 (wc.heap[gb278]? = some (.cells #[.string ((rd_T89 l0_0 x5_2).f0), .int .i64 ((rd_T89 l0_0 x5_2).f1), .int .i64 ((rd_T89 l0_0 x5_2).f2)] 89 (0, 0))) ∧ Aside0 (Below w.heap.size w wc))
        case first =>
         have H := HC12.out
         clear HC12
         by_cases c17 : ((rd_T89 l0_0 x5_2).f1) < 1
         ·rw [if_pos c17] at H
          have c17b0 : decide (((rd_T89 l0_0 x5_2).f1) < 1) = true := decide_eq_true c17
          clear c17
          (first | rw [c17b0] | (simp only [i64_w, i32_w]; rw [c17b0]) | skip)
          have H' := Aside0.mk H
          clear H
          have hnb18 := NB278_276.out
          have hnc18 := NB276_278.out
          obtain ⟨hcz19_0, hcz19_1, hcz19_2, hfz19_0, hfz19_1, hfz19_2⟩ := cz3 BK278.out
          go_wp2
          go_meet
          case rel => exact ⟨_, (true), hsr, H', ⟨by have := HJ1.out; have := HK2.out; first | omega | exact Nat.le_refl _⟩, ⟨by (with_reducible repeat (first | apply Kd.R_alloc | apply Kd.R_drewN | apply Kd.R_drew)); exact Kd.R_mono (Kd.R_far (p := ⟨gb278, 2, none⟩) (Kd.R_far (p := ⟨gb278, 1, none⟩) (Kd.R_far (p := ⟨gb278, 0, none⟩) (Kd.R_types HO_3.out BK278.out (by decide)) (fun _ hk => hk.2) (.string ((rd_T89 l0_0 x5_2).f0))) (fun _ hk => hk.2) (.int .i64 ((rd_T89 l0_0 x5_2).f1))) (fun _ hk => hk.2) (.int .i64 ((rd_T89 l0_0 x5_2).f2))) (fun _ hk => trivial)⟩, ⟨by refine pk ?_; refine blk_far ?_ NB276_278.out _; refine pk ?_; refine blk_far ?_ NB276_278.out _; refine pk ?_; refine blk_far ?_ NB276_278.out _; exact pk BK276.out⟩, ⟨by refine pk ?_; refine blk_put (cs := #[.string ((rd_T89 l0_0 x5_2).f0), .int .i64 ((rd_T89 l0_0 x5_2).f1), .int .i64 0]) ?_ 2 _ rfl; refine pk ?_; refine blk_put (cs := #[.string ((rd_T89 l0_0 x5_2).f0), .int .i64 0, .int .i64 0]) ?_ 1 _ rfl; refine pk ?_; refine blk_put (cs := #[.string (⟨#[]⟩ : ByteArray), .int .i64 0, .int .i64 0]) ?_ 0 _ rfl; exact pk BK278.out⟩, ⟨bl HB.out⟩⟩
         ·rw [if_neg c17] at H
          have c17b0 : decide (((rd_T89 l0_0 x5_2).f1) < 1) = false := decide_eq_false c17
          clear c17
          (first | rw [c17b0] | (simp only [i64_w, i32_w]; rw [c17b0]) | skip)
          by_cases c20 : ((rd_T89 l0_0 x5_2).f1) > 64
          ·rw [if_pos c20] at H
           have c20b0 : decide (64 < ((rd_T89 l0_0 x5_2).f1)) = true := decide_eq_true c20
           clear c20
           have H' := Aside0.mk H
           clear H
           have hnb21 := NB278_276.out
           have hnc21 := NB276_278.out
           obtain ⟨hcz22_0, hcz22_1, hcz22_2, hfz22_0, hfz22_1, hfz22_2⟩ := cz3 BK278.out
           go_wp2
           go_meet
           case rel => exact ⟨_, (true), hsr, H', ⟨by have := HJ1.out; have := HK2.out; first | omega | exact Nat.le_refl _⟩, ⟨by (with_reducible repeat (first | apply Kd.R_alloc | apply Kd.R_drewN | apply Kd.R_drew)); exact Kd.R_mono (Kd.R_far (p := ⟨gb278, 2, none⟩) (Kd.R_far (p := ⟨gb278, 1, none⟩) (Kd.R_far (p := ⟨gb278, 0, none⟩) (Kd.R_types HO_3.out BK278.out (by decide)) (fun _ hk => hk.2) (.string ((rd_T89 l0_0 x5_2).f0))) (fun _ hk => hk.2) (.int .i64 ((rd_T89 l0_0 x5_2).f1))) (fun _ hk => hk.2) (.int .i64 ((rd_T89 l0_0 x5_2).f2))) (fun _ hk => trivial)⟩, ⟨by refine pk ?_; refine blk_far ?_ NB276_278.out _; refine pk ?_; refine blk_far ?_ NB276_278.out _; refine pk ?_; refine blk_far ?_ NB276_278.out _; exact pk BK276.out⟩, ⟨by refine pk ?_; refine blk_put (cs := #[.string ((rd_T89 l0_0 x5_2).f0), .int .i64 ((rd_T89 l0_0 x5_2).f1), .int .i64 0]) ?_ 2 _ rfl; refine pk ?_; refine blk_put (cs := #[.string ((rd_T89 l0_0 x5_2).f0), .int .i64 0, .int .i64 0]) ?_ 1 _ rfl; refine pk ?_; refine blk_put (cs := #[.string (⟨#[]⟩ : ByteArray), .int .i64 0, .int .i64 0]) ?_ 0 _ rfl; exact pk BK278.out⟩, ⟨bl HB.out⟩⟩
          ·rw [if_neg c20] at H
           have c20b0 : decide (64 < ((rd_T89 l0_0 x5_2).f1)) = false := decide_eq_false c20
           clear c20
           by_cases c23 : ((rd_T89 l0_0 x5_2).f2) < 1
           ·rw [if_pos c23] at H
            have c23b0 : decide (((rd_T89 l0_0 x5_2).f2) < 1) = true := decide_eq_true c23
            clear c23
            have H' := Aside0.mk H
            clear H
            have hnb24 := NB278_276.out
            have hnc24 := NB276_278.out
            obtain ⟨hcz25_0, hcz25_1, hcz25_2, hfz25_0, hfz25_1, hfz25_2⟩ := cz3 BK278.out
            go_wp2
            go_meet
            case rel => exact ⟨_, (true), hsr, H', ⟨by have := HJ1.out; have := HK2.out; first | omega | exact Nat.le_refl _⟩, ⟨by (with_reducible repeat (first | apply Kd.R_alloc | apply Kd.R_drewN | apply Kd.R_drew)); exact Kd.R_mono (Kd.R_far (p := ⟨gb278, 2, none⟩) (Kd.R_far (p := ⟨gb278, 1, none⟩) (Kd.R_far (p := ⟨gb278, 0, none⟩) (Kd.R_types HO_3.out BK278.out (by decide)) (fun _ hk => hk.2) (.string ((rd_T89 l0_0 x5_2).f0))) (fun _ hk => hk.2) (.int .i64 ((rd_T89 l0_0 x5_2).f1))) (fun _ hk => hk.2) (.int .i64 ((rd_T89 l0_0 x5_2).f2))) (fun _ hk => trivial)⟩, ⟨by refine pk ?_; refine blk_far ?_ NB276_278.out _; refine pk ?_; refine blk_far ?_ NB276_278.out _; refine pk ?_; refine blk_far ?_ NB276_278.out _; exact pk BK276.out⟩, ⟨by refine pk ?_; refine blk_put (cs := #[.string ((rd_T89 l0_0 x5_2).f0), .int .i64 ((rd_T89 l0_0 x5_2).f1), .int .i64 0]) ?_ 2 _ rfl; refine pk ?_; refine blk_put (cs := #[.string ((rd_T89 l0_0 x5_2).f0), .int .i64 0, .int .i64 0]) ?_ 1 _ rfl; refine pk ?_; refine blk_put (cs := #[.string (⟨#[]⟩ : ByteArray), .int .i64 0, .int .i64 0]) ?_ 0 _ rfl; exact pk BK278.out⟩, ⟨bl HB.out⟩⟩
           ·rw [if_neg c23] at H
            have c23b0 : decide (((rd_T89 l0_0 x5_2).f2) < 1) = false := decide_eq_false c23
            clear c23
            have H' := Aside0.mk H
            clear H
            have hnb26 := NB278_276.out
            have hnc26 := NB276_278.out
            obtain ⟨hcz27_0, hcz27_1, hcz27_2, hfz27_0, hfz27_1, hfz27_2⟩ := cz3 BK278.out
            go_wp2
            go_meet
            case rel => exact ⟨_, (decide (((rd_T89 l0_0 x5_2).f2) > 3)), hsr, H', ⟨by have := HJ1.out; have := HK2.out; first | omega | exact Nat.le_refl _⟩, ⟨by (with_reducible repeat (first | apply Kd.R_alloc | apply Kd.R_drewN | apply Kd.R_drew)); exact Kd.R_mono (Kd.R_far (p := ⟨gb278, 2, none⟩) (Kd.R_far (p := ⟨gb278, 1, none⟩) (Kd.R_far (p := ⟨gb278, 0, none⟩) (Kd.R_types HO_3.out BK278.out (by decide)) (fun _ hk => hk.2) (.string ((rd_T89 l0_0 x5_2).f0))) (fun _ hk => hk.2) (.int .i64 ((rd_T89 l0_0 x5_2).f1))) (fun _ hk => hk.2) (.int .i64 ((rd_T89 l0_0 x5_2).f2))) (fun _ hk => trivial)⟩, ⟨by refine pk ?_; refine blk_far ?_ NB276_278.out _; refine pk ?_; refine blk_far ?_ NB276_278.out _; refine pk ?_; refine blk_far ?_ NB276_278.out _; exact pk BK276.out⟩, ⟨by refine pk ?_; refine blk_put (cs := #[.string ((rd_T89 l0_0 x5_2).f0), .int .i64 ((rd_T89 l0_0 x5_2).f1), .int .i64 0]) ?_ 2 _ rfl; refine pk ?_; refine blk_put (cs := #[.string ((rd_T89 l0_0 x5_2).f0), .int .i64 0, .int .i64 0]) ?_ 1 _ rfl; refine pk ?_; refine blk_put (cs := #[.string (⟨#[]⟩ : ByteArray), .int .i64 0, .int .i64 0]) ?_ 0 _ rfl; exact pk BK278.out⟩, ⟨bl HB.out⟩⟩
        case rest =>
         clear HC12
         try clear c1
         try clear c2
         try clear p2
         try clear q2
         try clear hx2
         try clear c4
         try clear c4b0
         try clear c4b1
         try clear c6
         try clear c6b0
         try clear c6b1
         try clear c9
         try clear c10
         try clear c10b0
         try clear c11
         try clear c11b0
         try clear c15
         try clear c17
         try clear c17b0
         try clear c18
         try clear c20
         try clear c20b0
         try clear c21
         try clear c23
         try clear c23b0
         try clear c24
         try clear c26
         try clear p27
         try clear q27
         try clear hx27
         try clear hcz27_0 hcz27_1 hcz27_2 hfz27_0 hfz27_1 hfz27_2
         try clear hcz25_0 hcz25_1 hcz25_2 hfz25_0 hfz25_1 hfz25_2
         try clear hcz22_0 hcz22_1 hcz22_2 hfz22_0 hfz22_1 hfz22_2
         try clear hcz19_0 hcz19_1 hcz19_2 hfz19_0 hfz19_1 hfz19_2
         try clear hcz16_0 hcz16_1 hcz16_2 hfz16_0 hfz16_1 hfz16_2
         try clear hcz13_0 hcz13_1 hfz13_0 hfz13_1
         try clear hcz8_0 hcz8_1 hfz8_0 hfz8_1
         try clear hcz7_0 hcz7_1 hfz7_0 hfz7_1
         try clear hcz5_0 hcz5_1 hfz5_0 hfz5_1
         try clear hx277_0
         try clear hx277_1
         try clear hx277_2
         try clear p2
         try clear p277
         try clear q277
         obtain ⟨kq, x53_11, rfl, HA, HJ11, HO_3, BK276, BK278, HB⟩ := hcut
         cases kq with
         | zero => exact absurd HA.out (by simp [lodestarref05_CheckSchema.j2])
         | succ kj11 =>
          have H := HA.out
          clear HA
          simp only [lodestarref05_CheckSchema.j2] at H
          by_cases c28 : x53_11 = true
          ·subst c28
           have H1 : (some 50) = some r := by rw [if_pos rfl] at H; exact H
           clear H
           have H := H1
           clear H1
           obtain rfl := Option.some.inj H
           go_wp2
           go_ret
           exact ⟨er0, bl HB.out⟩
          ·replace c28 := Bool.eq_false_iff.mpr c28
           subst c28
           have H1 : (if x3_2.length < 8796093022208 then (lodestarref05_CheckSchema.l0 kj11 (x3_2 ++ [((rd_T89 l0_0 x5_2).f0)]) (wrap64 (x5_2 + 1)) l0_0 l0_1) else (none)) = some r := by rw [if_neg (show ¬ (false = true) by decide)] at H; exact H
           clear H
           have H := H1
           clear H1
           by_cases c29 : x3_2.length < 8796093022208
           ·rw [if_pos c29] at H
            have LMc29 := Aside0.mk c29
            clear c29
            obtain ⟨y279, hy279⟩ : ∃ y_ : List ByteArray, y_ = (x3_2 ++ [((rd_T89 l0_0 x5_2).f0)]) := ⟨_, rfl⟩
            replace H : (lodestarref05_CheckSchema.l0 kj11 y279 (wrap64 (x5_2 + 1)) l0_0 l0_1) = some r := by first | (rw [hy279]; with_reducible exact H) | (have H2_ := (Option.bind_some _ _).symm.trans H; rw [hy279]; with_reducible exact H2_) | (have H2_ := (Option.bind_some _ _).symm.trans H; with_reducible exact H2_) | with_reducible exact H | (rw [hy279]; exact H) | exact H
            have Ny279 := Aside0.mk hy279
            clear hy279
            have H' := Aside0.mk H
            clear H
            have hnb30 := NB278_276.out
            have hnc30 := NB276_278.out
            obtain ⟨hcz31_0, hcz31_1, hcz31_2, hfz31_0, hfz31_1, hfz31_2⟩ := cz3 BK278.out
            go_wp2_with (first | ((with_reducible refine gate_builtin (b := .append) (xs := #[.tmp 54, .tmp 57]) rfl ?_); (try (refine gate_guard (by rfl) ?_; dsimp only)); at_builtin; refine Kd.R_append Kd.string (w0 := w) w.heap.size rfl (.tmp 54) (.tmp 57) 35 9 (.string ⟨#[]⟩) 16 rfl Tryd.underlying35 info9 rfl (by decide) (by omega) u3 x3_2 ((rd_T89 l0_0 x5_2).f0) [.string ((rd_T89 l0_0 x5_2).f0)] (fun _ => True) (fun _ => False) rfl rfl ?aP (fun _ hk => hk.elim) ?aF ?aO ?aB ?aS ?aL ?_; (case aP => exact rfl); (case aB => exact (bl HB.out)); (case aF => exact (fun _ _ => trivial)); (case aO => exact (pR HO_3.out)); (case aS => exact (below_size (bl HB.out))); (case aL => have := LMc29.out; omega); intro v280 w32 ho hb hg hat; rw [← Ny279.out] at ho; replace BK276 := Aside0.mk (blk_grown (g := gb276) (o := .cells #[.slice (some ad277) l0_0.length c0_0, .slice A0_1 l0_1.length c0_1] 51 (0, 0)) (pk BK276.out) hg (Kd.R_ne HO_3.out BK276.out (by decide))); replace BK278 := Aside0.mk (blk_grown (g := gb278) (o := .cells #[.string ((rd_T89 l0_0 x5_2).f0), .int .i64 ((rd_T89 l0_0 x5_2).f1), .int .i64 ((rd_T89 l0_0 x5_2).f2)] 89 (0, 0)) (pk BK278.out) hg (Kd.R_ne HO_3.out BK278.out (by decide))); replace HB := Aside0.mk (hb); have HO281 := Aside0.mk (ho); clear HO_3; clear ho hb hg hat))
            go_roundg kj11
            case measure => have := HJ1.out; have := HK2.out; have := HJ11.out; omega
            case rel => exact ⟨(y279), (wrap64 (x5_2 + 1)), hsr, H', ⟨by have := HJ1.out; have := HK2.out; have := HJ11.out; omega⟩, ⟨pR HO281.out⟩, ⟨pk BK276.out⟩, ⟨bl HB.out⟩⟩
           ·rw [if_neg c29] at H
            exact absurd H (by simp)
       ·rw [if_neg c11] at H
        exact absurd H (by simp)
      ·rw [if_neg c10] at H
       have c10b0 : decide (x5_2 < (l0_0.length : Int)) = false := decide_eq_false c10
       clear c10
       have H' := Aside0.mk H
       clear H
       obtain ⟨hcz33_0, hcz33_1, hfz33_0, hfz33_1⟩ := cz2 BK276.out
       go_wp2
       go_loopg [4, 7] k2 (fun kq v4 v7 w' => ∃ (x4_3 : List ByteArray) (x7_3 : Int), v7 = .int .i64 x7_3 ∧ Aside0 (lodestarref05_CheckSchema.l1 kq x3_2 x4_3 x7_3 l0_0 l0_1 = some r) ∧ Aside0 (kq ≤ k2) ∧ Aside0 (Kd.R Kd.string 9 w' w.heap.size (fun k_ => some k_ ≠ (v4 : Value).ownBlock) u3 x3_2) ∧ Aside0 (Kd.R Kd.string 9 w' w.heap.size (fun k_ => some k_ ≠ (u3 : Value).ownBlock) v4 x4_3) ∧ Aside0 (w'.heap[gb276]? = some (.cells #[(.slice A0_0 l0_0.length c0_0), (.slice A0_1 l0_1.length c0_1)] 51 (0, 0))) ∧ Aside0 (Below w.heap.size w w'))
       case atStart => exact ⟨(([] : List ByteArray)), (0), hsr, H', ⟨Nat.le_refl _⟩, ⟨by (with_reducible repeat (first | apply Kd.R_alloc | apply Kd.R_drewN | apply Kd.R_drew)); exact Kd.R_mono HO_3.out (fun _ hk => (by simp [Value.ownBlock]))⟩, ⟨by first | exact Kd.R_nil _ _ _ _ _ | exact Kd.N_nil _ _ _ _ _ | exact Kd.V_nil _ _ _ _ _ | exact Kd.Q_nil _ _ _ _ _ | exact Kd.S_nil _ _ _ _ _⟩, ⟨pk BK276.out⟩, ⟨bl HB.out⟩⟩
       case round =>
        clear H'
        try clear c1
        try clear c2
        try clear p2
        try clear q2
        try clear hx2
        try clear c3
        try clear c4
        try clear c4b0
        try clear c4b1
        try clear c6
        try clear c6b0
        try clear c6b1
        try clear p6
        try clear c9
        try clear c10
        try clear c10b0
        try clear c11
        try clear c11b0
        try clear c15
        try clear c17
        try clear c17b0
        try clear c18
        try clear c20
        try clear c20b0
        try clear c21
        try clear c23
        try clear c23b0
        try clear c24
        try clear c26
        try clear p27
        try clear q27
        try clear hx27
        try clear c28
        try clear c29
        try clear c30
        try clear hcz33_0 hcz33_1 hfz33_0 hfz33_1
        try clear hcz31_0 hcz31_1 hcz31_2 hfz31_0 hfz31_1 hfz31_2
        try clear hcz27_0 hcz27_1 hcz27_2 hfz27_0 hfz27_1 hfz27_2
        try clear hcz25_0 hcz25_1 hcz25_2 hfz25_0 hfz25_1 hfz25_2
        try clear hcz22_0 hcz22_1 hcz22_2 hfz22_0 hfz22_1 hfz22_2
        try clear hcz19_0 hcz19_1 hcz19_2 hfz19_0 hfz19_1 hfz19_2
        try clear hcz16_0 hcz16_1 hcz16_2 hfz16_0 hfz16_1 hfz16_2
        try clear hcz13_0 hcz13_1 hfz13_0 hfz13_1
        try clear hcz8_0 hcz8_1 hfz8_0 hfz8_1
        try clear hcz7_0 hcz7_1 hfz7_0 hfz7_1
        try clear hcz5_0 hcz5_1 hfz5_0 hfz5_1
        try clear hx277_0
        try clear hx277_1
        try clear hx277_2
        try clear p2
        try clear p27
        try clear p277
        try clear q2
        try clear q27
        try clear q277
        obtain ⟨x4_3, x7_3, rfl, HA, HK3, HO_3, HO_4, BK276, HB⟩ := hrel
        cases gk with
        | zero => exact absurd HA.out (by simp [lodestarref05_CheckSchema.l1])
        | succ k3 =>
         have H := HA.out
         clear HA
         simp only [lodestarref05_CheckSchema.l1] at H
         by_cases c34 : x7_3 < (l0_1.length : Int)
         ·rw [if_pos c34] at H
          have c34b0 : decide (x7_3 < (l0_1.length : Int)) = true := decide_eq_true c34
          clear c34
          by_cases c35 : 0 ≤ x7_3
          ·rw [if_pos c35] at H
           have c35b0 : decide (0 ≤ x7_3) = true := decide_eq_true c35
           clear c35
           by_cases c36 : ((rd_T93 l0_1 x7_3).f1) < 1
           ·rw [if_pos c36] at H
            have c36b0 : decide (((rd_T93 l0_1 x7_3).f1) < 1) = true := decide_eq_true c36
            clear c36
            obtain rfl := Option.some.inj H
            obtain ⟨hcz37_0, hcz37_1, hfz37_0, hfz37_1⟩ := cz2 BK276.out
            have p282 : 0 ≤ (x7_3 : Int) := of_decide_eq_true ha
            have q282 : x7_3 < (l0_1.length : Int) := of_decide_eq_true ha
            obtain ⟨ad282, e282, hx282_0, hx282_1⟩ := at_T93 HR0_1.out x7_3 p282 q282
            cases e282
            replace hx282_0 := (HB.out.cell (World.block_lt_of_cell? w _ hx282_0)).trans hx282_0
            replace hx282_1 := (HB.out.cell (World.block_lt_of_cell? w _ hx282_1)).trans hx282_1
            replace p282 := eq_true p282
            replace q282 := eq_true q282
            go_wp2
            go_ret
            exact ⟨er0, bl HB.out⟩
           ·rw [if_neg c36] at H
            have c36b0 : decide (((rd_T93 l0_1 x7_3).f1) < 1) = false := decide_eq_false c36
            clear c36
            by_cases c38 : ((rd_T93 l0_1 x7_3).f1) > 3
            ·rw [if_pos c38] at H
             have c38b0 : decide (3 < ((rd_T93 l0_1 x7_3).f1)) = true := decide_eq_true c38
             clear c38
             obtain rfl := Option.some.inj H
             obtain ⟨hcz39_0, hcz39_1, hfz39_0, hfz39_1⟩ := cz2 BK276.out
             have p282 : 0 ≤ (x7_3 : Int) := of_decide_eq_true ha
             have q282 : x7_3 < (l0_1.length : Int) := of_decide_eq_true ha
             obtain ⟨ad282, e282, hx282_0, hx282_1⟩ := at_T93 HR0_1.out x7_3 p282 q282
             cases e282
             replace hx282_0 := (HB.out.cell (World.block_lt_of_cell? w _ hx282_0)).trans hx282_0
             replace hx282_1 := (HB.out.cell (World.block_lt_of_cell? w _ hx282_1)).trans hx282_1
             replace p282 := eq_true p282
             replace q282 := eq_true q282
             have p283 : 0 ≤ (x7_3 : Int) := of_decide_eq_true ha
             have q283 : x7_3 < (l0_1.length : Int) := of_decide_eq_true ha
             obtain ⟨ad283, e283, hx283_0, hx283_1⟩ := at_T93 HR0_1.out x7_3 p283 q283
             obtain rfl : ad282 = ad283 := (by injection e283)
             replace hx283_0 := (HB.out.cell (World.block_lt_of_cell? w _ hx283_0)).trans hx283_0
             replace hx283_1 := (HB.out.cell (World.block_lt_of_cell? w _ hx283_1)).trans hx283_1
             replace p283 := eq_true p283
             replace q283 := eq_true q283
             go_wp2
             go_ret
             exact ⟨er0, bl HB.out⟩
            ·rw [if_neg c38] at H
             have c38b0 : decide (3 < ((rd_T93 l0_1 x7_3).f1)) = false := decide_eq_false c38
             clear c38
             by_cases c40 : x4_3.length < 8796093022208
             ·rw [if_pos c40] at H
              have LMc40 := Aside0.mk c40
              clear c40
              obtain ⟨y285, hy285⟩ : ∃ y_ : List ByteArray, y_ = (x4_3 ++ [(rd_T93 l0_1 x7_3).f0]) := ⟨_, rfl⟩
              replace H : (lodestarref05_CheckSchema.l1 k3 x3_2 y285 (wrap64 (x7_3 + 1)) l0_0 l0_1) = some r := by first | (rw [hy285]; with_reducible exact H) | (have H2_ := (Option.bind_some _ _).symm.trans H; rw [hy285]; with_reducible exact H2_) | (have H2_ := (Option.bind_some _ _).symm.trans H; with_reducible exact H2_) | with_reducible exact H | (rw [hy285]; exact H) | exact H
              have Ny285 := Aside0.mk hy285
              clear hy285
              have H' := Aside0.mk H
              clear H
              obtain ⟨hcz41_0, hcz41_1, hfz41_0, hfz41_1⟩ := cz2 BK276.out
              have p282 : 0 ≤ (x7_3 : Int) := of_decide_eq_true ha
              have q282 : x7_3 < (l0_1.length : Int) := of_decide_eq_true ha
              obtain ⟨ad282, e282, hx282_0, hx282_1⟩ := at_T93 HR0_1.out x7_3 p282 q282
              cases e282
              replace hx282_0 := (HB.out.cell (World.block_lt_of_cell? w _ hx282_0)).trans hx282_0
              replace hx282_1 := (HB.out.cell (World.block_lt_of_cell? w _ hx282_1)).trans hx282_1
              replace p282 := eq_true p282
              replace q282 := eq_true q282
              have p283 : 0 ≤ (x7_3 : Int) := of_decide_eq_true ha
              have q283 : x7_3 < (l0_1.length : Int) := of_decide_eq_true ha
              obtain ⟨ad283, e283, hx283_0, hx283_1⟩ := at_T93 HR0_1.out x7_3 p283 q283
              obtain rfl : ad282 = ad283 := (by injection e283)
              replace hx283_0 := (HB.out.cell (World.block_lt_of_cell? w _ hx283_0)).trans hx283_0
              replace hx283_1 := (HB.out.cell (World.block_lt_of_cell? w _ hx283_1)).trans hx283_1
              replace p283 := eq_true p283
              replace q283 := eq_true q283
              have p284 : 0 ≤ (x7_3 : Int) := of_decide_eq_true ha
              have q284 : x7_3 < (l0_1.length : Int) := of_decide_eq_true ha
              obtain ⟨ad284, e284, hx284_0, hx284_1⟩ := at_T93 HR0_1.out x7_3 p284 q284
              obtain rfl : ad282 = ad284 := (by injection e284)
              replace hx284_0 := (HB.out.cell (World.block_lt_of_cell? w _ hx284_0)).trans hx284_0
              replace hx284_1 := (HB.out.cell (World.block_lt_of_cell? w _ hx284_1)).trans hx284_1
              replace p284 := eq_true p284
              replace q284 := eq_true q284
              go_wp2_with (first | ((with_reducible refine gate_builtin (b := .append) (xs := #[.tmp 82, .tmp 89]) rfl ?_); (try (refine gate_guard (by rfl) ?_; dsimp only)); at_builtin; refine Kd.R_append Kd.string (w0 := w) w.heap.size rfl (.tmp 82) (.tmp 89) 35 9 (.string ⟨#[]⟩) 16 rfl Tryd.underlying35 info9 rfl (by decide) (by omega) u4 x4_3 ((rd_T93 l0_1 x7_3).f0) [.string ((rd_T93 l0_1 x7_3).f0)] (fun k_ => some k_ ≠ (u3 : Value).ownBlock) (fun _ => False) rfl rfl ?aP (fun _ hk => hk.elim) ?aF ?aO ?aB ?aS ?aL ?_; (case aP => exact rfl); (case aB => exact (bl HB.out)); (case aF => exact (fun k_ hk => Kd.fresh' (Kd.R_lt (pR HO_3.out)) k_ hk)); (case aO => exact (pR HO_4.out)); (case aS => exact (below_size (bl HB.out))); (case aL => have := LMc40.out; omega); intro v286 w42 ho hb hg hat; rw [← Ny285.out] at ho; replace HO_3 := Aside0.mk (Kd.R_after (ok := (fun _ => True)) (by (with_reducible repeat (first | apply Kd.R_alloc | apply Kd.R_drewN | apply Kd.R_drew)); exact Kd.R_mono HO_3.out (fun _ hk => ⟨trivial, hk⟩)) hg hat); replace BK276 := Aside0.mk (blk_grown (g := gb276) (o := .cells #[.slice A0_0 l0_0.length c0_0, .slice (some ad282) l0_1.length c0_1] 51 (0, 0)) (pk BK276.out) hg (Kd.R_ne HO_4.out BK276.out (by decide))); replace HB := Aside0.mk (hb); have HO287 := Aside0.mk (ho); clear HO_4; clear ho hb hg hat))
              go_roundg k3
              case measure => have := HJ1.out; have := HK2.out; have := HK3.out; omega
              case rel => exact ⟨(y285), (wrap64 (x7_3 + 1)), hsr, H', ⟨by have := HJ1.out; have := HK2.out; have := HK3.out; omega⟩, ⟨by (with_reducible repeat (first | apply Kd.R_alloc | apply Kd.R_drewN | apply Kd.R_drew)); exact Kd.R_mono HO_3.out (fun _ hk => hk.2)⟩, ⟨pR HO287.out⟩, ⟨pk BK276.out⟩, ⟨bl HB.out⟩⟩
             ·rw [if_neg c40] at H
              exact absurd H (by simp)
          ·rw [if_neg c35] at H
           exact absurd H (by simp)
         ·rw [if_neg c34] at H
          have c34b0 : decide (x7_3 < (l0_1.length : Int)) = false := decide_eq_false c34
          clear c34
          replace H := Option.bind_eq_some_iff.mp H
          obtain ⟨t288, A430, H⟩ := H
          replace H : (if t288 = true then ((lodestarref05_Names.f k3 x4_3).bind fun t289 => (if t289 = true then (some 0) else (some 50))) else (some 50)) = some r := H
          have A43 := Aside0.mk A430
          clear A430
          by_cases c44 : t288 = true
          ·subst c44
           have H1 : ((lodestarref05_Names.f k3 x4_3).bind fun t289 => (if t289 = true then (some 0) else (some 50))) = some r := by rw [if_pos rfl] at H; exact H
           clear H
           have H := H1
           clear H1
           replace H := Option.bind_eq_some_iff.mp H
           obtain ⟨t289, A450, H⟩ := H
           replace H : (if t289 = true then (some 0) else (some 50)) = some r := H
           have A45 := Aside0.mk A450
           clear A450
           by_cases c46 : t289 = true
           ·subst c46
            have H1 : (some 0) = some r := by rw [if_pos rfl] at H; exact H
            clear H
            have H := H1
            clear H1
            obtain rfl := Option.some.inj H
            obtain ⟨hcz47_0, hcz47_1, hfz47_0, hfz47_1⟩ := cz2 BK276.out
            obtain ⟨Ao48, co48, eo48⟩ := Kd.R_slice HO_3.out
            subst eo48
            go_wp2_with (first | ((with_reducible refine gate_callee (f := 51) rfl ?_); refine goesL_ (some 92) rfl rfl Tryd.func51 kr rfl #[.slice Ao48 x3_2.length co48] rfl ga ?_; (with_reducible refine (lodestarref05_Names.calls k3 _ _ x3_2 true _ ?side1 ?side2 A43.out).mono ?_); (case side1 => repeat (first | exact (Kd.R_reads' HO_3.out).2.2 | (with_reducible refine Kd.C_alloc ?_ _) | (with_reducible refine Kd.C_drewN ?_ _) | (with_reducible refine Kd.C_drew ?_))); (case side2 => exact (Kd.R_reads' HO_3.out).2.1); rintro e w' ⟨rfl, ⟨nd, rfl⟩⟩; refine ⟨_, rfl, ?_⟩; obtain ⟨Ao49, co49, eo49⟩ := Kd.R_slice HO_4.out; subst eo49) | (go_at_call 51; (with_reducible refine (lodestarref05_Names.calls k3 _ _ x4_3 true _ ?side1 ?side2 A45.out).mono ?_); (case side1 => repeat (first | exact (Kd.R_reads' HO_4.out).2.2 | (with_reducible refine Kd.C_alloc ?_ _) | (with_reducible refine Kd.C_drewN ?_ _) | (with_reducible refine Kd.C_drew ?_))); (case side2 => exact (Kd.R_reads' HO_4.out).2.1); rintro e w' ⟨rfl, ⟨nd, rfl⟩⟩))
            go_ret
            exact ⟨er0, bl HB.out⟩
           ·replace c46 := Bool.eq_false_iff.mpr c46
            subst c46
            have H1 : (some 50) = some r := by rw [if_neg (show ¬ (false = true) by decide)] at H; exact H
            clear H
            have H := H1
            clear H1
            obtain rfl := Option.some.inj H
            obtain ⟨hcz50_0, hcz50_1, hfz50_0, hfz50_1⟩ := cz2 BK276.out
            obtain ⟨Ao51, co51, eo51⟩ := Kd.R_slice HO_3.out
            subst eo51
            go_wp2_with (first | ((with_reducible refine gate_callee (f := 51) rfl ?_); refine goesL_ (some 92) rfl rfl Tryd.func51 kr rfl #[.slice Ao51 x3_2.length co51] rfl ga ?_; (with_reducible refine (lodestarref05_Names.calls k3 _ _ x3_2 true _ ?side1 ?side2 A43.out).mono ?_); (case side1 => repeat (first | exact (Kd.R_reads' HO_3.out).2.2 | (with_reducible refine Kd.C_alloc ?_ _) | (with_reducible refine Kd.C_drewN ?_ _) | (with_reducible refine Kd.C_drew ?_))); (case side2 => exact (Kd.R_reads' HO_3.out).2.1); rintro e w' ⟨rfl, ⟨nd, rfl⟩⟩; refine ⟨_, rfl, ?_⟩; obtain ⟨Ao52, co52, eo52⟩ := Kd.R_slice HO_4.out; subst eo52) | (go_at_call 51; (with_reducible refine (lodestarref05_Names.calls k3 _ _ x4_3 false _ ?side1 ?side2 A45.out).mono ?_); (case side1 => repeat (first | exact (Kd.R_reads' HO_4.out).2.2 | (with_reducible refine Kd.C_alloc ?_ _) | (with_reducible refine Kd.C_drewN ?_ _) | (with_reducible refine Kd.C_drew ?_))); (case side2 => exact (Kd.R_reads' HO_4.out).2.1); rintro e w' ⟨rfl, ⟨nd, rfl⟩⟩))
            go_ret
            exact ⟨er0, bl HB.out⟩
          ·replace c44 := Bool.eq_false_iff.mpr c44
           subst c44
           have H1 : (some 50) = some r := by rw [if_neg (show ¬ (false = true) by decide)] at H; exact H
           clear H
           have H := H1
           clear H1
           obtain rfl := Option.some.inj H
           obtain ⟨hcz53_0, hcz53_1, hfz53_0, hfz53_1⟩ := cz2 BK276.out
           obtain ⟨Ao54, co54, eo54⟩ := Kd.R_slice HO_3.out
           subst eo54
           go_wp2_with (first | ((with_reducible refine gate_callee (f := 51) rfl ?_); refine goesL_ (some 92) rfl rfl Tryd.func51 kr rfl #[.slice Ao54 x3_2.length co54] rfl ga ?_; (with_reducible refine (lodestarref05_Names.calls k3 _ _ x3_2 false _ ?side1 ?side2 A43.out).mono ?_); (case side1 => repeat (first | exact (Kd.R_reads' HO_3.out).2.2 | (with_reducible refine Kd.C_alloc ?_ _) | (with_reducible refine Kd.C_drewN ?_ _) | (with_reducible refine Kd.C_drew ?_))); (case side2 => exact (Kd.R_reads' HO_3.out).2.1); rintro e w' ⟨rfl, ⟨nd, rfl⟩⟩; refine ⟨_, rfl, ?_⟩))
           go_ret
           exact ⟨er0, bl HB.out⟩

end Go.Proofs.YtbeljekpknpadaaDoor.PPayU
