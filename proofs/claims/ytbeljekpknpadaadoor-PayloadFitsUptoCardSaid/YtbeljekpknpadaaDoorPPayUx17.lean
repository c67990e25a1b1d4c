-- Written by a program of this session on top of the print: some functions by hand.
import Derived.Test.YtbeljekpknpadaaDoorPPayUx0
namespace Go.Proofs.YtbeljekpknpadaaDoor.PPayU
open Go.RowKit Go.Proofs.YtbeljekpknpadaaDoorW.PrintWords Go.Proofs.YtbeljekpknpadaaDoorW.PrintLast Go.Proofs.YtbeljekpknpadaaDoorW.PrintMore
attribute [local go_sem] max2_int min2_int max_two min_two max_three min_three max_four min_four   -- for this text's walks alone
set_option linter.unusedVariables false
set_option linter.unusedSimpArgs false

/-! ### lodestarref05_Spec: function 56 -/
def lodestarref05_Spec.l0 : Nat → ByteArray → Int → List (S89) → List (S93) → Option (ByteArray × Int × Int × Bool)
 | 0, _, _, _, _ => none
 | k + 1, x1, x6, x331000, x331001 => if x6 < (x331000.length : Int) then (if 0 ≤ x6 then (if ((rd_T89 x331000 x6).f0).toList = x1.toList then (some ((rd_T89 x331000 x6).f0, (rd_T89 x331000 x6).f1, (rd_T89 x331000 x6).f2, true)) else (lodestarref05_Spec.l0 k x1 (wrap64 (x6 + 1)) x331000 x331001)) else (none)) else (some ((⟨#[]⟩ : ByteArray), 0, 0, false))
def lodestarref05_Spec.f (k : Nat) (l0_0 : List (S89)) (l0_1 : List (S93)) (a1 : ByteArray) : Option (ByteArray × Int × Int × Bool) := lodestarref05_Spec.l0 k a1 0 l0_0 l0_1
theorem lodestarref05_Spec.mono_l : ∀ k, (∀ y0 y1 y2 y3, LeO (lodestarref05_Spec.l0 k y0 y1 y2 y3) (lodestarref05_Spec.l0 (k + 1) y0 y1 y2 y3))
 | 0 => fun _ _ _ _ r h => by simp [lodestarref05_Spec.l0] at h
 | k + 1 => by
  have ih0 := lodestarref05_Spec.mono_l k
  ·intro y0 y1 y2 y3
   unfold lodestarref05_Spec.l0
   repeat' first
   | (with_reducible exact ih0 _ _ _ _)
   | (with_reducible exact LeO.refl _)
   | (with_reducible exact LeO.none _)
   | (with_reducible refine LeO.ite ?_ ?_)
   | (with_reducible refine LeO.bind ?_ (fun _ => ?_))
   | exact ih0 _ _ _ _
   | exact LeO.none _
   | refine LeO.ite ?_ ?_
   | refine LeO.bind ?_ (fun _ => ?_)
theorem lodestarref05_Spec.mono : ∀ a0 a1 a2 k, LeO (lodestarref05_Spec.f k a0 a1 a2) (lodestarref05_Spec.f (k + 1) a0 a1 a2) := by
 intro a0 a1 a2 k
 have ih0 := lodestarref05_Spec.mono_l k
 unfold lodestarref05_Spec.f
 repeat' first
   | (with_reducible exact ih0 _ _ _ _)
   | (with_reducible exact LeO.refl _)
   | (with_reducible exact LeO.none _)
   | (with_reducible refine LeO.ite ?_ ?_)
   | (with_reducible refine LeO.bind ?_ (fun _ => ?_))
   | exact ih0 _ _ _ _
   | exact LeO.none _
   | refine LeO.ite ?_ ?_
   | refine LeO.bind ?_ (fun _ => ?_)
set_option maxHeartbeats 8000000 in
set_option maxRecDepth 100000 in
theorem lodestarref05_Spec.calls (k : Nat) (A0_0 : Option Addr) (c0_0 : Nat) (l0_0 : List (S89)) (A0_1 : Option Addr) (c0_1 : Nat) (l0_1 : List (S93)) (a1 : ByteArray) (r1 : ByteArray) (r2 : Int) (r3 : Int) (r4 : Bool) (w : World) (hr0_0 : Kd.C k89 w A0_0 l0_0.length l0_0) (hc0_0 : l0_0.length ≤ c0_0) (hr0_1 : Kd.C k93 w A0_1 l0_1.length l0_1) (hc0_1 : l0_1.length ≤ c0_1) (h : lodestarref05_Spec.f k l0_0 l0_1 a1 = some (r1, r2, r3, r4)) :
  Calls Tryd.prog 56 #[.agg #[.slice A0_0 l0_0.length c0_0, .slice A0_1 l0_1.length c0_1], .string a1] w fun e w' => e = .returned (.tuple #[.agg #[.string r1, .int .i64 r2, .int .i64 r3], .bool r4]) ∧ Below w.heap.size w w' := by
 have hu51 := Tryd.underlying51
 have hu89 := Tryd.underlying89
 have HR0_0 := Aside0.mk hr0_0
 have HC0_0 := Aside0.mk hc0_0
 clear hr0_0 hc0_0
 have HR0_1 := Aside0.mk hr0_1
 have HC0_1 := Aside0.mk hc0_1
 clear hr0_1 hc0_1
 have HB := Aside0.mk (Below.refl w.heap.size w)
 have H : (lodestarref05_Spec.l0 k a1 0 l0_0 l0_1) = some (r1, r2, r3, r4) := h
 clear h
 have H' := Aside0.mk H
 clear H
 go_enter Tryd.func56, Tryd.ntmps56
 go_wp2_with (first | ((with_reducible refine gate_dst (N := 2) rfl ?_); refine box_event ?hg (N := 2) ?hd (cs := #[.slice A0_0 l0_0.length c0_0, .slice A0_1 l0_1.length c0_1]) (t := 51) ?hr ?_; (case hd => rfl); (case hg => rfl); (case hr => first | (go_simp; done) | (go_simp; rfl)); intro gb330 hg w3 hbox hb; have BK330 := Aside0.mk (hbox); have GW330 := Aside0.mk (gs (w := w) hg (bl HB.out)); have GE330 := Aside0.mk (gs (w := w) hg (bl HB.out)); replace HB := Aside0.mk (below_step (bl HB.out) hb); clear hb hbox hg) | ((with_reducible refine gate_dst (N := 4) rfl ?_); refine box_event ?hg (N := 4) ?hd (cs := #[.string (⟨#[]⟩ : ByteArray), .int .i64 0, .int .i64 0]) (t := 89) ?hr ?_; (case hd => rfl); (case hg => rfl); (case hr => first | (go_simp; done) | (go_simp; rfl)); intro gb331 hg w4 hbox hb; have BK331 := Aside0.mk (hbox); have GW331 := Aside0.mk (gs (w := w) hg (bl HB.out)); have GE331 := Aside0.mk (gs (w := w) hg (bl HB.out)); replace HB := Aside0.mk (below_step (bl HB.out) hb); have NB330_331 := Aside0.mk ((gl (g := gb330) hg (pk BK330.out))); have NB331_330 := Aside0.mk ((gm (g := gb330) hg (pk BK330.out))); replace BK330 := Aside0.mk (blk_below (pk BK330.out) hb); clear hb hbox hg))
 go_loopg [6] k (fun kq v6 w' => ∃ (x6_1 : Int) (x332000_1 : ByteArray) (x332001_1 : Int) (x332002_1 : Int), v6 = .int .i64 x6_1 ∧ Aside0 (lodestarref05_Spec.l0 kq a1 x6_1 l0_0 l0_1 = some (r1, r2, r3, r4)) ∧ Aside0 (kq ≤ k) ∧ Aside0 (w'.heap[gb330]? = some (.cells #[(.slice A0_0 l0_0.length c0_0), (.slice A0_1 l0_1.length c0_1)] 51 (0, 0))) ∧ Aside0 (w'.heap[gb331]? = some (.cells #[.string x332000_1, .int .i64 x332001_1, .int .i64 x332002_1] 89 (0, 0))) ∧ Aside0 (Below w.heap.size w w'))
 case atStart => exact ⟨(0), ((⟨#[]⟩ : ByteArray)), (0), (0), hsr, H', ⟨Nat.le_refl _⟩, ⟨pk BK330.out⟩, ⟨pk BK331.out⟩, ⟨bl HB.out⟩⟩
 case round =>
  clear H'
  try clear p2
  obtain ⟨x6_1, x332000_1, x332001_1, x332002_1, rfl, HA, HK1, BK330, BK331, HB⟩ := hrel
  cases gk with
  | zero => exact absurd HA.out (by simp [lodestarref05_Spec.l0])
  | succ k1 =>
   have H := HA.out
   clear HA
   simp only [lodestarref05_Spec.l0] at H
   by_cases c5 : x6_1 < (l0_0.length : Int)
   ·rw [if_pos c5] at H
    have c5b0 : decide (x6_1 < (l0_0.length : Int)) = true := decide_eq_true c5
    clear c5
    by_cases c6 : 0 ≤ x6_1
    ·rw [if_pos c6] at H
     have c6b0 : decide (0 ≤ x6_1) = true := decide_eq_true c6
     clear c6
     by_cases c7 : ((rd_T89 l0_0 x6_1).f0).toList = a1.toList
     ·rw [if_pos c7] at H
      have c7b0 : (((rd_T89 l0_0 x6_1).f0).toList == a1.toList) = true := beq_iff_eq.mpr c7
      have c7b1 : (((rd_T89 l0_0 x6_1).f0).toList != a1.toList) = false := bne_eq_false_iff_eq.mpr c7
      clear c7
      simp only [Option.some.injEq, Prod.mk.injEq] at H
      obtain ⟨rfl, rfl, rfl, rfl⟩ := H
      have hnb8 := NB330_331.out
      have hnc8 := NB331_330.out
      obtain ⟨hcz9_0, hcz9_1, hfz9_0, hfz9_1⟩ := cz2 BK330.out
      have p332 : 0 ≤ (x6_1 : Int) := of_decide_eq_true ha
      have q332 : x6_1 < (l0_0.length : Int) := of_decide_eq_true ha
      obtain ⟨ad332, e332, hx332_0, hx332_1, hx332_2⟩ := at_T89 HR0_0.out x6_1 p332 q332
      cases e332
      replace hx332_0 := (HB.out.cell (World.block_lt_of_cell? w _ hx332_0)).trans hx332_0
      replace hx332_1 := (HB.out.cell (World.block_lt_of_cell? w _ hx332_1)).trans hx332_1
      replace hx332_2 := (HB.out.cell (World.block_lt_of_cell? w _ hx332_2)).trans hx332_2
      replace p332 := eq_true p332
      replace q332 := eq_true q332
      have p333 : 0 ≤ (x6_1 : Int) := of_decide_eq_true ha
      have q333 : x6_1 < (l0_0.length : Int) := of_decide_eq_true ha
      obtain ⟨ad333, e333, hx333_0, hx333_1, hx333_2⟩ := at_T89 HR0_0.out x6_1 p333 q333
      obtain rfl : ad332 = ad333 := (by injection e333)
      replace hx333_0 := (HB.out.cell (World.block_lt_of_cell? w _ hx333_0)).trans hx333_0
      replace hx333_1 := (HB.out.cell (World.block_lt_of_cell? w _ hx333_1)).trans hx333_1
      replace hx333_2 := (HB.out.cell (World.block_lt_of_cell? w _ hx333_2)).trans hx333_2
      replace p333 := eq_true p333
      replace q333 := eq_true q333
      obtain ⟨hcz10_0, hcz10_1, hcz10_2, hfz10_0, hfz10_1, hfz10_2⟩ := cz3 BK331.out
      go_wp2
      refine bodyPost_ret (results_ct rfl _ _ gb331 89 #[.string ((rd_T89 l0_0 x6_1).f0), .int .i64 ((rd_T89 l0_0 x6_1).f1), .int .i64 ((rd_T89 l0_0 x6_1).f2)] (0, 0) _ rfl (by refine pk ?_; refine blk_put (cs := #[.string ((rd_T89 l0_0 x6_1).f0), .int .i64 ((rd_T89 l0_0 x6_1).f1), .int .i64 x332002_1]) ?_ 2 _ rfl; refine pk ?_; refine blk_put (cs := #[.string ((rd_T89 l0_0 x6_1).f0), .int .i64 x332001_1, .int .i64 x332002_1]) ?_ 1 _ rfl; refine pk ?_; refine blk_put (cs := #[.string x332000_1, .int .i64 x332001_1, .int .i64 x332002_1]) ?_ 0 _ rfl; exact pk BK331.out) Tryd.underlying89 rfl kr) rfl ?_
      exact ⟨er0, bl HB.out⟩
     ·rw [if_neg c7] at H
      have c7b0 : (((rd_T89 l0_0 x6_1).f0).toList == a1.toList) = false := beq_eq_false_iff_ne.mpr c7
      have c7b1 : (((rd_T89 l0_0 x6_1).f0).toList != a1.toList) = true := bne_iff_ne.mpr c7
      have H' := Aside0.mk H
      clear H
      have hnb11 := NB330_331.out
      have hnc11 := NB331_330.out
      obtain ⟨hcz12_0, hcz12_1, hfz12_0, hfz12_1⟩ := cz2 BK330.out
      have p332 : 0 ≤ (x6_1 : Int) := of_decide_eq_true ha
      have q332 : x6_1 < (l0_0.length : Int) := of_decide_eq_true ha
      obtain ⟨ad332, e332, hx332_0, hx332_1, hx332_2⟩ := at_T89 HR0_0.out x6_1 p332 q332
      cases e332
      replace hx332_0 := (HB.out.cell (World.block_lt_of_cell? w _ hx332_0)).trans hx332_0
      replace hx332_1 := (HB.out.cell (World.block_lt_of_cell? w _ hx332_1)).trans hx332_1
      replace hx332_2 := (HB.out.cell (World.block_lt_of_cell? w _ hx332_2)).trans hx332_2
      replace p332 := eq_true p332
      replace q332 := eq_true q332
      go_wp2
      go_roundg k1
      case measure => have := HK1.out; omega
      case rel => exact ⟨(wrap64 (x6_1 + 1)), (x332000_1), (x332001_1), (x332002_1), hsr, H', ⟨by have := HK1.out; omega⟩, ⟨pk BK330.out⟩, ⟨pk BK331.out⟩, ⟨bl HB.out⟩⟩
    ·rw [if_neg c6] at H
     exact absurd H (by simp)
   ·rw [if_neg c5] at H
    have c5b0 : decide (x6_1 < (l0_0.length : Int)) = false := decide_eq_false c5
    clear c5
    simp only [Option.some.injEq, Prod.mk.injEq] at H
    obtain ⟨rfl, rfl, rfl, rfl⟩ := H
    have hnb13 := NB330_331.out
    have hnc13 := NB331_330.out
    obtain ⟨hcz14_0, hcz14_1, hfz14_0, hfz14_1⟩ := cz2 BK330.out
    obtain ⟨hcz15_0, hcz15_1, hcz15_2, hfz15_0, hfz15_1, hfz15_2⟩ := cz3 BK331.out
    go_wp2
    refine bodyPost_ret (results_ct rfl _ _ gb331 89 #[.string (⟨#[]⟩ : ByteArray), .int .i64 0, .int .i64 0] (0, 0) _ rfl (by refine pk ?_; refine blk_put (cs := #[.string (⟨#[]⟩ : ByteArray), .int .i64 0, .int .i64 x332002_1]) ?_ 2 _ rfl; refine pk ?_; refine blk_put (cs := #[.string (⟨#[]⟩ : ByteArray), .int .i64 x332001_1, .int .i64 x332002_1]) ?_ 1 _ rfl; refine pk ?_; refine blk_put (cs := #[.string x332000_1, .int .i64 x332001_1, .int .i64 x332002_1]) ?_ 0 _ rfl; exact pk BK331.out) Tryd.underlying89 rfl kr) rfl ?_
    exact ⟨er0, bl HB.out⟩

/-! ### lodestarref05_Zero: function 57 -/
def lodestarref05_Zero.l0 : Nat → List Int → Int → Option (Bool)
 | 0, _, _ => none
 | k + 1, x0, x3 => if x3 < (x0.length : Int) then (if 0 ≤ x3 then (if (rd x0 x3) = 0 then (lodestarref05_Zero.l0 k x0 (wrap64 (x3 + 1))) else (some false)) else (none)) else (some true)
def lodestarref05_Zero.f (k : Nat) (l0 : List Int) : Option (Bool) := lodestarref05_Zero.l0 k l0 0
theorem lodestarref05_Zero.mono_l : ∀ k, (∀ y0 y1, LeO (lodestarref05_Zero.l0 k y0 y1) (lodestarref05_Zero.l0 (k + 1) y0 y1))
 | 0 => fun _ _ r h => by simp [lodestarref05_Zero.l0] at h
 | k + 1 => by
  have ih0 := lodestarref05_Zero.mono_l k
  ·intro y0 y1
   unfold lodestarref05_Zero.l0
   repeat' first
   | (with_reducible exact ih0 _ _)
   | (with_reducible exact LeO.refl _)
   | (with_reducible exact LeO.none _)
   | (with_reducible refine LeO.ite ?_ ?_)
   | (with_reducible refine LeO.bind ?_ (fun _ => ?_))
   | exact ih0 _ _
   | exact LeO.none _
   | refine LeO.ite ?_ ?_
   | refine LeO.bind ?_ (fun _ => ?_)
theorem lodestarref05_Zero.mono : ∀ a0 k, LeO (lodestarref05_Zero.f k a0) (lodestarref05_Zero.f (k + 1) a0) := by
 intro a0 k
 have ih0 := lodestarref05_Zero.mono_l k
 unfold lodestarref05_Zero.f
 repeat' first
   | (with_reducible exact ih0 _ _)
   | (with_reducible exact LeO.refl _)
   | (with_reducible exact LeO.none _)
   | (with_reducible refine LeO.ite ?_ ?_)
   | (with_reducible refine LeO.bind ?_ (fun _ => ?_))
   | exact ih0 _ _
   | exact LeO.none _
   | refine LeO.ite ?_ ?_
   | refine LeO.bind ?_ (fun _ => ?_)
set_option maxHeartbeats 8000000 in
set_option maxRecDepth 100000 in
theorem lodestarref05_Zero.calls (k : Nat) (A0 : Option Addr) (c0 : Nat) (l0 : List Int) (r : Bool) (w : World) (hr0 : Kd.C (Kd.int .i64) w A0 l0.length l0) (hc0 : l0.length ≤ c0) (h : lodestarref05_Zero.f k l0 = some r) :
  Calls Tryd.prog 57 #[.slice A0 l0.length c0] w fun e w' => e = .returned (.bool r) ∧ Drawn0 w w' := by
 have HR0 := Aside0.mk hr0
 have HC0 := Aside0.mk hc0
 clear hr0 hc0
 have H : (lodestarref05_Zero.l0 k l0 0) = some r := h
 clear h
 have H' := Aside0.mk H
 clear H
 go_enter Tryd.func57, Tryd.ntmps57
 go_wp2
 go_loopg [3] k (fun kq v3 w' => ∃ (x3_1 : Int), v3 = .int .i64 x3_1 ∧ Aside0 (lodestarref05_Zero.l0 kq l0 x3_1 = some r) ∧ Aside0 (kq ≤ k) ∧ Drawn0 w w')
 case atStart => exact ⟨(0), hsr, H', ⟨Nat.le_refl _⟩, by repeat (first | exact Drawn0.refl _ | apply Drawn0.step)⟩
 case round =>
  clear H'
  obtain ⟨x3_1, rfl, HA, HK1, ⟨m1, rfl⟩⟩ := hrel
  cases gk with
  | zero => exact absurd HA.out (by simp [lodestarref05_Zero.l0])
  | succ k1 =>
   have H := HA.out
   clear HA
   simp only [lodestarref05_Zero.l0] at H
   by_cases c2 : x3_1 < (l0.length : Int)
   ·rw [if_pos c2] at H
    have c2b0 : decide (x3_1 < (l0.length : Int)) = true := decide_eq_true c2
    clear c2
    by_cases c3 : 0 ≤ x3_1
    ·rw [if_pos c3] at H
     have c3b0 : decide (0 ≤ x3_1) = true := decide_eq_true c3
     clear c3
     by_cases c4 : (rd l0 x3_1) = 0
     ·rw [if_pos c4] at H
      have c4b0 : ((rd l0 x3_1) == 0) = true := beq_iff_eq.mpr c4
      have c4b1 : ((rd l0 x3_1) != 0) = false := bne_eq_false_iff_eq.mpr c4
      clear c4
      have H' := Aside0.mk H
      clear H
      have p334 : 0 ≤ (x3_1 : Int) := of_decide_eq_true ha
      have q334 : x3_1 < (l0.length : Int) := of_decide_eq_true ha
      obtain ⟨ad334, e334, hx334_0⟩ := Kd.at_int HR0.out x3_1 p334 q334
      cases e334
      replace p334 := eq_true p334
      replace q334 := eq_true q334
      go_wp2
      go_roundg k1
      case measure => have := HK1.out; omega
      case rel => exact ⟨(wrap64 (x3_1 + 1)), hsr, H', ⟨by have := HK1.out; omega⟩, by repeat (first | exact Drawn0.refl _ | apply Drawn0.step)⟩
     ·rw [if_neg c4] at H
      have c4b0 : ((rd l0 x3_1) == 0) = false := beq_eq_false_iff_ne.mpr c4
      have c4b1 : ((rd l0 x3_1) != 0) = true := bne_iff_ne.mpr c4
      obtain rfl := Option.some.inj H
      have p334 : 0 ≤ (x3_1 : Int) := of_decide_eq_true ha
      have q334 : x3_1 < (l0.length : Int) := of_decide_eq_true ha
      obtain ⟨ad334, e334, hx334_0⟩ := Kd.at_int HR0.out x3_1 p334 q334
      cases e334
      replace p334 := eq_true p334
      replace q334 := eq_true q334
      go_wp2
      go_ret
      exact ⟨by first | rfl | (simp; done) | (simp [*]; done), by repeat (first | exact Drawn0.refl _ | apply Drawn0.step)⟩
    ·rw [if_neg c3] at H
     exact absurd H (by simp)
   ·rw [if_neg c2] at H
    have c2b0 : decide (x3_1 < (l0.length : Int)) = false := decide_eq_false c2
    clear c2
    obtain rfl := Option.some.inj H
    go_wp2
    go_ret
    exact ⟨by first | rfl | (simp; done) | (simp [*]; done), by repeat (first | exact Drawn0.refl _ | apply Drawn0.step)⟩

/-! ### lodestarref05_Kind: function 58 -/
def lodestarref05_Kind.l0 : Nat → ByteArray → Int → List (S89) → List (S93) → Option (Int)
 | 0, _, _, _, _ => none
 | k + 1, x1, x5, x336000, x336001 => if x5 < (x336001.length : Int) then (if 0 ≤ x5 then (if ((rd_T93 x336001 x5).f0).toList = x1.toList then (some ((rd_T93 x336001 x5).f1)) else (lodestarref05_Kind.l0 k x1 (wrap64 (x5 + 1)) x336000 x336001)) else (none)) else (some 0)
def lodestarref05_Kind.f (k : Nat) (l0_0 : List (S89)) (l0_1 : List (S93)) (a1 : ByteArray) : Option (Int) := lodestarref05_Kind.l0 k a1 0 l0_0 l0_1
theorem lodestarref05_Kind.mono_l : ∀ k, (∀ y0 y1 y2 y3, LeO (lodestarref05_Kind.l0 k y0 y1 y2 y3) (lodestarref05_Kind.l0 (k + 1) y0 y1 y2 y3))
 | 0 => fun _ _ _ _ r h => by simp [lodestarref05_Kind.l0] at h
 | k + 1 => by
  have ih0 := lodestarref05_Kind.mono_l k
  ·intro y0 y1 y2 y3
   unfold lodestarref05_Kind.l0
   repeat' first
   | (with_reducible exact ih0 _ _ _ _)
   | (with_reducible exact LeO.refl _)
   | (with_reducible exact LeO.none _)
   | (with_reducible refine LeO.ite ?_ ?_)
   | (with_reducible refine LeO.bind ?_ (fun _ => ?_))
   | exact ih0 _ _ _ _
   | exact LeO.none _
   | refine LeO.ite ?_ ?_
   | refine LeO.bind ?_ (fun _ => ?_)
theorem lodestarref05_Kind.mono : ∀ a0 a1 a2 k, LeO (lodestarref05_Kind.f k a0 a1 a2) (lodestarref05_Kind.f (k + 1) a0 a1 a2) := by
 intro a0 a1 a2 k
 have ih0 := lodestarref05_Kind.mono_l k
 unfold lodestarref05_Kind.f
 repeat' first
   | (with_reducible exact ih0 _ _ _ _)
   | (with_reducible exact LeO.refl _)
   | (with_reducible exact LeO.none _)
   | (with_reducible refine LeO.ite ?_ ?_)
   | (with_reducible refine LeO.bind ?_ (fun _ => ?_))
   | exact ih0 _ _ _ _
   | exact LeO.none _
   | refine LeO.ite ?_ ?_
   | refine LeO.bind ?_ (fun _ => ?_)
set_option maxHeartbeats 8000000 in
set_option maxRecDepth 100000 in
theorem lodestarref05_Kind.calls (k : Nat) (A0_0 : Option Addr) (c0_0 : Nat) (l0_0 : List (S89)) (A0_1 : Option Addr) (c0_1 : Nat) (l0_1 : List (S93)) (a1 : ByteArray) (r : Int) (w : World) (hr0_0 : Kd.C k89 w A0_0 l0_0.length l0_0) (hc0_0 : l0_0.length ≤ c0_0) (hr0_1 : Kd.C k93 w A0_1 l0_1.length l0_1) (hc0_1 : l0_1.length ≤ c0_1) (h : lodestarref05_Kind.f k l0_0 l0_1 a1 = some r) :
  Calls Tryd.prog 58 #[.agg #[.slice A0_0 l0_0.length c0_0, .slice A0_1 l0_1.length c0_1], .string a1] w fun e w' => e = .returned (.int .i64 r) ∧ Below w.heap.size w w' := by
 have hu51 := Tryd.underlying51
 have HR0_0 := Aside0.mk hr0_0
 have HC0_0 := Aside0.mk hc0_0
 clear hr0_0 hc0_0
 have HR0_1 := Aside0.mk hr0_1
 have HC0_1 := Aside0.mk hc0_1
 clear hr0_1 hc0_1
 have HB := Aside0.mk (Below.refl w.heap.size w)
 have H : (lodestarref05_Kind.l0 k a1 0 l0_0 l0_1) = some r := h
 clear h
 have H' := Aside0.mk H
 clear H
 go_enter Tryd.func58, Tryd.ntmps58
 go_wp2_with (first | ((with_reducible refine gate_dst (N := 2) rfl ?_); refine box_event ?hg (N := 2) ?hd (cs := #[.slice A0_0 l0_0.length c0_0, .slice A0_1 l0_1.length c0_1]) (t := 51) ?hr ?_; (case hd => rfl); (case hg => rfl); (case hr => first | (go_simp; done) | (go_simp; rfl)); intro gb335 hg w3 hbox hb; have BK335 := Aside0.mk (hbox); have GW335 := Aside0.mk (gs (w := w) hg (bl HB.out)); have GE335 := Aside0.mk (gs (w := w) hg (bl HB.out)); replace HB := Aside0.mk (below_step (bl HB.out) hb); clear hb hbox hg))
 go_loopg [5] k (fun kq v5 w' => ∃ (x5_1 : Int), v5 = .int .i64 x5_1 ∧ Aside0 (lodestarref05_Kind.l0 kq a1 x5_1 l0_0 l0_1 = some r) ∧ Aside0 (kq ≤ k) ∧ Aside0 (w'.heap[gb335]? = some (.cells #[(.slice A0_0 l0_0.length c0_0), (.slice A0_1 l0_1.length c0_1)] 51 (0, 0))) ∧ Aside0 (Below w.heap.size w w'))
 case atStart => exact ⟨(0), hsr, H', ⟨Nat.le_refl _⟩, ⟨pk BK335.out⟩, ⟨bl HB.out⟩⟩
 case round =>
  clear H'
  try clear p2
  obtain ⟨x5_1, rfl, HA, HK1, BK335, HB⟩ := hrel
  cases gk with
  | zero => exact absurd HA.out (by simp [lodestarref05_Kind.l0])
  | succ k1 =>
   have H := HA.out
   clear HA
   simp only [lodestarref05_Kind.l0] at H
   by_cases c4 : x5_1 < (l0_1.length : Int)
   ·rw [if_pos c4] at H
    have c4b0 : decide (x5_1 < (l0_1.length : Int)) = true := decide_eq_true c4
    clear c4
    by_cases c5 : 0 ≤ x5_1
    ·rw [if_pos c5] at H
     have c5b0 : decide (0 ≤ x5_1) = true := decide_eq_true c5
     clear c5
     by_cases c6 : ((rd_T93 l0_1 x5_1).f0).toList = a1.toList
     ·rw [if_pos c6] at H
      have c6b0 : (((rd_T93 l0_1 x5_1).f0).toList == a1.toList) = true := beq_iff_eq.mpr c6
      have c6b1 : (((rd_T93 l0_1 x5_1).f0).toList != a1.toList) = false := bne_eq_false_iff_eq.mpr c6
      clear c6
      obtain rfl := Option.some.inj H
      obtain ⟨hcz7_0, hcz7_1, hfz7_0, hfz7_1⟩ := cz2 BK335.out
      have p336 : 0 ≤ (x5_1 : Int) := of_decide_eq_true ha
      have q336 : x5_1 < (l0_1.length : Int) := of_decide_eq_true ha
      obtain ⟨ad336, e336, hx336_0, hx336_1⟩ := at_T93 HR0_1.out x5_1 p336 q336
      cases e336
      replace hx336_0 := (HB.out.cell (World.block_lt_of_cell? w _ hx336_0)).trans hx336_0
      replace hx336_1 := (HB.out.cell (World.block_lt_of_cell? w _ hx336_1)).trans hx336_1
      replace p336 := eq_true p336
      replace q336 := eq_true q336
      have p337 : 0 ≤ (x5_1 : Int) := of_decide_eq_true ha
      have q337 : x5_1 < (l0_1.length : Int) := of_decide_eq_true ha
      obtain ⟨ad337, e337, hx337_0, hx337_1⟩ := at_T93 HR0_1.out x5_1 p337 q337
      obtain rfl : ad336 = ad337 := (by injection e337)
      replace hx337_0 := (HB.out.cell (World.block_lt_of_cell? w _ hx337_0)).trans hx337_0
      replace hx337_1 := (HB.out.cell (World.block_lt_of_cell? w _ hx337_1)).trans hx337_1
      replace p337 := eq_true p337
      replace q337 := eq_true q337
      go_wp2
      go_ret
      exact ⟨er0, bl HB.out⟩
     ·rw [if_neg c6] at H
      have c6b0 : (((rd_T93 l0_1 x5_1).f0).toList == a1.toList) = false := beq_eq_false_iff_ne.mpr c6
      have c6b1 : (((rd_T93 l0_1 x5_1).f0).toList != a1.toList) = true := bne_iff_ne.mpr c6
      have H' := Aside0.mk H
      clear H
      obtain ⟨hcz8_0, hcz8_1, hfz8_0, hfz8_1⟩ := cz2 BK335.out
      have p336 : 0 ≤ (x5_1 : Int) := of_decide_eq_true ha
      have q336 : x5_1 < (l0_1.length : Int) := of_decide_eq_true ha
      obtain ⟨ad336, e336, hx336_0, hx336_1⟩ := at_T93 HR0_1.out x5_1 p336 q336
      cases e336
      replace hx336_0 := (HB.out.cell (World.block_lt_of_cell? w _ hx336_0)).trans hx336_0
      replace hx336_1 := (HB.out.cell (World.block_lt_of_cell? w _ hx336_1)).trans hx336_1
      replace p336 := eq_true p336
      replace q336 := eq_true q336
      go_wp2
      go_roundg k1
      case measure => have := HK1.out; omega
      case rel => exact ⟨(wrap64 (x5_1 + 1)), hsr, H', ⟨by have := HK1.out; omega⟩, ⟨pk BK335.out⟩, ⟨bl HB.out⟩⟩
    ·rw [if_neg c5] at H
     exact absurd H (by simp)
   ·rw [if_neg c4] at H
    have c4b0 : decide (x5_1 < (l0_1.length : Int)) = false := decide_eq_false c4
    clear c4
    obtain rfl := Option.some.inj H
    obtain ⟨hcz9_0, hcz9_1, hfz9_0, hfz9_1⟩ := cz2 BK335.out
    go_wp2
    go_ret
    exact ⟨er0, bl HB.out⟩

end Go.Proofs.YtbeljekpknpadaaDoor.PPayU
