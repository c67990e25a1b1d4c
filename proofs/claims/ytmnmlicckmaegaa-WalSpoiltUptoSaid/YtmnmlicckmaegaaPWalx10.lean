-- Written by a program of this session on top of the print: some functions by hand.
import Derived.Test.YtmnmlicckmaegaaPWalx0
import Derived.Test.YtmnmlicckmaegaaPWalx6
import Derived.Test.YtmnmlicckmaegaaPWalx8
import Derived.Test.YtmnmlicckmaegaaPWalx9
namespace Go.Proofs.Ytmnmlicckmaegaa.PWal
open Go.RowKit Go.Proofs.YtmnmlicckmaegaaW.PrintWords Go.Proofs.YtmnmlicckmaegaaW.PrintLast Go.Proofs.YtmnmlicckmaegaaW.PrintMore
attribute [local go_sem] max2_int min2_int max_two min_two max_three min_three max_four min_four   -- for this text's walks alone
set_option linter.unusedVariables false
set_option linter.unusedSimpArgs false

/-! ### lodestarlaw09_WalTorn: function 4 -/
mutual
def lodestarlaw09_WalTorn.l0 : Nat → List ByteArray → Int → Int → Int → Option (Bool)
  | 0, _, _, _, _ => none
  | k + 1, x0, x1, x2, x7 => if x7 < (x0.length : Int) then (if 0 ≤ x7 then (if ((rdOf ByteArray.empty x0 x7).size : Int) > 65536 then ((lodestarlaw09_awake.f k).bind fun t209 => (some t209)) else (lodestarlaw09_WalTorn.l0 k x0 x1 x2 (wrap64 (x7 + 1)))) else (none)) else (if x1 < 1 then (lodestarlaw09_WalTorn.j1 k x0 x1 x2 true) else (if x1 > 1125899906842624 then (lodestarlaw09_WalTorn.j1 k x0 x1 x2 true) else (lodestarlaw09_WalTorn.j1 k x0 x1 x2 ((x0.length : Int) == 0))))
def lodestarlaw09_WalTorn.j1 : Nat → List ByteArray → Int → Int → Bool → Option (Bool)
  | 0, _, _, _, _ => none
  | k + 1, x0, x1, x2, x39 => if x39 = true then ((lodestarlaw09_awake.f k).bind fun t210 => (some t210)) else ((lodestarlaw09_joined.f k x0 x1).bind fun bt211 => (if bt211.2.2 = true then (if (wrap64 ((bt211.1.size : Int) + 1)) = 0 then (none) else (if 0 ≤ (Int.tmod (wrap64 ((wrap64 ((Int.tmod x2 (wrap64 ((bt211.1.size : Int) + 1))) + (bt211.1.size : Int))) + 1)) (wrap64 ((bt211.1.size : Int) + 1))) then (if (Int.tmod (wrap64 ((wrap64 ((Int.tmod x2 (wrap64 ((bt211.1.size : Int) + 1))) + (bt211.1.size : Int))) + 1)) (wrap64 ((bt211.1.size : Int) + 1))) ≤ (bt211.1.size : Int) then ((wal_Scan.f k (bt211.1.extract 0 ((Int.tmod (wrap64 ((wrap64 ((Int.tmod x2 (wrap64 ((bt211.1.size : Int) + 1))) + (bt211.1.size : Int))) + 1)) (wrap64 ((bt211.1.size : Int) + 1))) : Int).toNat)).bind fun bt216 => (lodestarlaw09_WalTorn.l1 k x0 x1 (Int.tmod (wrap64 ((wrap64 ((Int.tmod x2 (wrap64 ((bt211.1.size : Int) + 1))) + (bt211.1.size : Int))) + 1)) (wrap64 ((bt211.1.size : Int) + 1))) bt211.2.1 bt216.1 bt216.2.1 bt216.2.2 0)) else (none)) else (none))) else (some false)))
def lodestarlaw09_WalTorn.j3 : Nat → List ByteArray → Int → Int → List Int → List (S23) → Int → Int → Int → Option (Bool)
  | 0, _, _, _, _, _, _, _, _ => none
  | k + 1, x0, x1, x2, x9, x11, x12, x13, x14 => if (x11.length : Int) = x14 then (if 0 ≤ x14 then (if x14 < (x9.length : Int) then (if x12 = (rd x9 x14) then (if ((x13 == 0) != ((rd x9 x14) == x2)) = true then (lodestarlaw09_WalTorn.j4 k x0 x1 x11 x14 true) else (if x13 = 0 then (lodestarlaw09_WalTorn.j4 k x0 x1 x11 x14 false) else (lodestarlaw09_WalTorn.j4 k x0 x1 x11 x14 (x13 != 91)))) else (lodestarlaw09_WalTorn.j4 k x0 x1 x11 x14 true)) else (none)) else (none)) else (lodestarlaw09_WalTorn.j4 k x0 x1 x11 x14 true)
def lodestarlaw09_WalTorn.j4 : Nat → List ByteArray → Int → List (S23) → Int → Bool → Option (Bool)
  | 0, _, _, _, _, _ => none
  | k + 1, x0, x1, x11, x14, x117 => if x117 = true then (some false) else (lodestarlaw09_WalTorn.l2 k x0 x1 x11 x14 0)
def lodestarlaw09_WalTorn.l2 : Nat → List ByteArray → Int → List (S23) → Int → Int → Option (Bool)
  | 0, _, _, _, _, _ => none
  | k + 1, x0, x1, x11, x14, x15 => if x15 < x14 then (if 0 ≤ x15 then (if x15 < (x11.length : Int) then (if ((rd_T23 x11 x15).f0) = (wrap64 (x1 + x15)) then (if x15 < (x0.length : Int) then (if ((rd_T23 x11 x15).f1).toList = (rdOf ByteArray.empty x0 x15).toList then (lodestarlaw09_WalTorn.l2 k x0 x1 x11 x14 (wrap64 (x15 + 1))) else (some false)) else (none)) else (some false)) else (none)) else (none)) else ((lodestarlaw09_awake.f k).bind fun t227 => (some t227))
def lodestarlaw09_WalTorn.l1 : Nat → List ByteArray → Int → Int → List Int → List (S23) → Int → Int → Int → Option (Bool)
  | 0, _, _, _, _, _, _, _, _ => none
  | k + 1, x0, x1, x2, x9, x11, x12, x13, x14 => if (wrap64 (x14 + 1)) < (x9.length : Int) then (if 0 ≤ (wrap64 (x14 + 1)) then (if (rd x9 (wrap64 (x14 + 1))) ≤ x2 then (lodestarlaw09_WalTorn.l1 k x0 x1 x2 x9 x11 x12 x13 (wrap64 (x14 + 1))) else (lodestarlaw09_WalTorn.j3 k x0 x1 x2 x9 x11 x12 x13 x14)) else (none)) else (lodestarlaw09_WalTorn.j3 k x0 x1 x2 x9 x11 x12 x13 x14)
end
def lodestarlaw09_WalTorn.f (k : Nat) (l0 : List ByteArray) (a1 : Int) (a2 : Int) : Option (Bool) := lodestarlaw09_WalTorn.l0 k l0 a1 a2 0
theorem lodestarlaw09_WalTorn.mono_l : ∀ k, (∀ y0 y1 y2 y3, LeO (lodestarlaw09_WalTorn.l0 k y0 y1 y2 y3) (lodestarlaw09_WalTorn.l0 (k + 1) y0 y1 y2 y3)) ∧ (∀ y0 y1 y2 y3, LeO (lodestarlaw09_WalTorn.j1 k y0 y1 y2 y3) (lodestarlaw09_WalTorn.j1 (k + 1) y0 y1 y2 y3)) ∧ (∀ y0 y1 y2 y3 y4 y5 y6 y7, LeO (lodestarlaw09_WalTorn.j3 k y0 y1 y2 y3 y4 y5 y6 y7) (lodestarlaw09_WalTorn.j3 (k + 1) y0 y1 y2 y3 y4 y5 y6 y7)) ∧ (∀ y0 y1 y2 y3 y4, LeO (lodestarlaw09_WalTorn.j4 k y0 y1 y2 y3 y4) (lodestarlaw09_WalTorn.j4 (k + 1) y0 y1 y2 y3 y4)) ∧ (∀ y0 y1 y2 y3 y4, LeO (lodestarlaw09_WalTorn.l2 k y0 y1 y2 y3 y4) (lodestarlaw09_WalTorn.l2 (k + 1) y0 y1 y2 y3 y4)) ∧ (∀ y0 y1 y2 y3 y4 y5 y6 y7, LeO (lodestarlaw09_WalTorn.l1 k y0 y1 y2 y3 y4 y5 y6 y7) (lodestarlaw09_WalTorn.l1 (k + 1) y0 y1 y2 y3 y4 y5 y6 y7))
  | 0 => ⟨fun _ _ _ _ r h => by simp [lodestarlaw09_WalTorn.l0] at h, fun _ _ _ _ r h => by simp [lodestarlaw09_WalTorn.j1] at h, fun _ _ _ _ _ _ _ _ r h => by simp [lodestarlaw09_WalTorn.j3] at h, fun _ _ _ _ _ r h => by simp [lodestarlaw09_WalTorn.j4] at h, fun _ _ _ _ _ r h => by simp [lodestarlaw09_WalTorn.l2] at h, fun _ _ _ _ _ _ _ _ r h => by simp [lodestarlaw09_WalTorn.l1] at h⟩
  | k + 1 => by
    obtain ⟨ih0, ih1, ih2, ih3, ih4, ih5⟩ := lodestarlaw09_WalTorn.mono_l k
    refine ⟨?_, ?_, ?_, ?_, ?_, ?_⟩
    · intro y0 y1 y2 y3
      unfold lodestarlaw09_WalTorn.l0
      repeat' first
      | (with_reducible exact ih0 _ _ _ _)
      | (with_reducible exact ih1 _ _ _ _)
      | (with_reducible exact ih2 _ _ _ _ _ _ _ _)
      | (with_reducible exact ih3 _ _ _ _ _)
      | (with_reducible exact ih4 _ _ _ _ _)
      | (with_reducible exact ih5 _ _ _ _ _ _ _ _)
      | (with_reducible exact lodestarlaw09_awake.mono _)
      | (with_reducible exact lodestarlaw09_joined.mono _ _ _)
      | (with_reducible exact wal_Scan.mono _ _)
      | (with_reducible exact LeO.refl _)
      | (with_reducible exact LeO.none _)
      | (with_reducible refine LeO.ite ?_ ?_)
      | (with_reducible refine LeO.bind ?_ (fun _ => ?_))
      | exact ih0 _ _ _ _
      | exact ih1 _ _ _ _
      | exact ih2 _ _ _ _ _ _ _ _
      | exact ih3 _ _ _ _ _
      | exact ih4 _ _ _ _ _
      | exact ih5 _ _ _ _ _ _ _ _
      | exact lodestarlaw09_awake.mono _
      | exact lodestarlaw09_joined.mono _ _ _
      | exact wal_Scan.mono _ _
      | exact LeO.none _
      | refine LeO.ite ?_ ?_
      | refine LeO.bind ?_ (fun _ => ?_)
    · intro y0 y1 y2 y3
      unfold lodestarlaw09_WalTorn.j1
      repeat' first
      | (with_reducible exact ih0 _ _ _ _)
      | (with_reducible exact ih1 _ _ _ _)
      | (with_reducible exact ih2 _ _ _ _ _ _ _ _)
      | (with_reducible exact ih3 _ _ _ _ _)
      | (with_reducible exact ih4 _ _ _ _ _)
      | (with_reducible exact ih5 _ _ _ _ _ _ _ _)
      | (with_reducible exact lodestarlaw09_awake.mono _)
      | (with_reducible exact lodestarlaw09_joined.mono _ _ _)
      | (with_reducible exact wal_Scan.mono _ _)
      | (with_reducible exact LeO.refl _)
      | (with_reducible exact LeO.none _)
      | (with_reducible refine LeO.ite ?_ ?_)
      | (with_reducible refine LeO.bind ?_ (fun _ => ?_))
      | exact ih0 _ _ _ _
      | exact ih1 _ _ _ _
      | exact ih2 _ _ _ _ _ _ _ _
      | exact ih3 _ _ _ _ _
      | exact ih4 _ _ _ _ _
      | exact ih5 _ _ _ _ _ _ _ _
      | exact lodestarlaw09_awake.mono _
      | exact lodestarlaw09_joined.mono _ _ _
      | exact wal_Scan.mono _ _
      | exact LeO.none _
      | refine LeO.ite ?_ ?_
      | refine LeO.bind ?_ (fun _ => ?_)
    · intro y0 y1 y2 y3 y4 y5 y6 y7
      unfold lodestarlaw09_WalTorn.j3
      repeat' first
      | (with_reducible exact ih0 _ _ _ _)
      | (with_reducible exact ih1 _ _ _ _)
      | (with_reducible exact ih2 _ _ _ _ _ _ _ _)
      | (with_reducible exact ih3 _ _ _ _ _)
      | (with_reducible exact ih4 _ _ _ _ _)
      | (with_reducible exact ih5 _ _ _ _ _ _ _ _)
      | (with_reducible exact lodestarlaw09_awake.mono _)
      | (with_reducible exact lodestarlaw09_joined.mono _ _ _)
      | (with_reducible exact wal_Scan.mono _ _)
      | (with_reducible exact LeO.refl _)
      | (with_reducible exact LeO.none _)
      | (with_reducible refine LeO.ite ?_ ?_)
      | (with_reducible refine LeO.bind ?_ (fun _ => ?_))
      | exact ih0 _ _ _ _
      | exact ih1 _ _ _ _
      | exact ih2 _ _ _ _ _ _ _ _
      | exact ih3 _ _ _ _ _
      | exact ih4 _ _ _ _ _
      | exact ih5 _ _ _ _ _ _ _ _
      | exact lodestarlaw09_awake.mono _
      | exact lodestarlaw09_joined.mono _ _ _
      | exact wal_Scan.mono _ _
      | exact LeO.none _
      | refine LeO.ite ?_ ?_
      | refine LeO.bind ?_ (fun _ => ?_)
    · intro y0 y1 y2 y3 y4
      unfold lodestarlaw09_WalTorn.j4
      repeat' first
      | (with_reducible exact ih0 _ _ _ _)
      | (with_reducible exact ih1 _ _ _ _)
      | (with_reducible exact ih2 _ _ _ _ _ _ _ _)
      | (with_reducible exact ih3 _ _ _ _ _)
      | (with_reducible exact ih4 _ _ _ _ _)
      | (with_reducible exact ih5 _ _ _ _ _ _ _ _)
      | (with_reducible exact lodestarlaw09_awake.mono _)
      | (with_reducible exact lodestarlaw09_joined.mono _ _ _)
      | (with_reducible exact wal_Scan.mono _ _)
      | (with_reducible exact LeO.refl _)
      | (with_reducible exact LeO.none _)
      | (with_reducible refine LeO.ite ?_ ?_)
      | (with_reducible refine LeO.bind ?_ (fun _ => ?_))
      | exact ih0 _ _ _ _
      | exact ih1 _ _ _ _
      | exact ih2 _ _ _ _ _ _ _ _
      | exact ih3 _ _ _ _ _
      | exact ih4 _ _ _ _ _
      | exact ih5 _ _ _ _ _ _ _ _
      | exact lodestarlaw09_awake.mono _
      | exact lodestarlaw09_joined.mono _ _ _
      | exact wal_Scan.mono _ _
      | exact LeO.none _
      | refine LeO.ite ?_ ?_
      | refine LeO.bind ?_ (fun _ => ?_)
    · intro y0 y1 y2 y3 y4
      unfold lodestarlaw09_WalTorn.l2
      repeat' first
      | (with_reducible exact ih0 _ _ _ _)
      | (with_reducible exact ih1 _ _ _ _)
      | (with_reducible exact ih2 _ _ _ _ _ _ _ _)
      | (with_reducible exact ih3 _ _ _ _ _)
      | (with_reducible exact ih4 _ _ _ _ _)
      | (with_reducible exact ih5 _ _ _ _ _ _ _ _)
      | (with_reducible exact lodestarlaw09_awake.mono _)
      | (with_reducible exact lodestarlaw09_joined.mono _ _ _)
      | (with_reducible exact wal_Scan.mono _ _)
      | (with_reducible exact LeO.refl _)
      | (with_reducible exact LeO.none _)
      | (with_reducible refine LeO.ite ?_ ?_)
      | (with_reducible refine LeO.bind ?_ (fun _ => ?_))
      | exact ih0 _ _ _ _
      | exact ih1 _ _ _ _
      | exact ih2 _ _ _ _ _ _ _ _
      | exact ih3 _ _ _ _ _
      | exact ih4 _ _ _ _ _
      | exact ih5 _ _ _ _ _ _ _ _
      | exact lodestarlaw09_awake.mono _
      | exact lodestarlaw09_joined.mono _ _ _
      | exact wal_Scan.mono _ _
      | exact LeO.none _
      | refine LeO.ite ?_ ?_
      | refine LeO.bind ?_ (fun _ => ?_)
    · intro y0 y1 y2 y3 y4 y5 y6 y7
      unfold lodestarlaw09_WalTorn.l1
      repeat' first
      | (with_reducible exact ih0 _ _ _ _)
      | (with_reducible exact ih1 _ _ _ _)
      | (with_reducible exact ih2 _ _ _ _ _ _ _ _)
      | (with_reducible exact ih3 _ _ _ _ _)
      | (with_reducible exact ih4 _ _ _ _ _)
      | (with_reducible exact ih5 _ _ _ _ _ _ _ _)
      | (with_reducible exact lodestarlaw09_awake.mono _)
      | (with_reducible exact lodestarlaw09_joined.mono _ _ _)
      | (with_reducible exact wal_Scan.mono _ _)
      | (with_reducible exact LeO.refl _)
      | (with_reducible exact LeO.none _)
      | (with_reducible refine LeO.ite ?_ ?_)
      | (with_reducible refine LeO.bind ?_ (fun _ => ?_))
      | exact ih0 _ _ _ _
      | exact ih1 _ _ _ _
      | exact ih2 _ _ _ _ _ _ _ _
      | exact ih3 _ _ _ _ _
      | exact ih4 _ _ _ _ _
      | exact ih5 _ _ _ _ _ _ _ _
      | exact lodestarlaw09_awake.mono _
      | exact lodestarlaw09_joined.mono _ _ _
      | exact wal_Scan.mono _ _
      | exact LeO.none _
      | refine LeO.ite ?_ ?_
      | refine LeO.bind ?_ (fun _ => ?_)
theorem lodestarlaw09_WalTorn.mono : ∀ a0 a1 a2 k, LeO (lodestarlaw09_WalTorn.f k a0 a1 a2) (lodestarlaw09_WalTorn.f (k + 1) a0 a1 a2) := by
  intro a0 a1 a2 k
  obtain ⟨ih0, ih1, ih2, ih3, ih4, ih5⟩ := lodestarlaw09_WalTorn.mono_l k
  unfold lodestarlaw09_WalTorn.f
  repeat' first
      | (with_reducible exact ih0 _ _ _ _)
      | (with_reducible exact ih1 _ _ _ _)
      | (with_reducible exact ih2 _ _ _ _ _ _ _ _)
      | (with_reducible exact ih3 _ _ _ _ _)
      | (with_reducible exact ih4 _ _ _ _ _)
      | (with_reducible exact ih5 _ _ _ _ _ _ _ _)
      | (with_reducible exact lodestarlaw09_awake.mono _)
      | (with_reducible exact lodestarlaw09_joined.mono _ _ _)
      | (with_reducible exact wal_Scan.mono _ _)
      | (with_reducible exact LeO.refl _)
      | (with_reducible exact LeO.none _)
      | (with_reducible refine LeO.ite ?_ ?_)
      | (with_reducible refine LeO.bind ?_ (fun _ => ?_))
      | exact ih0 _ _ _ _
      | exact ih1 _ _ _ _
      | exact ih2 _ _ _ _ _ _ _ _
      | exact ih3 _ _ _ _ _
      | exact ih4 _ _ _ _ _
      | exact ih5 _ _ _ _ _ _ _ _
      | exact lodestarlaw09_awake.mono _
      | exact lodestarlaw09_joined.mono _ _ _
      | exact wal_Scan.mono _ _
      | exact LeO.none _
      | refine LeO.ite ?_ ?_
      | refine LeO.bind ?_ (fun _ => ?_)
set_option maxHeartbeats 8000000 in
set_option maxRecDepth 100000 in
theorem lodestarlaw09_WalTorn.calls (k : Nat) (A0 : Option Addr) (c0 : Nat) (l0 : List ByteArray) (a1 : Int) (a2 : Int) (r : Bool) (w : World) (hr0 : Kd.C Kd.string w A0 l0.length l0) (hc0 : l0.length ≤ c0) (h : lodestarlaw09_WalTorn.f k l0 a1 a2 = some r) :
    Calls Try.prog 4 #[.slice A0 l0.length c0, .int .i64 a1, .int .i64 a2] w fun e w' => e = .returned (.bool r) ∧ Below w.heap.size w w' := by
  have HR0 := Aside0.mk hr0
  have HC0 := Aside0.mk hc0
  clear hr0 hc0
  have HB := Aside0.mk (Below.refl w.heap.size w)
  have H : (lodestarlaw09_WalTorn.l0 k l0 a1 a2 0) = some r := h
  clear h
  have H' := Aside0.mk H
  clear H
  go_enter Try.func4, Try.ntmps4
  go_wp2
  repeat (go_quiet (fail); try go_wp2)
  go_loopg [7] k (fun kq v7 w' => ∃ (x7_1 : Int), v7 = .int .i64 x7_1 ∧ Aside0 (lodestarlaw09_WalTorn.l0 kq l0 a1 a2 x7_1 = some r) ∧ Aside0 (kq ≤ k) ∧ Aside0 (Below w.heap.size w w'))
  case atStart => exact ⟨(0), (by first | rfl | (simp; done) | (simp [*]; done)), H', ⟨Nat.le_refl _⟩, ⟨by repeat (first | (with_reducible first | exact HB.out | apply below_alloc | apply pw_below_drewN | apply below_drew1) | exact HB.out)⟩⟩
  case round =>
    clear H'
    try clear p2
    obtain ⟨x7_1, rfl, HA, HK1, HB⟩ := hrel
    cases gk with
    | zero => exact absurd HA.out (by simp [lodestarlaw09_WalTorn.l0])
    | succ k1 =>
      have H := HA.out
      clear HA
      simp only [lodestarlaw09_WalTorn.l0] at H
      by_cases c4 : x7_1 < (l0.length : Int)
      · rw [if_pos c4] at H
        have c4b0 : decide (x7_1 < (l0.length : Int)) = true := decide_eq_true c4
        clear c4
        by_cases c5 : 0 ≤ x7_1
        · rw [if_pos c5] at H
          have c5b0 : decide (0 ≤ x7_1) = true := decide_eq_true c5
          clear c5
          by_cases c6 : ((rdOf ByteArray.empty l0 x7_1).size : Int) > 65536
          · rw [if_pos c6] at H
            have c6b0 : decide (65536 < ((rdOf ByteArray.empty l0 x7_1).size : Int)) = true := decide_eq_true c6
            have c6b1 : decide (65536 < (rdOf ByteArray.empty l0 x7_1).size) = true := decide_eq_true (by omega)
            clear c6
            replace H := Option.bind_eq_some_iff.mp H
            obtain ⟨t209, A70, H⟩ := H
            replace H : (some t209) = some r := H
            have A7 := Aside0.mk A70
            clear A70
            obtain rfl := Option.some.inj H
            have p208 : 0 ≤ (x7_1 : Int) := of_decide_eq_true (by first | (with_reducible assumption) | assumption)
            have q208 : x7_1 < (l0.length : Int) := of_decide_eq_true (by first | (with_reducible assumption) | assumption)
            obtain ⟨ad208, e208, hx208_0⟩ := Kd.at_string HR0.out x7_1 p208 q208
            cases e208
            replace hx208_0 := (HB.out.cell (World.block_lt_of_cell? w _ hx208_0)).trans hx208_0
            replace p208 := eq_true p208
            replace q208 := eq_true q208
            go_wp2_with (first | (go_at_call 16; (with_reducible refine (lodestarlaw09_awake.calls k1  t209 _ A7.out).mono ?_); rintro e w8 ⟨rfl, hb⟩; have n0_ := Aside0.mk (below_step (by repeat (first | (with_reducible first | exact HB.out | apply below_alloc | apply pw_below_drewN | apply below_drew1) | exact HB.out)) hb); clear HB; have HB := n0_; clear n0_; (try clear hb); (try clear hb2); (try clear hk); (try clear hi)))
            repeat (go_quiet (first | (go_at_call 16; (with_reducible refine (lodestarlaw09_awake.calls k1  t209 _ A7.out).mono ?_); rintro e w8 ⟨rfl, hb⟩; have n0_ := Aside0.mk (below_step (by repeat (first | (with_reducible first | exact HB.out | apply below_alloc | apply pw_below_drewN | apply below_drew1) | exact HB.out)) hb); clear HB; have HB := n0_; clear n0_; (try clear hb); (try clear hb2); (try clear hk); (try clear hi))); try go_wp2_with (first | (go_at_call 16; (with_reducible refine (lodestarlaw09_awake.calls k1  t209 _ A7.out).mono ?_); rintro e w8 ⟨rfl, hb⟩; have n0_ := Aside0.mk (below_step (by repeat (first | (with_reducible first | exact HB.out | apply below_alloc | apply pw_below_drewN | apply below_drew1) | exact HB.out)) hb); clear HB; have HB := n0_; clear n0_; (try clear hb); (try clear hb2); (try clear hk); (try clear hi))))
            go_ret
            exact ⟨by first | rfl | (simp [errW_none, errW_some] <;> rfl) | (simp [*, errW_none, errW_some] <;> rfl), by repeat (first | (with_reducible first | exact HB.out | apply below_alloc | apply pw_below_drewN | apply below_drew1) | exact HB.out)⟩
          · rw [if_neg c6] at H
            have c6b0 : decide (65536 < ((rdOf ByteArray.empty l0 x7_1).size : Int)) = false := decide_eq_false c6
            have c6b1 : decide (65536 < (rdOf ByteArray.empty l0 x7_1).size) = false := decide_eq_false (by omega)
            clear c6
            have H' := Aside0.mk H
            clear H
            have p208 : 0 ≤ (x7_1 : Int) := of_decide_eq_true (by first | (with_reducible assumption) | assumption)
            have q208 : x7_1 < (l0.length : Int) := of_decide_eq_true (by first | (with_reducible assumption) | assumption)
            obtain ⟨ad208, e208, hx208_0⟩ := Kd.at_string HR0.out x7_1 p208 q208
            cases e208
            replace hx208_0 := (HB.out.cell (World.block_lt_of_cell? w _ hx208_0)).trans hx208_0
            replace p208 := eq_true p208
            replace q208 := eq_true q208
            go_wp2
            repeat (go_quiet (fail); try go_wp2)
            go_roundg k1
            case measure => have := HK1.out; omega
            case rel => exact ⟨(wrap64 (x7_1 + 1)), (by first | rfl | (simp; done) | (simp [*]; done)), H', ⟨by have := HK1.out; omega⟩, ⟨by repeat (first | (with_reducible first | exact HB.out | apply below_alloc | apply pw_below_drewN | apply below_drew1) | exact HB.out)⟩⟩
        · rw [if_neg c5] at H
          exact absurd H (by simp)
      · rw [if_neg c4] at H
        have c4b0 : decide (x7_1 < (l0.length : Int)) = false := decide_eq_false c4
        clear c4
        have HC9 := Aside0.mk H
        clear H
        go_upto_region 6 with (fail)
        repeat (go_quiet (fail); go_upto_region 6 with (fail))
        go_cut [39] (fun v39 wc => ∃ (kq : Nat) (x39_8 : Bool), v39 = .bool x39_8 ∧ Aside0 (lodestarlaw09_WalTorn.j1 kq l0 a1 a2 x39_8 = some r) ∧ Aside0 (kq ≤ k1) ∧ Aside0 (Below w.heap.size w wc))
        case first =>
          have H := HC9.out
          clear HC9
          by_cases c10 : a1 < 1
          · rw [if_pos c10] at H
            have c10b0 : decide (a1 < 1) = true := decide_eq_true c10
            clear c10
            (first | rw [c10b0] | (simp only [i64_w, i32_w]; rw [c10b0]) | skip)
            have H' := Aside0.mk H
            clear H
            go_wp2
            repeat (go_quiet (fail); try go_wp2)
            go_meet
            case rel => exact ⟨_, (true), (by first | rfl | (simp; done) | (simp [*]; done)), H', ⟨by have := HK1.out; first | omega | exact Nat.le_refl _⟩, ⟨by repeat (first | (with_reducible first | exact HB.out | apply below_alloc | apply pw_below_drewN | apply below_drew1) | exact HB.out)⟩⟩
          · rw [if_neg c10] at H
            have c10b0 : decide (a1 < 1) = false := decide_eq_false c10
            clear c10
            (first | rw [c10b0] | (simp only [i64_w, i32_w]; rw [c10b0]) | skip)
            by_cases c11 : a1 > 1125899906842624
            · rw [if_pos c11] at H
              have c11b0 : decide (1125899906842624 < a1) = true := decide_eq_true c11
              clear c11
              have H' := Aside0.mk H
              clear H
              go_wp2
              repeat (go_quiet (fail); try go_wp2)
              go_meet
              case rel => exact ⟨_, (true), (by first | rfl | (simp; done) | (simp [*]; done)), H', ⟨by have := HK1.out; first | omega | exact Nat.le_refl _⟩, ⟨by repeat (first | (with_reducible first | exact HB.out | apply below_alloc | apply pw_below_drewN | apply below_drew1) | exact HB.out)⟩⟩
            · rw [if_neg c11] at H
              have c11b0 : decide (1125899906842624 < a1) = false := decide_eq_false c11
              clear c11
              have H' := Aside0.mk H
              clear H
              go_wp2
              repeat (go_quiet (fail); try go_wp2)
              go_meet
              case rel => exact ⟨_, (((l0.length : Int) == 0)), (by first | rfl | (simp; done) | (simp [*]; done)), H', ⟨by have := HK1.out; first | omega | exact Nat.le_refl _⟩, ⟨by repeat (first | (with_reducible first | exact HB.out | apply below_alloc | apply pw_below_drewN | apply below_drew1) | exact HB.out)⟩⟩
        case rest =>
          clear HC9
          try clear c1
          try clear p2
          try clear q2
          try clear hx2
          try clear c4
          try clear c4b0
          try clear c5
          try clear c5b0
          try clear c6
          try clear c6b0
          try clear c6b1
          try clear p6
          try clear c10
          try clear c10b0
          try clear c11
          try clear c11b0
          try clear hx208_0
          try clear p2
          try clear p208
          try clear q208
          obtain ⟨kq, x39_8, rfl, HA, HJ8, HB⟩ := hcut
          cases kq with
          | zero => exact absurd HA.out (by simp [lodestarlaw09_WalTorn.j1])
          | succ kj8 =>
            have H := HA.out
            clear HA
            simp only [lodestarlaw09_WalTorn.j1] at H
            by_cases c12 : x39_8 = true
            · subst c12
              have H1 : ((lodestarlaw09_awake.f kj8).bind fun t210 => (some t210)) = some r := by rw [if_pos rfl] at H; exact H
              clear H
              have H := H1
              clear H1
              replace H := Option.bind_eq_some_iff.mp H
              obtain ⟨t210, A130, H⟩ := H
              replace H : (some t210) = some r := H
              have A13 := Aside0.mk A130
              clear A130
              obtain rfl := Option.some.inj H
              go_wp2_with (first | (go_at_call 16; (with_reducible refine (lodestarlaw09_awake.calls kj8  t210 _ A13.out).mono ?_); rintro e w14 ⟨rfl, hb⟩; have n0_ := Aside0.mk (below_step (by repeat (first | (with_reducible first | exact HB.out | apply below_alloc | apply pw_below_drewN | apply below_drew1) | exact HB.out)) hb); clear HB; have HB := n0_; clear n0_; (try clear hb); (try clear hb2); (try clear hk); (try clear hi)))
              repeat (go_quiet (first | (go_at_call 16; (with_reducible refine (lodestarlaw09_awake.calls kj8  t210 _ A13.out).mono ?_); rintro e w14 ⟨rfl, hb⟩; have n0_ := Aside0.mk (below_step (by repeat (first | (with_reducible first | exact HB.out | apply below_alloc | apply pw_below_drewN | apply below_drew1) | exact HB.out)) hb); clear HB; have HB := n0_; clear n0_; (try clear hb); (try clear hb2); (try clear hk); (try clear hi))); try go_wp2_with (first | (go_at_call 16; (with_reducible refine (lodestarlaw09_awake.calls kj8  t210 _ A13.out).mono ?_); rintro e w14 ⟨rfl, hb⟩; have n0_ := Aside0.mk (below_step (by repeat (first | (with_reducible first | exact HB.out | apply below_alloc | apply pw_below_drewN | apply below_drew1) | exact HB.out)) hb); clear HB; have HB := n0_; clear n0_; (try clear hb); (try clear hb2); (try clear hk); (try clear hi))))
              go_ret
              exact ⟨by first | rfl | (simp [errW_none, errW_some] <;> rfl) | (simp [*, errW_none, errW_some] <;> rfl), by repeat (first | (with_reducible first | exact HB.out | apply below_alloc | apply pw_below_drewN | apply below_drew1) | exact HB.out)⟩
            · replace c12 := Bool.eq_false_iff.mpr c12
              subst c12
              have H1 : ((lodestarlaw09_joined.f kj8 l0 a1).bind fun bt211 => (if bt211.2.2 = true then (if (wrap64 ((bt211.1.size : Int) + 1)) = 0 then (none) else (if 0 ≤ (Int.tmod (wrap64 ((wrap64 ((Int.tmod a2 (wrap64 ((bt211.1.size : Int) + 1))) + (bt211.1.size : Int))) + 1)) (wrap64 ((bt211.1.size : Int) + 1))) then (if (Int.tmod (wrap64 ((wrap64 ((Int.tmod a2 (wrap64 ((bt211.1.size : Int) + 1))) + (bt211.1.size : Int))) + 1)) (wrap64 ((bt211.1.size : Int) + 1))) ≤ (bt211.1.size : Int) then ((wal_Scan.f kj8 (bt211.1.extract 0 ((Int.tmod (wrap64 ((wrap64 ((Int.tmod a2 (wrap64 ((bt211.1.size : Int) + 1))) + (bt211.1.size : Int))) + 1)) (wrap64 ((bt211.1.size : Int) + 1))) : Int).toNat)).bind fun bt216 => (lodestarlaw09_WalTorn.l1 kj8 l0 a1 (Int.tmod (wrap64 ((wrap64 ((Int.tmod a2 (wrap64 ((bt211.1.size : Int) + 1))) + (bt211.1.size : Int))) + 1)) (wrap64 ((bt211.1.size : Int) + 1))) bt211.2.1 bt216.1 bt216.2.1 bt216.2.2 0)) else (none)) else (none))) else (some false))) = some r := by rw [if_neg (show ¬ (false = true) by decide)] at H; exact H
              clear H
              have H := H1
              clear H1
              replace H := Option.bind_eq_some_iff.mp H
              obtain ⟨⟨t211, t212, t213⟩, A150, H⟩ := H
              replace H : (if t213 = true then (if (wrap64 ((t211.size : Int) + 1)) = 0 then (none) else (if 0 ≤ (Int.tmod (wrap64 ((wrap64 ((Int.tmod a2 (wrap64 ((t211.size : Int) + 1))) + (t211.size : Int))) + 1)) (wrap64 ((t211.size : Int) + 1))) then (if (Int.tmod (wrap64 ((wrap64 ((Int.tmod a2 (wrap64 ((t211.size : Int) + 1))) + (t211.size : Int))) + 1)) (wrap64 ((t211.size : Int) + 1))) ≤ (t211.size : Int) then ((wal_Scan.f kj8 (t211.extract 0 ((Int.tmod (wrap64 ((wrap64 ((Int.tmod a2 (wrap64 ((t211.size : Int) + 1))) + (t211.size : Int))) + 1)) (wrap64 ((t211.size : Int) + 1))) : Int).toNat)).bind fun bt216 => (lodestarlaw09_WalTorn.l1 kj8 l0 a1 (Int.tmod (wrap64 ((wrap64 ((Int.tmod a2 (wrap64 ((t211.size : Int) + 1))) + (t211.size : Int))) + 1)) (wrap64 ((t211.size : Int) + 1))) t212 bt216.1 bt216.2.1 bt216.2.2 0)) else (none)) else (none))) else (some false)) = some r := H
              have A15 := Aside0.mk A150
              clear A150
              by_cases c16 : t213 = true
              · subst c16
                have H1 : (if (wrap64 ((t211.size : Int) + 1)) = 0 then (none) else (if 0 ≤ (Int.tmod (wrap64 ((wrap64 ((Int.tmod a2 (wrap64 ((t211.size : Int) + 1))) + (t211.size : Int))) + 1)) (wrap64 ((t211.size : Int) + 1))) then (if (Int.tmod (wrap64 ((wrap64 ((Int.tmod a2 (wrap64 ((t211.size : Int) + 1))) + (t211.size : Int))) + 1)) (wrap64 ((t211.size : Int) + 1))) ≤ (t211.size : Int) then ((wal_Scan.f kj8 (t211.extract 0 ((Int.tmod (wrap64 ((wrap64 ((Int.tmod a2 (wrap64 ((t211.size : Int) + 1))) + (t211.size : Int))) + 1)) (wrap64 ((t211.size : Int) + 1))) : Int).toNat)).bind fun bt216 => (lodestarlaw09_WalTorn.l1 kj8 l0 a1 (Int.tmod (wrap64 ((wrap64 ((Int.tmod a2 (wrap64 ((t211.size : Int) + 1))) + (t211.size : Int))) + 1)) (wrap64 ((t211.size : Int) + 1))) t212 bt216.1 bt216.2.1 bt216.2.2 0)) else (none)) else (none))) = some r := by rw [if_pos rfl] at H; exact H
                clear H
                have H := H1
                clear H1
                by_cases c17 : (wrap64 ((t211.size : Int) + 1)) = 0
                · rw [if_pos c17] at H
                  exact absurd H (by simp)
                · rw [if_neg c17] at H
                  have c17b0 : ((wrap64 ((t211.size : Int) + 1)) == 0) = false := beq_eq_false_iff_ne.mpr c17
                  have c17b1 : ((wrap64 ((t211.size : Int) + 1)) != 0) = true := bne_iff_ne.mpr c17
                  obtain ⟨ji18, hji18⟩ : ∃ j_ : Int, (Int.tmod (wrap64 ((wrap64 ((Int.tmod a2 (wrap64 ((t211.size : Int) + 1))) + (t211.size : Int))) + 1)) (wrap64 ((t211.size : Int) + 1))) = j_ := ⟨_, rfl⟩
                  replace H : (if 0 ≤ (ji18) then (if (ji18) ≤ (t211.size : Int) then ((wal_Scan.f kj8 (t211.extract 0 ((ji18) : Int).toNat)).bind fun bt216 => (lodestarlaw09_WalTorn.l1 kj8 l0 a1 ji18 t212 bt216.1 bt216.2.1 bt216.2.2 0)) else (none)) else (none)) = some r := by first | (rw [hji18] at H; exact H) | (simp only [hji18] at H ⊢; exact H)
                  (try rw [hji18] at A15)
                  by_cases c19 : 0 ≤ (ji18)
                  · rw [if_pos c19] at H
                    have c19b0 := eq_true c19
                    have c19b1 : decide (0 ≤ (ji18)) = true := decide_eq_true c19
                    clear c19
                    by_cases c20 : (ji18) ≤ (t211.size : Int)
                    · rw [if_pos c20] at H
                      have c20b0 := eq_true c20
                      have c20b1 : decide ((ji18) ≤ (t211.size : Int)) = true := decide_eq_true c20
                      clear c20
                      replace H := Option.bind_eq_some_iff.mp H
                      obtain ⟨⟨t216, t217, t218⟩, A210, H⟩ := H
                      replace H : (lodestarlaw09_WalTorn.l1 kj8 l0 a1 ji18 t212 t216 t217 t218 0) = some r := H
                      have A21 := Aside0.mk A210
                      clear A210
                      have HC22 := Aside0.mk H
                      clear H
                      go_upto_block 2 with (first | (go_at_call 17; (with_reducible refine (lodestarlaw09_joined.calls kj8 _ _ l0 a1 t211 t212 true _ ?side1 ?side2 A15.out).mono ?_); (case side1 => repeat (first | exact (Kd.C_below HR0.out HB.out) | (with_reducible refine Kd.C_alloc ?_ _) | (with_reducible refine Kd.C_drewN ?_ _) | (with_reducible refine Kd.C_drew ?_))); (case side2 => exact HC0.out); rintro e w23 ⟨v214, rfl, ho0, hb⟩; have n0_ := Aside0.mk (Kd.R_lower ho0 (below_size (by repeat (first | (with_reducible first | exact HB.out | apply below_alloc | apply pw_below_drewN | apply below_drew1) | exact HB.out)))); have n1_ := Aside0.mk (below_step (by repeat (first | (with_reducible first | exact HB.out | apply below_alloc | apply pw_below_drewN | apply below_drew1) | exact HB.out)) hb); clear HB; have HO215 := n0_; have HB := n1_; clear n0_ n1_; (try clear hb); (try clear hb2); (try clear hk); (try clear hi); (try clear ho0)) | (go_at_call 13; (with_reducible refine (wal_Scan.calls kj8 (t211.extract 0 ((ji18) : Int).toNat) t216 t217 t218 _ A21.out).mono ?_); rintro e w24 ⟨v219, rfl, ho0, hb⟩; have n0_ := Aside0.mk (Kd.R_below (by (with_reducible repeat (first | apply Kd.R_alloc | apply Kd.R_drewN | apply Kd.R_drew)); exact HO215.out) hb); have n1_ := Aside0.mk (Kd.R_lower ho0 (below_size (by repeat (first | (with_reducible first | exact HB.out | apply below_alloc | apply pw_below_drewN | apply below_drew1) | exact HB.out)))); have n2_ := Aside0.mk (below_step (by repeat (first | (with_reducible first | exact HB.out | apply below_alloc | apply pw_below_drewN | apply below_drew1) | exact HB.out)) hb); clear HO215; clear HB; have HO215 := n0_; have HO220 := n1_; have HB := n2_; clear n0_ n1_ n2_; (try clear hb); (try clear hb2); (try clear hk); (try clear hi); (try clear ho0)))
                      repeat (go_quiet (first | (go_at_call 17; (with_reducible refine (lodestarlaw09_joined.calls kj8 _ _ l0 a1 t211 t212 true _ ?side1 ?side2 A15.out).mono ?_); (case side1 => repeat (first | exact (Kd.C_below HR0.out HB.out) | (with_reducible refine Kd.C_alloc ?_ _) | (with_reducible refine Kd.C_drewN ?_ _) | (with_reducible refine Kd.C_drew ?_))); (case side2 => exact HC0.out); rintro e w23 ⟨v214, rfl, ho0, hb⟩; have n0_ := Aside0.mk (Kd.R_lower ho0 (below_size (by repeat (first | (with_reducible first | exact HB.out | apply below_alloc | apply pw_below_drewN | apply below_drew1) | exact HB.out)))); have n1_ := Aside0.mk (below_step (by repeat (first | (with_reducible first | exact HB.out | apply below_alloc | apply pw_below_drewN | apply below_drew1) | exact HB.out)) hb); clear HB; have HO215 := n0_; have HB := n1_; clear n0_ n1_; (try clear hb); (try clear hb2); (try clear hk); (try clear hi); (try clear ho0)) | (go_at_call 13; (with_reducible refine (wal_Scan.calls kj8 (t211.extract 0 ((ji18) : Int).toNat) t216 t217 t218 _ A21.out).mono ?_); rintro e w24 ⟨v219, rfl, ho0, hb⟩; have n0_ := Aside0.mk (Kd.R_below (by (with_reducible repeat (first | apply Kd.R_alloc | apply Kd.R_drewN | apply Kd.R_drew)); exact HO215.out) hb); have n1_ := Aside0.mk (Kd.R_lower ho0 (below_size (by repeat (first | (with_reducible first | exact HB.out | apply below_alloc | apply pw_below_drewN | apply below_drew1) | exact HB.out)))); have n2_ := Aside0.mk (below_step (by repeat (first | (with_reducible first | exact HB.out | apply below_alloc | apply pw_below_drewN | apply below_drew1) | exact HB.out)) hb); clear HO215; clear HB; have HO215 := n0_; have HO220 := n1_; have HB := n2_; clear n0_ n1_ n2_; (try clear hb); (try clear hb2); (try clear hk); (try clear hi); (try clear ho0))); go_upto_block 2 with (first | (go_at_call 17; (with_reducible refine (lodestarlaw09_joined.calls kj8 _ _ l0 a1 t211 t212 true _ ?side1 ?side2 A15.out).mono ?_); (case side1 => repeat (first | exact (Kd.C_below HR0.out HB.out) | (with_reducible refine Kd.C_alloc ?_ _) | (with_reducible refine Kd.C_drewN ?_ _) | (with_reducible refine Kd.C_drew ?_))); (case side2 => exact HC0.out); rintro e w23 ⟨v214, rfl, ho0, hb⟩; have n0_ := Aside0.mk (Kd.R_lower ho0 (below_size (by repeat (first | (with_reducible first | exact HB.out | apply below_alloc | apply pw_below_drewN | apply below_drew1) | exact HB.out)))); have n1_ := Aside0.mk (below_step (by repeat (first | (with_reducible first | exact HB.out | apply below_alloc | apply pw_below_drewN | apply below_drew1) | exact HB.out)) hb); clear HB; have HO215 := n0_; have HB := n1_; clear n0_ n1_; (try clear hb); (try clear hb2); (try clear hk); (try clear hi); (try clear ho0)) | (go_at_call 13; (with_reducible refine (wal_Scan.calls kj8 (t211.extract 0 ((ji18) : Int).toNat) t216 t217 t218 _ A21.out).mono ?_); rintro e w24 ⟨v219, rfl, ho0, hb⟩; have n0_ := Aside0.mk (Kd.R_below (by (with_reducible repeat (first | apply Kd.R_alloc | apply Kd.R_drewN | apply Kd.R_drew)); exact HO215.out) hb); have n1_ := Aside0.mk (Kd.R_lower ho0 (below_size (by repeat (first | (with_reducible first | exact HB.out | apply below_alloc | apply pw_below_drewN | apply below_drew1) | exact HB.out)))); have n2_ := Aside0.mk (below_step (by repeat (first | (with_reducible first | exact HB.out | apply below_alloc | apply pw_below_drewN | apply below_drew1) | exact HB.out)) hb); clear HO215; clear HB; have HO215 := n0_; have HO220 := n1_; have HB := n2_; clear n0_ n1_ n2_; (try clear hb); (try clear hb2); (try clear hk); (try clear hi); (try clear ho0))))
                      (try simp only [Act.put, List.setIfInBounds_toArray, List.set_cons_zero, List.set_cons_succ])
                      go_cut [14] (fun v14 wc => ∃ (kq : Nat) (x14_21 : Int), v14 = .int .i64 x14_21 ∧ Aside0 (lodestarlaw09_WalTorn.j3 kq l0 a1 ji18 t212 t216 t217 t218 x14_21 = some r) ∧ Aside0 (kq ≤ kj8) ∧ Aside0 (Kd.R (Kd.int .i64) 3 wc w.heap.size (fun _ => True) v214 t212) ∧ Aside0 (Kd.R k23 23 wc w.heap.size (fun _ => True) v219 t216) ∧ Aside0 (Below w.heap.size w wc))
                      case first =>
                        have H := HC22.out
                        clear HC22
                        have H' := Aside0.mk H
                        clear H
                        go_wp2
                        repeat (go_quiet (fail); try go_wp2)
                        go_loopg [14] kj8 (fun kq v14 w' => ∃ (x14_3 : Int), v14 = .int .i64 x14_3 ∧ Aside0 (lodestarlaw09_WalTorn.l1 kq l0 a1 ji18 t212 t216 t217 t218 x14_3 = some r) ∧ Aside0 (kq ≤ kj8) ∧ Aside0 (Kd.R (Kd.int .i64) 3 w' w.heap.size (fun _ => True) v214 t212) ∧ Aside0 (Kd.R k23 23 w' w.heap.size (fun _ => True) v219 t216) ∧ Aside0 (Below w.heap.size w w'))
                        case atStart => exact ⟨(0), (by first | rfl | (simp; done) | (simp [*]; done)), H', ⟨Nat.le_refl _⟩, ⟨by (with_reducible repeat (first | apply Kd.R_alloc | apply Kd.R_drewN | apply Kd.R_drew)); exact HO215.out⟩, ⟨by (with_reducible repeat (first | apply Kd.R_alloc | apply Kd.R_drewN | apply Kd.R_drew)); exact HO220.out⟩, ⟨by repeat (first | (with_reducible first | exact HB.out | apply below_alloc | apply pw_below_drewN | apply below_drew1) | exact HB.out)⟩⟩
                        case round =>
                          clear H'
                          try clear c1
                          try clear c2
                          try clear p2
                          try clear q2
                          try clear hx2
                          try clear c4
                          try clear c4b0
                          try clear c5
                          try clear c5b0
                          try clear c6
                          try clear c6b0
                          try clear c6b1
                          try clear p6
                          try clear c10
                          try clear c10b0
                          try clear c11
                          try clear c11b0
                          try clear c12
                          try clear c16
                          try clear c17
                          try clear c17b0
                          try clear c17b1
                          try clear c19
                          try clear c19b0
                          try clear c19b1
                          try clear c20
                          try clear c20b0
                          try clear c20b1
                          try clear p20
                          try clear q20
                          try clear hx20
                          try clear hx208_0
                          try clear p2
                          try clear p208
                          try clear p6
                          try clear q2
                          try clear q208
                          obtain ⟨x14_3, rfl, HA, HK3, HO_9, HO_11, HB⟩ := hrel
                          cases gk with
                          | zero => exact absurd HA.out (by simp [lodestarlaw09_WalTorn.l1])
                          | succ k3 =>
                            have H := HA.out
                            clear HA
                            simp only [lodestarlaw09_WalTorn.l1] at H
                            by_cases c25 : (wrap64 (x14_3 + 1)) < (t212.length : Int)
                            · rw [if_pos c25] at H
                              have c25b0 : decide ((wrap64 (x14_3 + 1)) < (t212.length : Int)) = true := decide_eq_true c25
                              clear c25
                              (first | rw [c25b0] | (simp only [i64_w, i32_w]; rw [c25b0]) | skip)
                              obtain ⟨ji26, hji26⟩ : ∃ j_ : Int, (wrap64 (x14_3 + 1)) = j_ := ⟨_, rfl⟩
                              replace H : (if 0 ≤ (ji26) then (if (rd t212 (ji26)) ≤ ji18 then (lodestarlaw09_WalTorn.l1 k3 l0 a1 ji18 t212 t216 t217 t218 ji26) else (lodestarlaw09_WalTorn.j3 k3 l0 a1 ji18 t212 t216 t217 t218 x14_3)) else (none)) = some r := by first | (rw [hji26] at H; exact H) | (simp only [hji26] at H ⊢; exact H)
                              (try rw [hji26] at c25b0)
                              have hji26w : (IntKind.i64.wrap (x14_3 + 1)) = ji26 := (i64_w _).trans hji26
                              by_cases c27 : 0 ≤ (ji26)
                              · rw [if_pos c27] at H
                                have c27b0 : decide (0 ≤ (ji26)) = true := decide_eq_true c27
                                clear c27
                                by_cases c28 : (rd t212 (ji26)) ≤ ji18
                                · rw [if_pos c28] at H
                                  have c28b0 : decide ((rd t212 (ji26)) ≤ ji18) = true := decide_eq_true c28
                                  clear c28
                                  have H' := Aside0.mk H
                                  clear H
                                  obtain ⟨Ao29, co29, eo29⟩ := Kd.R_slice HO_9.out
                                  subst eo29
                                  have p221 : 0 ≤ ((ji26) : Int) := of_decide_eq_true (by first | (with_reducible assumption) | assumption)
                                  have q221 : (ji26) < (t212.length : Int) := of_decide_eq_true (by first | (with_reducible assumption) | assumption)
                                  obtain ⟨ad221, e221, hx221_0⟩ := Kd.at_int (Kd.R_reads' HO_9.out).2.2 (ji26) p221 q221
                                  cases e221
                                  replace p221 := eq_true p221
                                  replace q221 := eq_true q221
                                  go_wp2
                                  repeat (go_quiet (fail); try go_wp2)
                                  go_roundg k3
                                  case measure => have := HK1.out; have := HJ8.out; have := HK3.out; omega
                                  case rel => exact ⟨(ji26), (by first | rfl | (simp; done) | (simp only [← hji26] <;> (first | rfl | simp)) | (simp [*]; done)), H', ⟨by have := HK1.out; have := HJ8.out; have := HK3.out; omega⟩, ⟨by (with_reducible repeat (first | apply Kd.R_alloc | apply Kd.R_drewN | apply Kd.R_drew)); exact HO_9.out⟩, ⟨by (with_reducible repeat (first | apply Kd.R_alloc | apply Kd.R_drewN | apply Kd.R_drew)); exact HO_11.out⟩, ⟨by repeat (first | (with_reducible first | exact HB.out | apply below_alloc | apply pw_below_drewN | apply below_drew1) | exact HB.out)⟩⟩
                                · rw [if_neg c28] at H
                                  have c28b0 : decide ((rd t212 (ji26)) ≤ ji18) = false := decide_eq_false c28
                                  clear c28
                                  have H' := Aside0.mk H
                                  clear H
                                  obtain ⟨Ao30, co30, eo30⟩ := Kd.R_slice HO_9.out
                                  subst eo30
                                  have p221 : 0 ≤ ((ji26) : Int) := of_decide_eq_true (by first | (with_reducible assumption) | assumption)
                                  have q221 : (ji26) < (t212.length : Int) := of_decide_eq_true (by first | (with_reducible assumption) | assumption)
                                  obtain ⟨ad221, e221, hx221_0⟩ := Kd.at_int (Kd.R_reads' HO_9.out).2.2 (ji26) p221 q221
                                  cases e221
                                  replace p221 := eq_true p221
                                  replace q221 := eq_true q221
                                  go_wp2
                                  repeat (go_quiet (fail); try go_wp2)
                                  go_meet
                                  case rel => exact ⟨_, (x14_3), (by first | rfl | (simp; done) | (simp [*]; done)), H', ⟨by have := HK1.out; have := HJ8.out; have := HK3.out; first | omega | exact Nat.le_refl _⟩, ⟨by (with_reducible repeat (first | apply Kd.R_alloc | apply Kd.R_drewN | apply Kd.R_drew)); exact HO_9.out⟩, ⟨by (with_reducible repeat (first | apply Kd.R_alloc | apply Kd.R_drewN | apply Kd.R_drew)); exact HO_11.out⟩, ⟨by repeat (first | (with_reducible first | exact HB.out | apply below_alloc | apply pw_below_drewN | apply below_drew1) | exact HB.out)⟩⟩
                              · rw [if_neg c27] at H
                                exact absurd H (by simp)
                            · rw [if_neg c25] at H
                              have c25b0 : decide ((wrap64 (x14_3 + 1)) < (t212.length : Int)) = false := decide_eq_false c25
                              clear c25
                              (first | rw [c25b0] | (simp only [i64_w, i32_w]; rw [c25b0]) | skip)
                              have H' := Aside0.mk H
                              clear H
                              obtain ⟨Ao31, co31, eo31⟩ := Kd.R_slice HO_9.out
                              subst eo31
                              go_wp2
                              repeat (go_quiet (fail); try go_wp2)
                              go_meet
                              case rel => exact ⟨_, (x14_3), (by first | rfl | (simp; done) | (simp [*]; done)), H', ⟨by have := HK1.out; have := HJ8.out; have := HK3.out; first | omega | exact Nat.le_refl _⟩, ⟨by (with_reducible repeat (first | apply Kd.R_alloc | apply Kd.R_drewN | apply Kd.R_drew)); exact HO_9.out⟩, ⟨by (with_reducible repeat (first | apply Kd.R_alloc | apply Kd.R_drewN | apply Kd.R_drew)); exact HO_11.out⟩, ⟨by repeat (first | (with_reducible first | exact HB.out | apply below_alloc | apply pw_below_drewN | apply below_drew1) | exact HB.out)⟩⟩
                      case rest =>
                        clear HC22
                        try clear c1
                        try clear c2
                        try clear p2
                        try clear q2
                        try clear hx2
                        try clear c4
                        try clear c4b0
                        try clear c5
                        try clear c5b0
                        try clear c6
                        try clear c6b0
                        try clear c6b1
                        try clear p6
                        try clear c10
                        try clear c10b0
                        try clear c11
                        try clear c11b0
                        try clear c12
                        try clear c16
                        try clear c17
                        try clear c17b0
                        try clear c17b1
                        try clear c19
                        try clear c19b0
                        try clear c19b1
                        try clear c20
                        try clear c20b0
                        try clear c20b1
                        try clear p20
                        try clear q20
                        try clear hx20
                        try clear p22
                        try clear q22
                        try clear hx22
                        try clear c25
                        try clear c25b0
                        try clear c27
                        try clear c27b0
                        try clear c28
                        try clear c28b0
                        try clear hx208_0
                        try clear hx221_0
                        try clear p2
                        try clear p20
                        try clear p208
                        try clear p221
                        try clear p6
                        try clear q2
                        try clear q20
                        try clear q208
                        try clear q221
                        obtain ⟨kq, x14_21, rfl, HA, HJ21, HO_9, HO_11, HB⟩ := hcut
                        cases kq with
                        | zero => exact absurd HA.out (by simp [lodestarlaw09_WalTorn.j3])
                        | succ kj21 =>
                          have H := HA.out
                          clear HA
                          simp only [lodestarlaw09_WalTorn.j3] at H
                          have HC32 := Aside0.mk H
                          clear H
                          go_upto_region 16 with (fail)
                          repeat (go_quiet (fail); go_upto_region 16 with (fail))
                          go_cut [117] (fun v117 wc => ∃ (kq : Nat) (x117_31 : Bool), v117 = .bool x117_31 ∧ Aside0 (lodestarlaw09_WalTorn.j4 kq l0 a1 t216 x14_21 x117_31 = some r) ∧ Aside0 (kq ≤ kj21) ∧ Aside0 (Kd.R k23 23 wc w.heap.size (fun _ => True) v219 t216) ∧ Aside0 (Below w.heap.size w wc))
                          case first =>
                            have H := HC32.out
                            clear HC32
                            by_cases c33 : (t216.length : Int) = x14_21
                            · rw [if_pos c33] at H
                              have c33b0 : ((t216.length : Int) == x14_21) = true := beq_iff_eq.mpr c33
                              have c33b1 : ((t216.length : Int) != x14_21) = false := bne_eq_false_iff_eq.mpr c33
                              clear c33
                              (first | rw [c33b0] | (simp only [i64_w, i32_w]; rw [c33b0]) | skip)
                              by_cases c34 : 0 ≤ x14_21
                              · rw [if_pos c34] at H
                                have c34b0 : decide (0 ≤ x14_21) = true := decide_eq_true c34
                                clear c34
                                by_cases c35 : x14_21 < (t212.length : Int)
                                · rw [if_pos c35] at H
                                  have c35b0 : decide (x14_21 < (t212.length : Int)) = true := decide_eq_true c35
                                  clear c35
                                  by_cases c36 : t217 = (rd t212 x14_21)
                                  · rw [if_pos c36] at H
                                    have c36b0 : (t217 == (rd t212 x14_21)) = true := beq_iff_eq.mpr c36
                                    have c36b1 : (t217 != (rd t212 x14_21)) = false := bne_eq_false_iff_eq.mpr c36
                                    clear c36
                                    by_cases c37 : ((t218 == 0) != ((rd t212 x14_21) == ji18)) = true
                                    · rw [if_pos c37] at H
                                      have c37b0 : ((t218 == 0) != ((rd t212 x14_21) == ji18)) = true := c37
                                      (try (have c37b1 : decide ((t218 == 0) = ((rd t212 x14_21) == ji18)) = false := by simpa using c37))
                                      (try (have c37b2 : ((t218 == 0) == ((rd t212 x14_21) == ji18)) = false := by simpa using c37))
                                      (try (have c37b3 : ¬ ((t218 == 0) = ((rd t212 x14_21) == ji18)) := by simpa using c37))
                                      clear c37
                                      have H' := Aside0.mk H
                                      clear H
                                      obtain ⟨Ao38, co38, eo38⟩ := Kd.R_slice HO_11.out
                                      subst eo38
                                      obtain ⟨Ao39, co39, eo39⟩ := Kd.R_slice HO_9.out
                                      subst eo39
                                      have p222 : 0 ≤ (x14_21 : Int) := of_decide_eq_true (by first | (with_reducible assumption) | assumption)
                                      have q222 : x14_21 < (t212.length : Int) := of_decide_eq_true (by first | (with_reducible assumption) | assumption)
                                      obtain ⟨ad222, e222, hx222_0⟩ := Kd.at_int (Kd.R_reads' HO_9.out).2.2 x14_21 p222 q222
                                      cases e222
                                      replace p222 := eq_true p222
                                      replace q222 := eq_true q222
                                      have p223 : 0 ≤ (x14_21 : Int) := of_decide_eq_true (by first | (with_reducible assumption) | assumption)
                                      have q223 : x14_21 < (t212.length : Int) := of_decide_eq_true (by first | (with_reducible assumption) | assumption)
                                      obtain ⟨ad223, e223, hx223_0⟩ := Kd.at_int (Kd.R_reads' HO_9.out).2.2 x14_21 p223 q223
                                      obtain rfl : ad222 = ad223 := (by injection e223)
                                      replace p223 := eq_true p223
                                      replace q223 := eq_true q223
                                      go_wp2
                                      repeat (go_quiet (fail); try go_wp2)
                                      go_meet
                                      case rel => exact ⟨_, (true), (by first | rfl | (simp; done) | (simp [*]; done)), H', ⟨by have := HK1.out; have := HJ8.out; have := HJ21.out; first | omega | exact Nat.le_refl _⟩, ⟨by (with_reducible repeat (first | apply Kd.R_alloc | apply Kd.R_drewN | apply Kd.R_drew)); exact HO_11.out⟩, ⟨by repeat (first | (with_reducible first | exact HB.out | apply below_alloc | apply pw_below_drewN | apply below_drew1) | exact HB.out)⟩⟩
                                    · rw [if_neg c37] at H
                                      have c37b0 : ((t218 == 0) != ((rd t212 x14_21) == ji18)) = false := by simpa using c37
                                      (try (have c37b1 : decide ((t218 == 0) = ((rd t212 x14_21) == ji18)) = true := by simpa using c37))
                                      (try (have c37b2 : ((t218 == 0) == ((rd t212 x14_21) == ji18)) = true := by simpa using c37))
                                      clear c37
                                      by_cases c40 : t218 = 0
                                      · rw [if_pos c40] at H
                                        have c40b0 : (t218 == 0) = true := beq_iff_eq.mpr c40
                                        have c40b1 : (t218 != 0) = false := bne_eq_false_iff_eq.mpr c40
                                        have c40d : ((rd t212 x14_21) == ji18) = true := by have h_ := c37b2; rw [c40b0] at h_; simpa using h_
                                        clear c40
                                        have H' := Aside0.mk H
                                        clear H
                                        obtain ⟨Ao41, co41, eo41⟩ := Kd.R_slice HO_11.out
                                        subst eo41
                                        obtain ⟨Ao42, co42, eo42⟩ := Kd.R_slice HO_9.out
                                        subst eo42
                                        have p222 : 0 ≤ (x14_21 : Int) := of_decide_eq_true (by first | (with_reducible assumption) | assumption)
                                        have q222 : x14_21 < (t212.length : Int) := of_decide_eq_true (by first | (with_reducible assumption) | assumption)
                                        obtain ⟨ad222, e222, hx222_0⟩ := Kd.at_int (Kd.R_reads' HO_9.out).2.2 x14_21 p222 q222
                                        cases e222
                                        replace p222 := eq_true p222
                                        replace q222 := eq_true q222
                                        have p223 : 0 ≤ (x14_21 : Int) := of_decide_eq_true (by first | (with_reducible assumption) | assumption)
                                        have q223 : x14_21 < (t212.length : Int) := of_decide_eq_true (by first | (with_reducible assumption) | assumption)
                                        obtain ⟨ad223, e223, hx223_0⟩ := Kd.at_int (Kd.R_reads' HO_9.out).2.2 x14_21 p223 q223
                                        obtain rfl : ad222 = ad223 := (by injection e223)
                                        replace p223 := eq_true p223
                                        replace q223 := eq_true q223
                                        go_wp2
                                        repeat (go_quiet (fail); try go_wp2)
                                        go_meet
                                        case rel => exact ⟨_, (false), (by first | rfl | (simp; done) | (simp [*]; done)), H', ⟨by have := HK1.out; have := HJ8.out; have := HJ21.out; first | omega | exact Nat.le_refl _⟩, ⟨by (with_reducible repeat (first | apply Kd.R_alloc | apply Kd.R_drewN | apply Kd.R_drew)); exact HO_11.out⟩, ⟨by repeat (first | (with_reducible first | exact HB.out | apply below_alloc | apply pw_below_drewN | apply below_drew1) | exact HB.out)⟩⟩
                                      · rw [if_neg c40] at H
                                        have c40b0 : (t218 == 0) = false := beq_eq_false_iff_ne.mpr c40
                                        have c40b1 : (t218 != 0) = true := bne_iff_ne.mpr c40
                                        have c40d : ((rd t212 x14_21) == ji18) = false := by have h_ := c37b2; rw [c40b0] at h_; simpa using h_
                                        have H' := Aside0.mk H
                                        clear H
                                        obtain ⟨Ao43, co43, eo43⟩ := Kd.R_slice HO_11.out
                                        subst eo43
                                        obtain ⟨Ao44, co44, eo44⟩ := Kd.R_slice HO_9.out
                                        subst eo44
                                        have p222 : 0 ≤ (x14_21 : Int) := of_decide_eq_true (by first | (with_reducible assumption) | assumption)
                                        have q222 : x14_21 < (t212.length : Int) := of_decide_eq_true (by first | (with_reducible assumption) | assumption)
                                        obtain ⟨ad222, e222, hx222_0⟩ := Kd.at_int (Kd.R_reads' HO_9.out).2.2 x14_21 p222 q222
                                        cases e222
                                        replace p222 := eq_true p222
                                        replace q222 := eq_true q222
                                        have p223 : 0 ≤ (x14_21 : Int) := of_decide_eq_true (by first | (with_reducible assumption) | assumption)
                                        have q223 : x14_21 < (t212.length : Int) := of_decide_eq_true (by first | (with_reducible assumption) | assumption)
                                        obtain ⟨ad223, e223, hx223_0⟩ := Kd.at_int (Kd.R_reads' HO_9.out).2.2 x14_21 p223 q223
                                        obtain rfl : ad222 = ad223 := (by injection e223)
                                        replace p223 := eq_true p223
                                        replace q223 := eq_true q223
                                        go_wp2
                                        repeat (go_quiet (fail); try go_wp2)
                                        go_meet
                                        case rel => exact ⟨_, ((t218 != 91)), (by first | rfl | (simp; done) | (simp [*]; done)), H', ⟨by have := HK1.out; have := HJ8.out; have := HJ21.out; first | omega | exact Nat.le_refl _⟩, ⟨by (with_reducible repeat (first | apply Kd.R_alloc | apply Kd.R_drewN | apply Kd.R_drew)); exact HO_11.out⟩, ⟨by repeat (first | (with_reducible first | exact HB.out | apply below_alloc | apply pw_below_drewN | apply below_drew1) | exact HB.out)⟩⟩
                                  · rw [if_neg c36] at H
                                    have c36b0 : (t217 == (rd t212 x14_21)) = false := beq_eq_false_iff_ne.mpr c36
                                    have c36b1 : (t217 != (rd t212 x14_21)) = true := bne_iff_ne.mpr c36
                                    have H' := Aside0.mk H
                                    clear H
                                    obtain ⟨Ao45, co45, eo45⟩ := Kd.R_slice HO_11.out
                                    subst eo45
                                    obtain ⟨Ao46, co46, eo46⟩ := Kd.R_slice HO_9.out
                                    subst eo46
                                    have p222 : 0 ≤ (x14_21 : Int) := of_decide_eq_true (by first | (with_reducible assumption) | assumption)
                                    have q222 : x14_21 < (t212.length : Int) := of_decide_eq_true (by first | (with_reducible assumption) | assumption)
                                    obtain ⟨ad222, e222, hx222_0⟩ := Kd.at_int (Kd.R_reads' HO_9.out).2.2 x14_21 p222 q222
                                    cases e222
                                    replace p222 := eq_true p222
                                    replace q222 := eq_true q222
                                    go_wp2
                                    repeat (go_quiet (fail); try go_wp2)
                                    go_meet
                                    case rel => exact ⟨_, (true), (by first | rfl | (simp; done) | (simp [*]; done)), H', ⟨by have := HK1.out; have := HJ8.out; have := HJ21.out; first | omega | exact Nat.le_refl _⟩, ⟨by (with_reducible repeat (first | apply Kd.R_alloc | apply Kd.R_drewN | apply Kd.R_drew)); exact HO_11.out⟩, ⟨by repeat (first | (with_reducible first | exact HB.out | apply below_alloc | apply pw_below_drewN | apply below_drew1) | exact HB.out)⟩⟩
                                · rw [if_neg c35] at H
                                  exact absurd H (by simp)
                              · rw [if_neg c34] at H
                                exact absurd H (by simp)
                            · rw [if_neg c33] at H
                              have c33b0 : ((t216.length : Int) == x14_21) = false := beq_eq_false_iff_ne.mpr c33
                              have c33b1 : ((t216.length : Int) != x14_21) = true := bne_iff_ne.mpr c33
                              (first | rw [c33b0] | (simp only [i64_w, i32_w]; rw [c33b0]) | skip)
                              have H' := Aside0.mk H
                              clear H
                              obtain ⟨Ao47, co47, eo47⟩ := Kd.R_slice HO_11.out
                              subst eo47
                              go_wp2
                              repeat (go_quiet (fail); try go_wp2)
                              go_meet
                              case rel => exact ⟨_, (true), (by first | rfl | (simp; done) | (simp [*]; done)), H', ⟨by have := HK1.out; have := HJ8.out; have := HJ21.out; first | omega | exact Nat.le_refl _⟩, ⟨by (with_reducible repeat (first | apply Kd.R_alloc | apply Kd.R_drewN | apply Kd.R_drew)); exact HO_11.out⟩, ⟨by repeat (first | (with_reducible first | exact HB.out | apply below_alloc | apply pw_below_drewN | apply below_drew1) | exact HB.out)⟩⟩
                          case rest =>
                            clear HC32
                            try clear c1
                            try clear c2
                            try clear p2
                            try clear q2
                            try clear hx2
                            try clear c3
                            try clear c4
                            try clear c4b0
                            try clear c5
                            try clear c5b0
                            try clear c6
                            try clear c6b0
                            try clear c6b1
                            try clear p6
                            try clear c10
                            try clear c10b0
                            try clear c11
                            try clear c11b0
                            try clear c12
                            try clear c16
                            try clear c17
                            try clear c17b0
                            try clear c17b1
                            try clear c19
                            try clear c19b0
                            try clear c19b1
                            try clear c20
                            try clear c20b0
                            try clear c20b1
                            try clear p20
                            try clear q20
                            try clear hx20
                            try clear p22
                            try clear q22
                            try clear hx22
                            try clear c25
                            try clear c25b0
                            try clear c27
                            try clear c27b0
                            try clear c28
                            try clear c28b0
                            try clear c33
                            try clear c33b0
                            try clear c33b1
                            try clear c34
                            try clear c34b0
                            try clear c35
                            try clear c35b0
                            try clear c36
                            try clear c36b0
                            try clear c36b1
                            try clear c37
                            try clear c37b0
                            try clear c37b1
                            try clear c37b2
                            try clear c40
                            try clear c40b0
                            try clear c40b1
                            try clear hx208_0
                            try clear hx221_0
                            try clear hx222_0
                            try clear hx223_0
                            try clear p2
                            try clear p20
                            try clear p208
                            try clear p22
                            try clear p221
                            try clear p222
                            try clear p223
                            try clear p6
                            try clear q2
                            try clear q20
                            try clear q208
                            try clear q22
                            try clear q221
                            try clear q222
                            try clear q223
                            obtain ⟨kq, x117_31, rfl, HA, HJ31, HO_11, HB⟩ := hcut
                            cases kq with
                            | zero => exact absurd HA.out (by simp [lodestarlaw09_WalTorn.j4])
                            | succ kj31 =>
                              have H := HA.out
                              clear HA
                              simp only [lodestarlaw09_WalTorn.j4] at H
                              by_cases c48 : x117_31 = true
                              · subst c48
                                have H1 : (some false) = some r := by rw [if_pos rfl] at H; exact H
                                clear H
                                have H := H1
                                clear H1
                                obtain rfl := Option.some.inj H
                                go_wp2
                                repeat (go_quiet (fail); try go_wp2)
                                go_ret
                                exact ⟨by first | rfl | (simp [errW_none, errW_some] <;> rfl) | (simp only [← hji18]; first | rfl | (simp [errW_none, errW_some] <;> rfl)) | (simp [*, errW_none, errW_some] <;> rfl), by repeat (first | (with_reducible first | exact HB.out | apply below_alloc | apply pw_below_drewN | apply below_drew1) | exact HB.out)⟩
                              · replace c48 := Bool.eq_false_iff.mpr c48
                                subst c48
                                have H1 : (lodestarlaw09_WalTorn.l2 kj31 l0 a1 t216 x14_21 0) = some r := by rw [if_neg (show ¬ (false = true) by decide)] at H; exact H
                                clear H
                                have H := H1
                                clear H1
                                have H' := Aside0.mk H
                                clear H
                                go_wp2
                                repeat (go_quiet (fail); try go_wp2)
                                go_loopg [15] kj31 (fun kq v15 w' => ∃ (x15_5 : Int), v15 = .int .i64 x15_5 ∧ Aside0 (lodestarlaw09_WalTorn.l2 kq l0 a1 t216 x14_21 x15_5 = some r) ∧ Aside0 (kq ≤ kj31) ∧ Aside0 (Kd.R k23 23 w' w.heap.size (fun _ => True) v219 t216) ∧ Aside0 (Below w.heap.size w w'))
                                case atStart => exact ⟨(0), (by first | rfl | (simp; done) | (simp [*]; done)), H', ⟨Nat.le_refl _⟩, ⟨by (with_reducible repeat (first | apply Kd.R_alloc | apply Kd.R_drewN | apply Kd.R_drew)); exact HO_11.out⟩, ⟨by repeat (first | (with_reducible first | exact HB.out | apply below_alloc | apply pw_below_drewN | apply below_drew1) | exact HB.out)⟩⟩
                                case round =>
                                  clear H'
                                  try clear c1
                                  try clear c2
                                  try clear p2
                                  try clear q2
                                  try clear hx2
                                  try clear c3
                                  try clear c4
                                  try clear c4b0
                                  try clear c5
                                  try clear c5b0
                                  try clear c6
                                  try clear c6b0
                                  try clear c6b1
                                  try clear p6
                                  try clear c10
                                  try clear c10b0
                                  try clear c11
                                  try clear c11b0
                                  try clear c12
                                  try clear c16
                                  try clear c17
                                  try clear c17b0
                                  try clear c17b1
                                  try clear c19
                                  try clear c19b0
                                  try clear c19b1
                                  try clear c20
                                  try clear c20b0
                                  try clear c20b1
                                  try clear p20
                                  try clear q20
                                  try clear hx20
                                  try clear p22
                                  try clear q22
                                  try clear hx22
                                  try clear c25
                                  try clear c25b0
                                  try clear c27
                                  try clear c27b0
                                  try clear c28
                                  try clear c28b0
                                  try clear c33
                                  try clear c33b0
                                  try clear c33b1
                                  try clear c34
                                  try clear c34b0
                                  try clear c35
                                  try clear c35b0
                                  try clear c36
                                  try clear c36b0
                                  try clear c36b1
                                  try clear c37
                                  try clear c37b0
                                  try clear c37b1
                                  try clear c37b2
                                  try clear c40
                                  try clear c40b0
                                  try clear c40b1
                                  try clear c48
                                  try clear hx208_0
                                  try clear hx221_0
                                  try clear hx222_0
                                  try clear hx223_0
                                  try clear p2
                                  try clear p20
                                  try clear p208
                                  try clear p22
                                  try clear p221
                                  try clear p222
                                  try clear p223
                                  try clear p6
                                  try clear q2
                                  try clear q20
                                  try clear q208
                                  try clear q22
                                  try clear q221
                                  try clear q222
                                  try clear q223
                                  obtain ⟨x15_5, rfl, HA, HK5, HO_11, HB⟩ := hrel
                                  cases gk with
                                  | zero => exact absurd HA.out (by simp [lodestarlaw09_WalTorn.l2])
                                  | succ k5 =>
                                    have H := HA.out
                                    clear HA
                                    simp only [lodestarlaw09_WalTorn.l2] at H
                                    by_cases c49 : x15_5 < x14_21
                                    · rw [if_pos c49] at H
                                      have c49b0 : decide (x15_5 < x14_21) = true := decide_eq_true c49
                                      clear c49
                                      by_cases c50 : 0 ≤ x15_5
                                      · rw [if_pos c50] at H
                                        have c50b0 : decide (0 ≤ x15_5) = true := decide_eq_true c50
                                        clear c50
                                        by_cases c51 : x15_5 < (t216.length : Int)
                                        · rw [if_pos c51] at H
                                          have c51b0 : decide (x15_5 < (t216.length : Int)) = true := decide_eq_true c51
                                          clear c51
                                          by_cases c52 : ((rd_T23 t216 x15_5).f0) = (wrap64 (a1 + x15_5))
                                          · rw [if_pos c52] at H
                                            have c52b0 : (((rd_T23 t216 x15_5).f0) == (wrap64 (a1 + x15_5))) = true := beq_iff_eq.mpr c52
                                            have c52b1 : (((rd_T23 t216 x15_5).f0) != (wrap64 (a1 + x15_5))) = false := bne_eq_false_iff_eq.mpr c52
                                            clear c52
                                            by_cases c53 : x15_5 < (l0.length : Int)
                                            · rw [if_pos c53] at H
                                              have c53b0 : decide (x15_5 < (l0.length : Int)) = true := decide_eq_true c53
                                              clear c53
                                              by_cases c54 : ((rd_T23 t216 x15_5).f1).toList = (rdOf ByteArray.empty l0 x15_5).toList
                                              · rw [if_pos c54] at H
                                                have c54b0 : (((rd_T23 t216 x15_5).f1).toList == (rdOf ByteArray.empty l0 x15_5).toList) = true := beq_iff_eq.mpr c54
                                                have c54b1 : (((rd_T23 t216 x15_5).f1).toList != (rdOf ByteArray.empty l0 x15_5).toList) = false := bne_eq_false_iff_eq.mpr c54
                                                clear c54
                                                have H' := Aside0.mk H
                                                clear H
                                                obtain ⟨Ao55, co55, eo55⟩ := Kd.R_slice HO_11.out
                                                subst eo55
                                                have p224 : 0 ≤ (x15_5 : Int) := of_decide_eq_true (by first | (with_reducible assumption) | assumption)
                                                have q224 : x15_5 < (t216.length : Int) := of_decide_eq_true (by first | (with_reducible assumption) | assumption)
                                                obtain ⟨ad224, e224, hx224_0, hx224_1⟩ := at_T23 (Kd.R_reads' HO_11.out).2.2 x15_5 p224 q224
                                                cases e224
                                                replace p224 := eq_true p224
                                                replace q224 := eq_true q224
                                                have p225 : 0 ≤ (x15_5 : Int) := of_decide_eq_true (by first | (with_reducible assumption) | assumption)
                                                have q225 : x15_5 < (t216.length : Int) := of_decide_eq_true (by first | (with_reducible assumption) | assumption)
                                                obtain ⟨ad225, e225, hx225_0, hx225_1⟩ := at_T23 (Kd.R_reads' HO_11.out).2.2 x15_5 p225 q225
                                                obtain rfl : ad224 = ad225 := (by injection e225)
                                                replace p225 := eq_true p225
                                                replace q225 := eq_true q225
                                                have p226 : 0 ≤ (x15_5 : Int) := of_decide_eq_true (by first | (with_reducible assumption) | assumption)
                                                have q226 : x15_5 < (l0.length : Int) := of_decide_eq_true (by first | (with_reducible assumption) | assumption)
                                                obtain ⟨ad226, e226, hx226_0⟩ := Kd.at_string HR0.out x15_5 p226 q226
                                                cases e226
                                                replace hx226_0 := (HB.out.cell (World.block_lt_of_cell? w _ hx226_0)).trans hx226_0
                                                replace p226 := eq_true p226
                                                replace q226 := eq_true q226
                                                go_wp2
                                                repeat (go_quiet (fail); try go_wp2)
                                                go_roundg k5
                                                case measure => have := HK1.out; have := HJ8.out; have := HJ21.out; have := HJ31.out; have := HK5.out; omega
                                                case rel => exact ⟨(wrap64 (x15_5 + 1)), (by first | rfl | (simp; done) | (simp [*]; done)), H', ⟨by have := HK1.out; have := HJ8.out; have := HJ21.out; have := HJ31.out; have := HK5.out; omega⟩, ⟨by (with_reducible repeat (first | apply Kd.R_alloc | apply Kd.R_drewN | apply Kd.R_drew)); exact HO_11.out⟩, ⟨by repeat (first | (with_reducible first | exact HB.out | apply below_alloc | apply pw_below_drewN | apply below_drew1) | exact HB.out)⟩⟩
                                              · rw [if_neg c54] at H
                                                have c54b0 : (((rd_T23 t216 x15_5).f1).toList == (rdOf ByteArray.empty l0 x15_5).toList) = false := beq_eq_false_iff_ne.mpr c54
                                                have c54b1 : (((rd_T23 t216 x15_5).f1).toList != (rdOf ByteArray.empty l0 x15_5).toList) = true := bne_iff_ne.mpr c54
                                                obtain rfl := Option.some.inj H
                                                obtain ⟨Ao56, co56, eo56⟩ := Kd.R_slice HO_11.out
                                                subst eo56
                                                have p224 : 0 ≤ (x15_5 : Int) := of_decide_eq_true (by first | (with_reducible assumption) | assumption)
                                                have q224 : x15_5 < (t216.length : Int) := of_decide_eq_true (by first | (with_reducible assumption) | assumption)
                                                obtain ⟨ad224, e224, hx224_0, hx224_1⟩ := at_T23 (Kd.R_reads' HO_11.out).2.2 x15_5 p224 q224
                                                cases e224
                                                replace p224 := eq_true p224
                                                replace q224 := eq_true q224
                                                have p225 : 0 ≤ (x15_5 : Int) := of_decide_eq_true (by first | (with_reducible assumption) | assumption)
                                                have q225 : x15_5 < (t216.length : Int) := of_decide_eq_true (by first | (with_reducible assumption) | assumption)
                                                obtain ⟨ad225, e225, hx225_0, hx225_1⟩ := at_T23 (Kd.R_reads' HO_11.out).2.2 x15_5 p225 q225
                                                obtain rfl : ad224 = ad225 := (by injection e225)
                                                replace p225 := eq_true p225
                                                replace q225 := eq_true q225
                                                have p226 : 0 ≤ (x15_5 : Int) := of_decide_eq_true (by first | (with_reducible assumption) | assumption)
                                                have q226 : x15_5 < (l0.length : Int) := of_decide_eq_true (by first | (with_reducible assumption) | assumption)
                                                obtain ⟨ad226, e226, hx226_0⟩ := Kd.at_string HR0.out x15_5 p226 q226
                                                cases e226
                                                replace hx226_0 := (HB.out.cell (World.block_lt_of_cell? w _ hx226_0)).trans hx226_0
                                                replace p226 := eq_true p226
                                                replace q226 := eq_true q226
                                                go_wp2
                                                repeat (go_quiet (fail); try go_wp2)
                                                go_ret
                                                exact ⟨by first | rfl | (simp [errW_none, errW_some] <;> rfl) | (simp only [← hji18]; first | rfl | (simp [errW_none, errW_some] <;> rfl)) | (simp [*, errW_none, errW_some] <;> rfl), by repeat (first | (with_reducible first | exact HB.out | apply below_alloc | apply pw_below_drewN | apply below_drew1) | exact HB.out)⟩
                                            · rw [if_neg c53] at H
                                              exact absurd H (by simp)
                                          · rw [if_neg c52] at H
                                            have c52b0 : (((rd_T23 t216 x15_5).f0) == (wrap64 (a1 + x15_5))) = false := beq_eq_false_iff_ne.mpr c52
                                            have c52b1 : (((rd_T23 t216 x15_5).f0) != (wrap64 (a1 + x15_5))) = true := bne_iff_ne.mpr c52
                                            obtain rfl := Option.some.inj H
                                            obtain ⟨Ao57, co57, eo57⟩ := Kd.R_slice HO_11.out
                                            subst eo57
                                            have p224 : 0 ≤ (x15_5 : Int) := of_decide_eq_true (by first | (with_reducible assumption) | assumption)
                                            have q224 : x15_5 < (t216.length : Int) := of_decide_eq_true (by first | (with_reducible assumption) | assumption)
                                            obtain ⟨ad224, e224, hx224_0, hx224_1⟩ := at_T23 (Kd.R_reads' HO_11.out).2.2 x15_5 p224 q224
                                            cases e224
                                            replace p224 := eq_true p224
                                            replace q224 := eq_true q224
                                            go_wp2
                                            repeat (go_quiet (fail); try go_wp2)
                                            go_ret
                                            exact ⟨by first | rfl | (simp [errW_none, errW_some] <;> rfl) | (simp only [← hji18]; first | rfl | (simp [errW_none, errW_some] <;> rfl)) | (simp [*, errW_none, errW_some] <;> rfl), by repeat (first | (with_reducible first | exact HB.out | apply below_alloc | apply pw_below_drewN | apply below_drew1) | exact HB.out)⟩
                                        · rw [if_neg c51] at H
                                          exact absurd H (by simp)
                                      · rw [if_neg c50] at H
                                        exact absurd H (by simp)
                                    · rw [if_neg c49] at H
                                      have c49b0 : decide (x15_5 < x14_21) = false := decide_eq_false c49
                                      clear c49
                                      replace H := Option.bind_eq_some_iff.mp H
                                      obtain ⟨t227, A580, H⟩ := H
                                      replace H : (some t227) = some r := H
                                      have A58 := Aside0.mk A580
                                      clear A580
                                      obtain rfl := Option.some.inj H
                                      go_wp2_with (first | (go_at_call 16; (with_reducible refine (lodestarlaw09_awake.calls k5  t227 _ A58.out).mono ?_); rintro e w59 ⟨rfl, hb⟩; have n0_ := Aside0.mk (Kd.R_below (by (with_reducible repeat (first | apply Kd.R_alloc | apply Kd.R_drewN | apply Kd.R_drew)); exact HO_11.out) hb); have n1_ := Aside0.mk (below_step (by repeat (first | (with_reducible first | exact HB.out | apply below_alloc | apply pw_below_drewN | apply below_drew1) | exact HB.out)) hb); clear HO_11; clear HB; have HO_11 := n0_; have HB := n1_; clear n0_ n1_; (try clear hb); (try clear hb2); (try clear hk); (try clear hi)))
                                      repeat (go_quiet (first | (go_at_call 16; (with_reducible refine (lodestarlaw09_awake.calls k5  t227 _ A58.out).mono ?_); rintro e w59 ⟨rfl, hb⟩; have n0_ := Aside0.mk (Kd.R_below (by (with_reducible repeat (first | apply Kd.R_alloc | apply Kd.R_drewN | apply Kd.R_drew)); exact HO_11.out) hb); have n1_ := Aside0.mk (below_step (by repeat (first | (with_reducible first | exact HB.out | apply below_alloc | apply pw_below_drewN | apply below_drew1) | exact HB.out)) hb); clear HO_11; clear HB; have HO_11 := n0_; have HB := n1_; clear n0_ n1_; (try clear hb); (try clear hb2); (try clear hk); (try clear hi))); try go_wp2_with (first | (go_at_call 16; (with_reducible refine (lodestarlaw09_awake.calls k5  t227 _ A58.out).mono ?_); rintro e w59 ⟨rfl, hb⟩; have n0_ := Aside0.mk (Kd.R_below (by (with_reducible repeat (first | apply Kd.R_alloc | apply Kd.R_drewN | apply Kd.R_drew)); exact HO_11.out) hb); have n1_ := Aside0.mk (below_step (by repeat (first | (with_reducible first | exact HB.out | apply below_alloc | apply pw_below_drewN | apply below_drew1) | exact HB.out)) hb); clear HO_11; clear HB; have HO_11 := n0_; have HB := n1_; clear n0_ n1_; (try clear hb); (try clear hb2); (try clear hk); (try clear hi))))
                                      go_ret
                                      exact ⟨by first | rfl | (simp [errW_none, errW_some] <;> rfl) | (simp only [← hji18]; first | rfl | (simp [errW_none, errW_some] <;> rfl)) | (simp [*, errW_none, errW_some] <;> rfl), by repeat (first | (with_reducible first | exact HB.out | apply below_alloc | apply pw_below_drewN | apply below_drew1) | exact HB.out)⟩
                    · rw [if_neg c20] at H
                      exact absurd H (by simp)
                  · rw [if_neg c19] at H
                    exact absurd H (by simp)
              · replace c16 := Bool.eq_false_iff.mpr c16
                subst c16
                have H1 : (some false) = some r := by rw [if_neg (show ¬ (false = true) by decide)] at H; exact H
                clear H
                have H := H1
                clear H1
                obtain rfl := Option.some.inj H
                go_wp2_with (first | (go_at_call 17; (with_reducible refine (lodestarlaw09_joined.calls kj8 _ _ l0 a1 t211 t212 false _ ?side1 ?side2 A15.out).mono ?_); (case side1 => repeat (first | exact (Kd.C_below HR0.out HB.out) | (with_reducible refine Kd.C_alloc ?_ _) | (with_reducible refine Kd.C_drewN ?_ _) | (with_reducible refine Kd.C_drew ?_))); (case side2 => exact HC0.out); rintro e w60 ⟨v214, rfl, ho0, hb⟩; have n0_ := Aside0.mk (Kd.R_lower ho0 (below_size (by repeat (first | (with_reducible first | exact HB.out | apply below_alloc | apply pw_below_drewN | apply below_drew1) | exact HB.out)))); have n1_ := Aside0.mk (below_step (by repeat (first | (with_reducible first | exact HB.out | apply below_alloc | apply pw_below_drewN | apply below_drew1) | exact HB.out)) hb); clear HB; have HO215 := n0_; have HB := n1_; clear n0_ n1_; (try clear hb); (try clear hb2); (try clear hk); (try clear hi); (try clear ho0)))
                repeat (go_quiet (first | (go_at_call 17; (with_reducible refine (lodestarlaw09_joined.calls kj8 _ _ l0 a1 t211 t212 false _ ?side1 ?side2 A15.out).mono ?_); (case side1 => repeat (first | exact (Kd.C_below HR0.out HB.out) | (with_reducible refine Kd.C_alloc ?_ _) | (with_reducible refine Kd.C_drewN ?_ _) | (with_reducible refine Kd.C_drew ?_))); (case side2 => exact HC0.out); rintro e w60 ⟨v214, rfl, ho0, hb⟩; have n0_ := Aside0.mk (Kd.R_lower ho0 (below_size (by repeat (first | (with_reducible first | exact HB.out | apply below_alloc | apply pw_below_drewN | apply below_drew1) | exact HB.out)))); have n1_ := Aside0.mk (below_step (by repeat (first | (with_reducible first | exact HB.out | apply below_alloc | apply pw_below_drewN | apply below_drew1) | exact HB.out)) hb); clear HB; have HO215 := n0_; have HB := n1_; clear n0_ n1_; (try clear hb); (try clear hb2); (try clear hk); (try clear hi); (try clear ho0))); try go_wp2_with (first | (go_at_call 17; (with_reducible refine (lodestarlaw09_joined.calls kj8 _ _ l0 a1 t211 t212 false _ ?side1 ?side2 A15.out).mono ?_); (case side1 => repeat (first | exact (Kd.C_below HR0.out HB.out) | (with_reducible refine Kd.C_alloc ?_ _) | (with_reducible refine Kd.C_drewN ?_ _) | (with_reducible refine Kd.C_drew ?_))); (case side2 => exact HC0.out); rintro e w60 ⟨v214, rfl, ho0, hb⟩; have n0_ := Aside0.mk (Kd.R_lower ho0 (below_size (by repeat (first | (with_reducible first | exact HB.out | apply below_alloc | apply pw_below_drewN | apply below_drew1) | exact HB.out)))); have n1_ := Aside0.mk (below_step (by repeat (first | (with_reducible first | exact HB.out | apply below_alloc | apply pw_below_drewN | apply below_drew1) | exact HB.out)) hb); clear HB; have HO215 := n0_; have HB := n1_; clear n0_ n1_; (try clear hb); (try clear hb2); (try clear hk); (try clear hi); (try clear ho0))))
                go_ret
                exact ⟨by first | rfl | (simp [errW_none, errW_some] <;> rfl) | (simp [*, errW_none, errW_some] <;> rfl), by repeat (first | (with_reducible first | exact HB.out | apply below_alloc | apply pw_below_drewN | apply below_drew1) | exact HB.out)⟩

end Go.Proofs.Ytmnmlicckmaegaa.PWal
