-- Written by a program of this session on top of the print: some functions by hand.
import Derived.Test.YtbeljekpknpadaaDoorPPayUx0
import Derived.Test.YtbeljekpknpadaaDoorPPayUx4
import Derived.Test.YtbeljekpknpadaaDoorPPayUx6
import Derived.Test.YtbeljekpknpadaaDoorPPayUx8
import Derived.Test.YtbeljekpknpadaaDoorPPayUx9
import Derived.Test.YtbeljekpknpadaaDoorPPayUx14
import Derived.Test.YtbeljekpknpadaaDoorPPayUx18
namespace Go.Proofs.YtbeljekpknpadaaDoor.PPayU
open Go.RowKit Go.Proofs.YtbeljekpknpadaaDoorW.PrintWords Go.Proofs.YtbeljekpknpadaaDoorW.PrintLast Go.Proofs.YtbeljekpknpadaaDoorW.PrintMore
attribute [local go_sem] max2_int min2_int max_two min_two max_three min_three max_four min_four   -- for this text's walks alone
set_option linter.unusedVariables false
set_option linter.unusedSimpArgs false

/-! ### lodestarlaw05_PayloadFits: function 8 -/
def lodestarlaw05_PayloadFits.f (k : Nat) (l0_0 : List (S89)) (l0_1 : List (S93)) (a1_0 : Int) (l1_1 : List (S59)) (l1_2 : List (S61)) : Option (Bool) := (payload_Check.f k l0_0 l0_1 a1_0 l1_1 l1_2).bind fun t376 => (if t376 = 0 then ((payload_Encode.f k a1_0 l1_1 l1_2).bind fun bt379 => (if bt379.2 = 0 then ((lodestarref05_Copy.f k a1_0 l1_1 l1_2).bind fun bt381 => (if 0 < (bt381.2.1.length : Int) then (if 0 ≤ (wrap64 ((((rd_T59 bt381.2.1 0).f1).length : Int) - 1)) then (if (wrap64 ((((rd_T59 bt381.2.1 0).f1).length : Int) - 1)) ≤ (((rd_T59 bt381.2.1 0).f1).length : Int) then ((payload_Check.f k l0_0 l0_1 bt381.1 (bt381.2.1.set (0 : Int).toNat (⟨(rd_T59 bt381.2.1 0).f0, (((rd_T59 bt381.2.1 0).f1).take ((wrap64 ((((rd_T59 bt381.2.1 0).f1).length : Int) - 1)) : Int).toNat)⟩ : S59)) bt381.2.2).bind fun t396 => (if t396 = 60 then (if (l1_2.length : Int) > 0 then ((lodestarref05_Copy.f k a1_0 l1_1 l1_2).bind fun bt397 => (if 0 < (l1_2.length : Int) then (if 0 < (bt397.2.2.length : Int) then ((payload_Check.f k l0_0 l0_1 bt397.1 bt397.2.1 (bt397.2.2.set (0 : Int).toNat (⟨(rd_T61 bt397.2.2 0).f0, (⟨wrap64 ((Int.tmod ((rd_T61 l1_2 0).f1.f0) 3) + 1), 0, (⟨#[]⟩ : ByteArray)⟩ : S33)⟩ : S61))).bind fun t407 => (if t407 = 51 then ((lodestarlaw05_awake.f k).bind fun t408 => (some t408)) else (some false))) else (none)) else (none))) else ((lodestarlaw05_awake.f k).bind fun t409 => (some t409))) else (some false))) else (none)) else (none)) else (none))) else (some false))) else ((lodestarref05_Check.f k l0_0 l0_1 a1_0 l1_1 l1_2).bind fun t377 => (if t377 = 0 then (some false) else ((lodestarlaw05_awake.f k).bind fun t378 => (some t378)))))
theorem lodestarlaw05_PayloadFits.mono : ∀ a0 a1 a2 a3 a4 k, LeO (lodestarlaw05_PayloadFits.f k a0 a1 a2 a3 a4) (lodestarlaw05_PayloadFits.f (k + 1) a0 a1 a2 a3 a4) := by
 intro a0 a1 a2 a3 a4 k
 unfold lodestarlaw05_PayloadFits.f
 repeat' first
   | (with_reducible exact lodestarlaw05_awake.mono _)
   | (with_reducible exact lodestarref05_Check.mono _ _ _ _ _ _)
   | (with_reducible exact lodestarref05_Copy.mono _ _ _ _)
   | (with_reducible exact payload_Check.mono _ _ _ _ _ _)
   | (with_reducible exact payload_Encode.mono _ _ _ _)
   | (with_reducible exact LeO.refl _)
   | (with_reducible exact LeO.none _)
   | (with_reducible refine LeO.ite ?_ ?_)
   | (with_reducible refine LeO.bind ?_ (fun _ => ?_))
   | exact lodestarlaw05_awake.mono _
   | exact lodestarref05_Check.mono _ _ _ _ _ _
   | exact lodestarref05_Copy.mono _ _ _ _
   | exact payload_Check.mono _ _ _ _ _ _
   | exact payload_Encode.mono _ _ _ _
   | exact LeO.none _
   | refine LeO.ite ?_ ?_
   | refine LeO.bind ?_ (fun _ => ?_)
def lodestarlaw05_PayloadFits.T8 : Bool × List (List Nat × List Nat) := (true, [([], []), ([0], [0]), ([], []), ([], []), ([3], [3]), ([4], [4]), ([2, 5], [2, 5]), ([1, 0, 1, 2, 3, 4, 5, 6], [1]), ([7, 0, 1, 2, 3, 4, 5, 6], [7]), ([8, 6, 0, 1, 2, 3, 4, 5, 6], [6, 8])])
def lodestarlaw05_PayloadFits.B8 : List Nat := [0, 1, 0, 0, 8, 24, 60, 127, 255, 511]
theorem lodestarlaw05_PayloadFits.tab8 : rtab .any (opsOf Tryd.f8 8) = lodestarlaw05_PayloadFits.T8 := by kernel_rfl
theorem lodestarlaw05_PayloadFits.bits8 : waitsOk lodestarlaw05_PayloadFits.T8.2 lodestarlaw05_PayloadFits.B8 = true := by kernel_rfl
def lodestarlaw05_PayloadFits.T13 : Bool × List (List Nat × List Nat) := (true, [([], []), ([0], [0]), ([], []), ([2], [2]), ([3], [3]), ([4], [4]), ([5], [5]), ([6], [6]), ([7], [7]), ([8], [8]), ([9], [9]), ([1, 0, 1, 2, 3, 4, 5, 6, 7, 8, 9, 10], [1]), ([11, 0, 1, 2, 3, 4, 5, 6, 7, 8, 9, 10], [11]), ([12, 10, 0, 1, 2, 3, 4, 5, 6, 7, 8, 9, 10], [10, 12])])
def lodestarlaw05_PayloadFits.B13 : List Nat := [0, 1, 0, 4, 12, 28, 60, 124, 252, 508, 1020, 2047, 4095, 8191]
theorem lodestarlaw05_PayloadFits.tab13 : rtab .any (opsOf Tryd.f8 13) = lodestarlaw05_PayloadFits.T13 := by kernel_rfl
theorem lodestarlaw05_PayloadFits.bits13 : waitsOk lodestarlaw05_PayloadFits.T13.2 lodestarlaw05_PayloadFits.B13 = true := by kernel_rfl
set_option maxHeartbeats 8000000 in
set_option maxRecDepth 100000 in
theorem lodestarlaw05_PayloadFits.calls (k : Nat) (A0_0 : Option Addr) (c0_0 : Nat) (l0_0 : List (S89)) (A0_1 : Option Addr) (c0_1 : Nat) (l0_1 : List (S93)) (a1_0 : Int) (A1_1 : Option Addr) (c1_1 : Nat) (l1_1 : List (S59)) (A1_2 : Option Addr) (c1_2 : Nat) (l1_2 : List (S61)) (w : World) (hr0_0 : Kd.C k89 w A0_0 l0_0.length l0_0) (hc0_0 : l0_0.length ≤ c0_0) (hr0_1 : Kd.C k93 w A0_1 l0_1.length l0_1) (hc0_1 : l0_1.length ≤ c0_1) (hr1_1 : Kd.C k59 w A1_1 l1_1.length l1_1) (hc1_1 : l1_1.length ≤ c1_1) (hr1_2 : Kd.C k61 w A1_2 l1_2.length l1_2) (hc1_2 : l1_2.length ≤ c1_2) (hU : LaidU w) (h : lodestarlaw05_PayloadFits.f k l0_0 l0_1 a1_0 l1_1 l1_2 = some true) :
  Calls Tryd.prog 8 #[.agg #[.slice A0_0 l0_0.length c0_0, .slice A0_1 l0_1.length c0_1], .agg #[.int .i64 a1_0, .slice A1_1 l1_1.length c1_1, .slice A1_2 l1_2.length c1_2]] w fun e w' => e = .returned (.bool true) ∧ Below w.heap.size w w' := by
 have hu51 := Tryd.underlying51
 have hu25 := Tryd.underlying25
 have hu33 := Tryd.underlying33
 have HU := Aside0.mk hU
 clear hU
 have HR0_0 := Aside0.mk hr0_0
 have HC0_0 := Aside0.mk hc0_0
 clear hr0_0 hc0_0
 have HR0_1 := Aside0.mk hr0_1
 have HC0_1 := Aside0.mk hc0_1
 clear hr0_1 hc0_1
 have HR1_1 := Aside0.mk hr1_1
 have HC1_1 := Aside0.mk hc1_1
 clear hr1_1 hc1_1
 have HR1_2 := Aside0.mk hr1_2
 have HC1_2 := Aside0.mk hc1_2
 clear hr1_2 hc1_2
 have HB := Aside0.mk (Below.refl w.heap.size w)
 have H : ((payload_Check.f k l0_0 l0_1 a1_0 l1_1 l1_2).bind fun t376 => (if t376 = 0 then ((payload_Encode.f k a1_0 l1_1 l1_2).bind fun bt379 => (if bt379.2 = 0 then ((lodestarref05_Copy.f k a1_0 l1_1 l1_2).bind fun bt381 => (if 0 < (bt381.2.1.length : Int) then (if 0 ≤ (wrap64 ((((rd_T59 bt381.2.1 0).f1).length : Int) - 1)) then (if (wrap64 ((((rd_T59 bt381.2.1 0).f1).length : Int) - 1)) ≤ (((rd_T59 bt381.2.1 0).f1).length : Int) then ((payload_Check.f k l0_0 l0_1 bt381.1 (bt381.2.1.set (0 : Int).toNat (⟨(rd_T59 bt381.2.1 0).f0, (((rd_T59 bt381.2.1 0).f1).take ((wrap64 ((((rd_T59 bt381.2.1 0).f1).length : Int) - 1)) : Int).toNat)⟩ : S59)) bt381.2.2).bind fun t396 => (if t396 = 60 then (if (l1_2.length : Int) > 0 then ((lodestarref05_Copy.f k a1_0 l1_1 l1_2).bind fun bt397 => (if 0 < (l1_2.length : Int) then (if 0 < (bt397.2.2.length : Int) then ((payload_Check.f k l0_0 l0_1 bt397.1 bt397.2.1 (bt397.2.2.set (0 : Int).toNat (⟨(rd_T61 bt397.2.2 0).f0, (⟨wrap64 ((Int.tmod ((rd_T61 l1_2 0).f1.f0) 3) + 1), 0, (⟨#[]⟩ : ByteArray)⟩ : S33)⟩ : S61))).bind fun t407 => (if t407 = 51 then ((lodestarlaw05_awake.f k).bind fun t408 => (some t408)) else (some false))) else (none)) else (none))) else ((lodestarlaw05_awake.f k).bind fun t409 => (some t409))) else (some false))) else (none)) else (none)) else (none))) else (some false))) else ((lodestarref05_Check.f k l0_0 l0_1 a1_0 l1_1 l1_2).bind fun t377 => (if t377 = 0 then (some false) else ((lodestarlaw05_awake.f k).bind fun t378 => (some t378)))))) = some true := h
 clear h
 replace H := Option.bind_eq_some_iff.mp H
 obtain ⟨t376, A30, H⟩ := H
 replace H : (if t376 = 0 then ((payload_Encode.f k a1_0 l1_1 l1_2).bind fun bt379 => (if bt379.2 = 0 then ((lodestarref05_Copy.f k a1_0 l1_1 l1_2).bind fun bt381 => (if 0 < (bt381.2.1.length : Int) then (if 0 ≤ (wrap64 ((((rd_T59 bt381.2.1 0).f1).length : Int) - 1)) then (if (wrap64 ((((rd_T59 bt381.2.1 0).f1).length : Int) - 1)) ≤ (((rd_T59 bt381.2.1 0).f1).length : Int) then ((payload_Check.f k l0_0 l0_1 bt381.1 (bt381.2.1.set (0 : Int).toNat (⟨(rd_T59 bt381.2.1 0).f0, (((rd_T59 bt381.2.1 0).f1).take ((wrap64 ((((rd_T59 bt381.2.1 0).f1).length : Int) - 1)) : Int).toNat)⟩ : S59)) bt381.2.2).bind fun t396 => (if t396 = 60 then (if (l1_2.length : Int) > 0 then ((lodestarref05_Copy.f k a1_0 l1_1 l1_2).bind fun bt397 => (if 0 < (l1_2.length : Int) then (if 0 < (bt397.2.2.length : Int) then ((payload_Check.f k l0_0 l0_1 bt397.1 bt397.2.1 (bt397.2.2.set (0 : Int).toNat (⟨(rd_T61 bt397.2.2 0).f0, (⟨wrap64 ((Int.tmod ((rd_T61 l1_2 0).f1.f0) 3) + 1), 0, (⟨#[]⟩ : ByteArray)⟩ : S33)⟩ : S61))).bind fun t407 => (if t407 = 51 then ((lodestarlaw05_awake.f k).bind fun t408 => (some t408)) else (some false))) else (none)) else (none))) else ((lodestarlaw05_awake.f k).bind fun t409 => (some t409))) else (some false))) else (none)) else (none)) else (none))) else (some false))) else ((lodestarref05_Check.f k l0_0 l0_1 a1_0 l1_1 l1_2).bind fun t377 => (if t377 = 0 then (some false) else ((lodestarlaw05_awake.f k).bind fun t378 => (some t378))))) = some true := H
 have A3 := Aside0.mk A30
 clear A30
 by_cases c4 : t376 = 0
 ·rw [if_pos c4] at H
  have c4b0 : (t376 == 0) = true := beq_iff_eq.mpr c4
  have c4b1 : (t376 != 0) = false := bne_eq_false_iff_eq.mpr c4
  clear c4
  replace H := Option.bind_eq_some_iff.mp H
  obtain ⟨⟨t379, t380⟩, A50, H⟩ := H
  replace H : (if t380 = 0 then ((lodestarref05_Copy.f k a1_0 l1_1 l1_2).bind fun bt381 => (if 0 < (bt381.2.1.length : Int) then (if 0 ≤ (wrap64 ((((rd_T59 bt381.2.1 0).f1).length : Int) - 1)) then (if (wrap64 ((((rd_T59 bt381.2.1 0).f1).length : Int) - 1)) ≤ (((rd_T59 bt381.2.1 0).f1).length : Int) then ((payload_Check.f k l0_0 l0_1 bt381.1 (bt381.2.1.set (0 : Int).toNat (⟨(rd_T59 bt381.2.1 0).f0, (((rd_T59 bt381.2.1 0).f1).take ((wrap64 ((((rd_T59 bt381.2.1 0).f1).length : Int) - 1)) : Int).toNat)⟩ : S59)) bt381.2.2).bind fun t396 => (if t396 = 60 then (if (l1_2.length : Int) > 0 then ((lodestarref05_Copy.f k a1_0 l1_1 l1_2).bind fun bt397 => (if 0 < (l1_2.length : Int) then (if 0 < (bt397.2.2.length : Int) then ((payload_Check.f k l0_0 l0_1 bt397.1 bt397.2.1 (bt397.2.2.set (0 : Int).toNat (⟨(rd_T61 bt397.2.2 0).f0, (⟨wrap64 ((Int.tmod ((rd_T61 l1_2 0).f1.f0) 3) + 1), 0, (⟨#[]⟩ : ByteArray)⟩ : S33)⟩ : S61))).bind fun t407 => (if t407 = 51 then ((lodestarlaw05_awake.f k).bind fun t408 => (some t408)) else (some false))) else (none)) else (none))) else ((lodestarlaw05_awake.f k).bind fun t409 => (some t409))) else (some false))) else (none)) else (none)) else (none))) else (some false)) = some true := H
  have A5 := Aside0.mk A50
  clear A50
  by_cases c6 : t380 = 0
  ·rw [if_pos c6] at H
   have c6b0 : (t380 == 0) = true := beq_iff_eq.mpr c6
   have c6b1 : (t380 != 0) = false := bne_eq_false_iff_eq.mpr c6
   clear c6
   replace H := Option.bind_eq_some_iff.mp H
   obtain ⟨⟨t381, t382, t385⟩, A70, H⟩ := H
   replace H : (if 0 < (t382.length : Int) then (if 0 ≤ (wrap64 ((((rd_T59 t382 0).f1).length : Int) - 1)) then (if (wrap64 ((((rd_T59 t382 0).f1).length : Int) - 1)) ≤ (((rd_T59 t382 0).f1).length : Int) then ((payload_Check.f k l0_0 l0_1 t381 (t382.set (0 : Int).toNat (⟨(rd_T59 t382 0).f0, (((rd_T59 t382 0).f1).take ((wrap64 ((((rd_T59 t382 0).f1).length : Int) - 1)) : Int).toNat)⟩ : S59)) t385).bind fun t396 => (if t396 = 60 then (if (l1_2.length : Int) > 0 then ((lodestarref05_Copy.f k a1_0 l1_1 l1_2).bind fun bt397 => (if 0 < (l1_2.length : Int) then (if 0 < (bt397.2.2.length : Int) then ((payload_Check.f k l0_0 l0_1 bt397.1 bt397.2.1 (bt397.2.2.set (0 : Int).toNat (⟨(rd_T61 bt397.2.2 0).f0, (⟨wrap64 ((Int.tmod ((rd_T61 l1_2 0).f1.f0) 3) + 1), 0, (⟨#[]⟩ : ByteArray)⟩ : S33)⟩ : S61))).bind fun t407 => (if t407 = 51 then ((lodestarlaw05_awake.f k).bind fun t408 => (some t408)) else (some false))) else (none)) else (none))) else ((lodestarlaw05_awake.f k).bind fun t409 => (some t409))) else (some false))) else (none)) else (none)) else (none)) = some true := H
   have A7 := Aside0.mk A70
   clear A70
   by_cases c8 : 0 < (t382.length : Int)
   ·rw [if_pos c8] at H
    have c8b0 : decide (0 < (t382.length : Int)) = true := decide_eq_true c8
    have c8b1 : decide (0 < t382.length) = true := decide_eq_true (by omega)
    clear c8
    obtain ⟨ji9, hji9⟩ : ∃ j_ : Int, (wrap64 ((((rd_T59 t382 0).f1).length : Int) - 1)) = j_ := ⟨_, rfl⟩
    replace H : (if 0 ≤ (ji9) then (if (ji9) ≤ (((rd_T59 t382 0).f1).length : Int) then ((payload_Check.f k l0_0 l0_1 t381 (t382.set (0 : Int).toNat (⟨(rd_T59 t382 0).f0, (((rd_T59 t382 0).f1).take ((ji9) : Int).toNat)⟩ : S59)) t385).bind fun t396 => (if t396 = 60 then (if (l1_2.length : Int) > 0 then ((lodestarref05_Copy.f k a1_0 l1_1 l1_2).bind fun bt397 => (if 0 < (l1_2.length : Int) then (if 0 < (bt397.2.2.length : Int) then ((payload_Check.f k l0_0 l0_1 bt397.1 bt397.2.1 (bt397.2.2.set (0 : Int).toNat (⟨(rd_T61 bt397.2.2 0).f0, (⟨wrap64 ((Int.tmod ((rd_T61 l1_2 0).f1.f0) 3) + 1), 0, (⟨#[]⟩ : ByteArray)⟩ : S33)⟩ : S61))).bind fun t407 => (if t407 = 51 then ((lodestarlaw05_awake.f k).bind fun t408 => (some t408)) else (some false))) else (none)) else (none))) else ((lodestarlaw05_awake.f k).bind fun t409 => (some t409))) else (some false))) else (none)) else (none)) = some true := by first | (rw [hji9] at H; exact H) | (simp only [hji9] at H ⊢; exact H)
    (try rw [hji9] at A3)
    (try rw [hji9] at A5)
    (try rw [hji9] at A7)
    have hji9w : (IntKind.i64.wrap ((((rd_T59 t382 0).f1).length : Int) - 1)) = ji9 := (i64_w _).trans hji9
    by_cases c10 : 0 ≤ (ji9)
    ·rw [if_pos c10] at H
     have c10b0 := eq_true c10
     have c10b1 : decide (0 ≤ (ji9)) = true := decide_eq_true c10
     clear c10
     by_cases c11 : (ji9) ≤ (((rd_T59 t382 0).f1).length : Int)
     ·rw [if_pos c11] at H
      have c11b0 := eq_true c11
      have c11b1 : decide ((ji9) ≤ (((rd_T59 t382 0).f1).length : Int)) = true := decide_eq_true c11
      clear c11
      obtain ⟨y390, hy390⟩ : ∃ y_ : List Int, y_ = (((rd_T59 t382 0).f1).take ((ji9) : Int).toNat) := ⟨_, rfl⟩
      replace H : ((payload_Check.f k l0_0 l0_1 t381 (t382.set (0 : Int).toNat (⟨(rd_T59 t382 0).f0, y390⟩ : S59)) t385).bind fun t396 => (if t396 = 60 then (if (l1_2.length : Int) > 0 then ((lodestarref05_Copy.f k a1_0 l1_1 l1_2).bind fun bt397 => (if 0 < (l1_2.length : Int) then (if 0 < (bt397.2.2.length : Int) then ((payload_Check.f k l0_0 l0_1 bt397.1 bt397.2.1 (bt397.2.2.set (0 : Int).toNat (⟨(rd_T61 bt397.2.2 0).f0, (⟨wrap64 ((Int.tmod ((rd_T61 l1_2 0).f1.f0) 3) + 1), 0, (⟨#[]⟩ : ByteArray)⟩ : S33)⟩ : S61))).bind fun t407 => (if t407 = 51 then ((lodestarlaw05_awake.f k).bind fun t408 => (some t408)) else (some false))) else (none)) else (none))) else ((lodestarlaw05_awake.f k).bind fun t409 => (some t409))) else (some false))) = some true := by first | (rw [hy390]; with_reducible exact H) | (have H2_ := (Option.bind_some _ _).symm.trans H; rw [hy390]; with_reducible exact H2_) | (have H2_ := (Option.bind_some _ _).symm.trans H; with_reducible exact H2_) | with_reducible exact H | (rw [hy390]; exact H) | exact H
      have Ny390 := Aside0.mk hy390
      clear hy390
      obtain ⟨y395, hy395⟩ : ∃ y_ : List (S59), y_ = (t382.set (0 : Int).toNat (⟨(rd_T59 t382 0).f0, y390⟩ : S59)) := ⟨_, rfl⟩
      replace H : ((payload_Check.f k l0_0 l0_1 t381 y395 t385).bind fun t396 => (if t396 = 60 then (if (l1_2.length : Int) > 0 then ((lodestarref05_Copy.f k a1_0 l1_1 l1_2).bind fun bt397 => (if 0 < (l1_2.length : Int) then (if 0 < (bt397.2.2.length : Int) then ((payload_Check.f k l0_0 l0_1 bt397.1 bt397.2.1 (bt397.2.2.set (0 : Int).toNat (⟨(rd_T61 bt397.2.2 0).f0, (⟨wrap64 ((Int.tmod ((rd_T61 l1_2 0).f1.f0) 3) + 1), 0, (⟨#[]⟩ : ByteArray)⟩ : S33)⟩ : S61))).bind fun t407 => (if t407 = 51 then ((lodestarlaw05_awake.f k).bind fun t408 => (some t408)) else (some false))) else (none)) else (none))) else ((lodestarlaw05_awake.f k).bind fun t409 => (some t409))) else (some false))) = some true := by first | (rw [hy395]; with_reducible exact H) | (have H2_ := (Option.bind_some _ _).symm.trans H; rw [hy395]; with_reducible exact H2_) | (have H2_ := (Option.bind_some _ _).symm.trans H; with_reducible exact H2_) | with_reducible exact H | (rw [hy395]; exact H) | exact H
      have Ny395 := Aside0.mk hy395
      clear hy395
      replace H := Option.bind_eq_some_iff.mp H
      obtain ⟨t396, A130, H⟩ := H
      replace H : (if t396 = 60 then (if (l1_2.length : Int) > 0 then ((lodestarref05_Copy.f k a1_0 l1_1 l1_2).bind fun bt397 => (if 0 < (l1_2.length : Int) then (if 0 < (bt397.2.2.length : Int) then ((payload_Check.f k l0_0 l0_1 bt397.1 bt397.2.1 (bt397.2.2.set (0 : Int).toNat (⟨(rd_T61 bt397.2.2 0).f0, (⟨wrap64 ((Int.tmod ((rd_T61 l1_2 0).f1.f0) 3) + 1), 0, (⟨#[]⟩ : ByteArray)⟩ : S33)⟩ : S61))).bind fun t407 => (if t407 = 51 then ((lodestarlaw05_awake.f k).bind fun t408 => (some t408)) else (some false))) else (none)) else (none))) else ((lodestarlaw05_awake.f k).bind fun t409 => (some t409))) else (some false)) = some true := H
      have A13 := Aside0.mk A130
      clear A130
      by_cases c14 : t396 = 60
      ·rw [if_pos c14] at H
       have c14b0 : (t396 == 60) = true := beq_iff_eq.mpr c14
       have c14b1 : (t396 != 60) = false := bne_eq_false_iff_eq.mpr c14
       clear c14
       by_cases c15 : (l1_2.length : Int) > 0
       ·rw [if_pos c15] at H
        have c15b0 : decide (0 < (l1_2.length : Int)) = true := decide_eq_true c15
        have c15b1 : decide (0 < l1_2.length) = true := decide_eq_true (by omega)
        clear c15
        replace H := Option.bind_eq_some_iff.mp H
        obtain ⟨⟨t397, t398, t401⟩, A160, H⟩ := H
        replace H : (if 0 < (l1_2.length : Int) then (if 0 < (t401.length : Int) then ((payload_Check.f k l0_0 l0_1 t397 t398 (t401.set (0 : Int).toNat (⟨(rd_T61 t401 0).f0, (⟨wrap64 ((Int.tmod ((rd_T61 l1_2 0).f1.f0) 3) + 1), 0, (⟨#[]⟩ : ByteArray)⟩ : S33)⟩ : S61))).bind fun t407 => (if t407 = 51 then ((lodestarlaw05_awake.f k).bind fun t408 => (some t408)) else (some false))) else (none)) else (none)) = some true := H
        have A16 := Aside0.mk A160
        clear A160
        by_cases c17 : 0 < (l1_2.length : Int)
        ·rw [if_pos c17] at H
         have c17b0 : decide (0 < (l1_2.length : Int)) = true := decide_eq_true c17
         have c17b1 : decide (0 < l1_2.length) = true := decide_eq_true (by omega)
         clear c17
         by_cases c18 : 0 < (t401.length : Int)
         ·rw [if_pos c18] at H
          have c18b0 : decide (0 < (t401.length : Int)) = true := decide_eq_true c18
          have c18b1 : decide (0 < t401.length) = true := decide_eq_true (by omega)
          clear c18
          obtain ⟨y406, hy406⟩ : ∃ y_ : List (S61), y_ = (t401.set (0 : Int).toNat (⟨(rd_T61 t401 0).f0, (⟨wrap64 ((Int.tmod ((rd_T61 l1_2 0).f1.f0) 3) + 1), 0, (⟨#[]⟩ : ByteArray)⟩ : S33)⟩ : S61)) := ⟨_, rfl⟩
          replace H : ((payload_Check.f k l0_0 l0_1 t397 t398 y406).bind fun t407 => (if t407 = 51 then ((lodestarlaw05_awake.f k).bind fun t408 => (some t408)) else (some false))) = some true := by first | (rw [hy406]; with_reducible exact H) | (have H2_ := (Option.bind_some _ _).symm.trans H; rw [hy406]; with_reducible exact H2_) | (have H2_ := (Option.bind_some _ _).symm.trans H; with_reducible exact H2_) | with_reducible exact H | (rw [hy406]; exact H) | exact H
          have Ny406 := Aside0.mk hy406
          clear hy406
          replace H := Option.bind_eq_some_iff.mp H
          obtain ⟨t407, A200, H⟩ := H
          replace H : (if t407 = 51 then ((lodestarlaw05_awake.f k).bind fun t408 => (some t408)) else (some false)) = some true := H
          have A20 := Aside0.mk A200
          clear A200
          by_cases c21 : t407 = 51
          ·rw [if_pos c21] at H
           have c21b0 : (t407 == 51) = true := beq_iff_eq.mpr c21
           have c21b1 : (t407 != 51) = false := bne_eq_false_iff_eq.mpr c21
           clear c21
           replace H := Option.bind_eq_some_iff.mp H
           obtain ⟨t408, A220, H⟩ := H
           replace H : (some t408) = some true := H
           have A22 := Aside0.mk A220
           clear A220
           have hE_ := Aside0.mk (Option.some.inj H)
           clear H
           go_enter Tryd.func8, Tryd.ntmps8
           try go_wp2_with (first | ((with_reducible refine gate_dst (N := 2) rfl ?_); refine box_event ?hg (N := 2) ?hd (cs := #[.slice A0_0 l0_0.length c0_0, .slice A0_1 l0_1.length c0_1]) (t := 51) ?hr ?_; (case hd => rfl); (case hg => rfl); (case hr => first | (go_simp; done) | (go_simp; rfl)); intro gb374 hg w23 hbox hb; have BK374 := Aside0.mk (hbox); have GW374 := Aside0.mk (gs (w := w) hg (bl HB.out)); have GE374 := Aside0.mk (gs (w := w) hg (bl HB.out)); replace HB := Aside0.mk (below_step (bl HB.out) hb); clear hb hbox hg) | ((with_reducible refine gate_dst (N := 3) rfl ?_); refine box_event ?hg (N := 3) ?hd (cs := #[.int .i64 a1_0, .slice A1_1 l1_1.length c1_1, .slice A1_2 l1_2.length c1_2]) (t := 25) ?hr ?_; (case hd => rfl); (case hg => rfl); (case hr => first | (go_simp; done) | (go_simp; rfl)); intro gb375 hg w24 hbox hb; have BK375 := Aside0.mk (hbox); have GW375 := Aside0.mk (gs (w := w) hg (bl HB.out)); have GE375 := Aside0.mk (gs (w := w) hg (bl HB.out)); replace HB := Aside0.mk (below_step (bl HB.out) hb); have NB374_375 := Aside0.mk ((gl (g := gb374) hg (pk BK374.out))); have NB375_374 := Aside0.mk ((gm (g := gb374) hg (pk BK374.out))); replace BK374 := Aside0.mk (blk_below (pk BK374.out) hb); clear hb hbox hg; have hnb25 := NB374_375.out; have hnc25 := NB375_374.out; obtain ⟨hcz26_0, hcz26_1, hfz26_0, hfz26_1⟩ := cz2 BK374.out; obtain ⟨hcz27_0, hcz27_1, hcz27_2, hfz27_0, hfz27_1, hfz27_2⟩ := cz3 BK375.out) | ((with_reducible refine gate_callee (f := 24) rfl ?_); refine goesL_ (some 12) rfl rfl Tryd.func24 kr rfl #[.agg #[.slice A0_0 l0_0.length c0_0, .slice A0_1 l0_1.length c0_1], .agg #[.int .i64 a1_0, .slice A1_1 l1_1.length c1_1, .slice A1_2 l1_2.length c1_2]] rfl ga ?_; (with_reducible refine (payload_Check.calls k _ _ l0_0 _ _ l0_1 a1_0 _ _ l1_1 _ _ l1_2 t376 _ ?side1 ?side2 ?side3 ?side4 ?side5 ?side6 ?side7 ?side8 ?side9 A3.out).mono ?_); (case side1 => repeat (first | exact (Kd.C_below HR0_0.out HB.out) | (with_reducible refine Kd.C_alloc ?_ _) | (with_reducible refine Kd.C_drewN ?_ _) | (with_reducible refine Kd.C_drew ?_))); (case side2 => exact HC0_0.out); (case side3 => repeat (first | exact (Kd.C_below HR0_1.out HB.out) | (with_reducible refine Kd.C_alloc ?_ _) | (with_reducible refine Kd.C_drewN ?_ _) | (with_reducible refine Kd.C_drew ?_))); (case side4 => exact HC0_1.out); (case side5 => repeat (first | exact (Kd.C_below HR1_1.out HB.out) | (with_reducible refine Kd.C_alloc ?_ _) | (with_reducible refine Kd.C_drewN ?_ _) | (with_reducible refine Kd.C_drew ?_))); (case side6 => exact HC1_1.out); (case side7 => repeat (first | exact (Kd.C_below HR1_2.out HB.out) | (with_reducible refine Kd.C_alloc ?_ _) | (with_reducible refine Kd.C_drewN ?_ _) | (with_reducible refine Kd.C_drew ?_))); (case side8 => exact HC1_2.out); (case side9 => exact LaidU.below HU.out (bl HB.out)); rintro e w28 ⟨rfl, hb⟩; refine ⟨_, rfl, ?_⟩; replace BK374 := Aside0.mk (blk_below (pk BK374.out) hb); replace BK375 := Aside0.mk (blk_below (pk BK375.out) hb); replace HB := Aside0.mk (below_step (bl HB.out) hb); (try clear hb); (try clear hb2); (try clear hk); (try clear hi); obtain ⟨hcz29_0, hcz29_1, hcz29_2, hfz29_0, hfz29_1, hfz29_2⟩ := cz3 BK375.out) | ((with_reducible refine gate_callee (f := 13) rfl ?_); refine goesL_ (some 23) rfl rfl Tryd.func13 kr rfl #[.agg #[.int .i64 a1_0, .slice A1_1 l1_1.length c1_1, .slice A1_2 l1_2.length c1_2]] rfl ga ?_; (with_reducible refine (payload_Encode.calls k a1_0 _ _ l1_1 _ _ l1_2 t379 t380 _ ?side1 ?side2 ?side3 ?side4 ?side5 A5.out).mono ?_); (case side1 => repeat (first | exact (Kd.C_below HR1_1.out HB.out) | (with_reducible refine Kd.C_alloc ?_ _) | (with_reducible refine Kd.C_drewN ?_ _) | (with_reducible refine Kd.C_drew ?_))); (case side2 => exact HC1_1.out); (case side3 => repeat (first | exact (Kd.C_below HR1_2.out HB.out) | (with_reducible refine Kd.C_alloc ?_ _) | (with_reducible refine Kd.C_drewN ?_ _) | (with_reducible refine Kd.C_drew ?_))); (case side4 => exact HC1_2.out); (case side5 => exact LaidU.below HU.out (bl HB.out)); rintro e w30 ⟨rfl, hb⟩; refine ⟨_, rfl, ?_⟩; replace BK374 := Aside0.mk (blk_below (pk BK374.out) hb); replace BK375 := Aside0.mk (blk_below (pk BK375.out) hb); replace HB := Aside0.mk (below_step (bl HB.out) hb); (try clear hb); (try clear hb2); (try clear hk); (try clear hi); obtain ⟨hcz31_0, hcz31_1, hcz31_2, hfz31_0, hfz31_1, hfz31_2⟩ := cz3 BK375.out) | ((with_reducible refine gate_callee (f := 11) rfl ?_); refine goesL_ (some 29) rfl rfl Tryd.func11 kr rfl #[.agg #[.int .i64 a1_0, .slice A1_1 l1_1.length c1_1, .slice A1_2 l1_2.length c1_2]] rfl ga ?_; (with_reducible refine (lodestarref05_Copy.calls k a1_0 _ _ l1_1 _ _ l1_2 t381 t382 t385 _ ?side1 ?side2 ?side3 ?side4 A7.out).mono ?_); (case side1 => repeat (first | exact (Kd.C_below HR1_1.out HB.out) | (with_reducible refine Kd.C_alloc ?_ _) | (with_reducible refine Kd.C_drewN ?_ _) | (with_reducible refine Kd.C_drew ?_))); (case side2 => exact HC1_1.out); (case side3 => repeat (first | exact (Kd.C_below HR1_2.out HB.out) | (with_reducible refine Kd.C_alloc ?_ _) | (with_reducible refine Kd.C_drewN ?_ _) | (with_reducible refine Kd.C_drew ?_))); (case side4 => exact HC1_2.out); rintro e w32 ⟨v383, v386, rfl, ho0, ho1, hb⟩; refine ⟨_, rfl, ?_⟩; have HO384 := Aside0.mk (Kd.N_lower (Kd.N_mono (ok' := fun k_ => some k_ ≠ (v386 : Value).ownBlock ∧ k_ ≠ gb374 ∧ k_ ≠ gb375) (Kd.S_N (Kd.S_bound (Kd.S_apart' ho0 (Kd.R_typed ho1) (by decide)))) (fun k_ hk_ => ⟨hk_.1.2, (Kd.freshB (g := gb374) (o := .cells #[.slice A0_0 l0_0.length c0_0, .slice A0_1 l0_1.length c0_1] 51 (0, 0)) (pk BK374.out) k_ hk_.2.1), (Kd.freshB (g := gb375) (o := .cells #[.int .i64 a1_0, .slice A1_1 l1_1.length c1_1, .slice A1_2 l1_2.length c1_2] 25 (0, 0)) (pk BK375.out) k_ hk_.2.1)⟩)) (below_size (bl HB.out))); have HO387 := Aside0.mk (Kd.R_lower ho1 (below_size (bl HB.out))); replace BK374 := Aside0.mk (blk_below (pk BK374.out) hb); replace BK375 := Aside0.mk (blk_below (pk BK375.out) hb); replace HB := Aside0.mk (below_step (bl HB.out) hb); (try clear hb); (try clear hb2); (try clear hk); (try clear hi); (try clear ho0); (try clear ho1)) | ((with_reducible refine gate_dst (N := 7) rfl ?_); refine box_event ?hg (N := 7) ?hd (cs := #[.int .i64 0, .slice none 0 0, .slice none 0 0]) (t := 25) ?hr ?_; (case hd => rfl); (case hg => rfl); (case hr => first | (go_simp; done) | (go_simp; rfl)); intro gb388 hg w33 hbox hb; replace HO384 := Aside0.mk (Kd.N_below (Kd.N_elderB (pN HO384.out) gb388 (Nat.le_of_eq hg.symm)) hb); replace HO387 := Aside0.mk (Kd.R_below (pR HO387.out) hb); have BK388 := Aside0.mk (hbox); have GW388 := Aside0.mk (gs (w := w) hg (bl HB.out)); have GE388 := Aside0.mk (gs (w := w) hg (bl HB.out)); replace HB := Aside0.mk (below_step (bl HB.out) hb); have NB374_388 := Aside0.mk ((gl (g := gb374) hg (pk BK374.out))); have NB388_374 := Aside0.mk ((gm (g := gb374) hg (pk BK374.out))); replace BK374 := Aside0.mk (blk_below (pk BK374.out) hb); have NB375_388 := Aside0.mk ((gl (g := gb375) hg (pk BK375.out))); have NB388_375 := Aside0.mk ((gm (g := gb375) hg (pk BK375.out))); replace BK375 := Aside0.mk (blk_below (pk BK375.out) hb); clear hb hbox hg; have hnb34 := NB388_374.out; have hnc34 := NB374_388.out; have hnb35 := NB388_375.out; have hnc35 := NB375_388.out; obtain ⟨hcz36_0, hcz36_1, hcz36_2, hfz36_0, hfz36_1, hfz36_2⟩ := cz3 BK388.out; obtain ⟨Ao37, co37, eo37⟩ := Kd.N_slice HO384.out; subst eo37; obtain ⟨Ao38, co38, eo38⟩ := Kd.R_slice HO387.out; subst eo38) | ((with_reducible refine gate_store (t := 25) (p := 7) rfl ?_); refine store_event (t := 25) (p := 7) (v := ?vo_w39) (w1 := (((w33.setCell ⟨gb388, 0, none⟩ (.int .i64 t381)).setCell ⟨gb388, 1, none⟩ (.slice Ao37 t382.length co37)).setCell ⟨gb388, 2, none⟩ (.slice Ao38 t385.length co38))) ?hg ?ho ?hn ?hr ?_; (case ho => rfl); (case hg => rfl); (case hn => rfl); (case hr => first | (go_simp; done) | (go_simp; rfl)); intro w39 hw; replace HO384 : Aside0 (Kd.N k59 59 w39 w.heap.size (fun k_ => some k_ ≠ (.slice Ao38 t385.length co38 : Value).ownBlock ∧ k_ ≠ gb374 ∧ k_ ≠ gb375 ∧ k_ ≠ gb388) (.slice Ao37 t382.length co37) t382) := ⟨(by rw [hw]; exact (by (with_reducible repeat (first | apply Kd.N_alloc | apply Kd.N_drewN | apply Kd.N_drew)); exact Kd.N_mono (Kd.N_far (p := ⟨gb388, 2, none⟩) (Kd.N_far (p := ⟨gb388, 1, none⟩) (Kd.N_far (p := ⟨gb388, 0, none⟩) (Kd.N_mono HO384.out (fun k_ hk => (⟨hk, hk.2⟩ : _ ∧ k_ ≠ gb388))) (fun _ hk => hk.2) (.int .i64 t381)) (fun _ hk => hk.2) (.slice Ao37 t382.length co37)) (fun _ hk => hk.2) (.slice Ao38 t385.length co38)) (fun _ hk => ⟨hk.1.1.1, ⟨hk.1.1.2.1, ⟨hk.1.1.2.2, hk.1.2⟩⟩⟩)))⟩; replace HO387 : Aside0 (Kd.R k61 61 w39 w.heap.size (fun _ => True) (.slice Ao38 t385.length co38) t385) := ⟨(by rw [hw]; exact (by (with_reducible repeat (first | apply Kd.R_alloc | apply Kd.R_drewN | apply Kd.R_drew)); exact Kd.R_mono (Kd.R_far (p := ⟨gb388, 2, none⟩) (Kd.R_far (p := ⟨gb388, 1, none⟩) (Kd.R_far (p := ⟨gb388, 0, none⟩) (Kd.R_types HO387.out BK388.out (by decide)) (fun _ hk => hk.2) (.int .i64 t381)) (fun _ hk => hk.2) (.slice Ao37 t382.length co37)) (fun _ hk => hk.2) (.slice Ao38 t385.length co38)) (fun _ hk => trivial)))⟩; replace BK374 : Aside0 (w39.heap[gb374]? = some (.cells #[.slice A0_0 l0_0.length c0_0, .slice A0_1 l0_1.length c0_1] 51 (0, 0))) := ⟨(by rw [hw]; exact (by refine pk ?_; refine blk_far ?_ NB374_388.out _; refine pk ?_; refine blk_far ?_ NB374_388.out _; refine pk ?_; refine blk_far ?_ NB374_388.out _; exact pk BK374.out))⟩; replace BK375 : Aside0 (w39.heap[gb375]? = some (.cells #[.int .i64 a1_0, .slice A1_1 l1_1.length c1_1, .slice A1_2 l1_2.length c1_2] 25 (0, 0))) := ⟨(by rw [hw]; exact (by refine pk ?_; refine blk_far ?_ NB375_388.out _; refine pk ?_; refine blk_far ?_ NB375_388.out _; refine pk ?_; refine blk_far ?_ NB375_388.out _; exact pk BK375.out))⟩; replace BK388 : Aside0 (w39.heap[gb388]? = some (.cells #[.int .i64 t381, .slice Ao37 t382.length co37, .slice Ao38 t385.length co38] 25 (0, 0))) := ⟨(by rw [hw]; exact (by refine pk ?_; refine blk_put (cs := #[.int .i64 t381, .slice Ao37 t382.length co37, .slice none 0 0]) ?_ 2 _ rfl; refine pk ?_; refine blk_put (cs := #[.int .i64 t381, .slice none 0 0, .slice none 0 0]) ?_ 1 _ rfl; refine pk ?_; refine blk_put (cs := #[.int .i64 0, .slice none 0 0, .slice none 0 0]) ?_ 0 _ rfl; exact pk BK388.out))⟩; replace HB : Aside0 (Below w.heap.size w w39) := ⟨(by rw [hw]; exact (bl HB.out))⟩; clear hw; obtain ⟨hcz40_0, hcz40_1, hcz40_2, hfz40_0, hfz40_1, hfz40_2⟩ := cz3 BK388.out; have p389 : 0 ≤ (0 : Int) := (by omega); have q389 : 0 < (t382.length : Int) := of_decide_eq_true ha; obtain ⟨ad389, A389_1, c389_1, e389, hx389_0, hx389_1, hl389_1, hi389_1⟩ := at_T59 (Kd.N_reads' HO384.out).2.2 0 p389 q389; cases e389; obtain ⟨ce389, hce389, hMe389, hcc389⟩ := Kd.N_get HO384.out z59 0 p389 (by first | exact q389 | exact of_decide_eq_true ha | (have e_ := (Kd.N_reads' HO384.out).1; omega)); obtain ⟨ua389_1, uc389_1, rfl, ul389_1, ge389_1⟩ := k59_openF hMe389; have hv389_1 := hcc389 1 _ rfl; rw [add_field _ _ 1 (by omega)] at hv389_1; replace hv389_1 := Option.some.inj (hv389_1.symm.trans hx389_1); injection hv389_1 with hva_ hvn_ hvc_; rw [hva_] at ge389_1; rw [hvc_] at ul389_1; have HL389_1 := Aside0.mk (show Kd.V (Kd.int .i64) 3 _ w.heap.size _ _ ((rd_T59 t382 0).f1) from Kd.V_mk ul389_1 ge389_1); clear hva_ hvn_ hvc_ ge389_1 ul389_1; clear hcc389 hce389; have qi389 : (0 < t382.length) = True := eq_true (by omega); (try rw [show ((0 : Int)).toNat = 0 from rfl] at hx389_0); (try rw [show 0 * 2 = 0 from rfl] at hx389_0); (try rw [Addr.add_zero'] at hx389_0); (try rw [show ((0 : Int)).toNat = 0 from rfl] at hx389_1); (try rw [show 0 * 2 = 0 from rfl] at hx389_1); (try rw [Addr.add_zero'] at hx389_1); have HR389_1 := Aside0.mk hi389_1; have HC389_1 := Aside0.mk hl389_1; clear hi389_1 hl389_1; replace p389 := eq_true p389; replace q389 := eq_true q389))
           replace HO384 := Aside0.mk (Kd.N_drew HO384.out)
           replace HO387 := Aside0.mk (Kd.R_drew HO387.out)
           replace HL389_1 := Aside0.mk (Kd.V_drew HL389_1.out)
           replace BK374 := Aside0.mk (blk_drew BK374.out)
           replace BK375 := Aside0.mk (blk_drew BK375.out)
           replace BK388 := Aside0.mk (blk_drew BK388.out)
           replace HR389_1 := Aside0.mk (Kd.C_drew HR389_1.out)
           replace HB := Aside0.mk (below_drew1 HB.out)
           have q42 : ((ji9) : Int) ≤ ((((rd_T59 t382 0).f1).length : Int) : Int) := of_decide_eq_true ha
           obtain ⟨i042, hi042, _, hsz42, _⟩ := info_parts info3
           have hroom42 : ((rd_T59 t382 0).f1).length ≤ c389_1 := HC389_1.out
           have hC42 : Kd.F (Kd.int .i64) _ _ A389_1 ((rd_T59 t382 0).f1).length ((rd_T59 t382 0).f1) := (Kd.V_at (base := w.heap.size) HL389_1.out).2.2
           have hcut42 := cut_to (P := Tryd.prog) 57 3 .i64 Tryd.underlying57 hi042 A389_1 ((rd_T59 t382 0).f1).length c389_1 (ji9) (of_decide_eq_true ha) q42 hroom42
           have hr42 := Kd.F_take (m := ((ji9) : Int).toNat) hC42 (by omega)
           have hy42 : y390.length = ((ji9) : Int).toNat := (by rw [Ny390.out, List.length_take]; omega)
           rw [← Ny390.out] at hr42
           rw [← hy42] at hcut42
           have HO394 := Aside0.mk (show Kd.V (Kd.int .i64) 3 _ w.heap.size _ (.slice A389_1 y390.length c389_1) y390 from Kd.V_mk (by omega) hr42)
           have HC394 := Aside0.mk (show y390.length ≤ c389_1 from by omega)
           clear hr42 hC42 hroom42 hi042 hsz42
           have KY42 := Aside0.mk hy42
           clear hy42
           replace q42 := eq_true q42
           have p12 : 0 ≤ (0 : Int) := (by omega)
           have q12 : (0 : Int) < ((t382.length : Int) : Int) := of_decide_eq_true ha
           have qi12 : (0 < t382.length) = True := eq_true (by omega)
           obtain ⟨go12, co12, eo12, gb12, gl12, cl12, HG12⟩ := Kd.N_form HO384.out (by omega)
           (first | cases eo12 | (injection eo12 with ea_ en_ ec_; (first | subst ea_ | (injection ea_ with ea_; subst ea_)); subst ec_; clear en_))
           have GB12 := Aside0.mk gb12
           have GG12 := Aside0.mk HG12
           clear gb12 gl12 HG12
           (first | simp only [add_plain] at hx389_0 | skip)
           (first | simp only [add_plain] at hx389_1 | skip)
           obtain ⟨ce12, hcl12, hM12, hcc12, hfr12⟩ := Kd.N_elem HO384.out z59 (0 : Int) p12 q12
           obtain ⟨ua12_1, uc12_1, rfl, ul12_1, ge12_1⟩ := k59_openF hM12
           have hx12_0 : World.cell? _ ⟨go12, (0 : Int).toNat * 2, none⟩ = some (.string ((rd_T59 t382 0).f0)) := hcc12 0 _ rfl
           have hx12_1 : World.cell? _ ⟨go12, (0 : Int).toNat * 2 + 1, none⟩ = some (.slice ua12_1 ((rd_T59 t382 0).f1).length uc12_1) := hcc12 1 _ rfl
           have hf12_0 : World.frozen? _ ⟨go12, (0 : Int).toNat * 2, none⟩ = false := hfr12 0
           have hf12_1 : World.frozen? _ ⟨go12, (0 : Int).toNat * 2 + 1, none⟩ = false := hfr12 1
           clear hcl12 hcc12 hfr12 hM12
           (try rw [show ((0 : Int)).toNat = 0 from rfl] at hx12_0)
           (try simp only [Nat.reduceMul, Nat.zero_mul, Nat.zero_add, Nat.reduceAdd] at hx12_0)
           (try rw [show ((0 : Int)).toNat = 0 from rfl] at hf12_0)
           (try simp only [Nat.reduceMul, Nat.zero_mul, Nat.zero_add, Nat.reduceAdd] at hf12_0)
           (try rw [show ((0 : Int)).toNat = 0 from rfl] at hx12_1)
           (try simp only [Nat.reduceMul, Nat.zero_mul, Nat.zero_add, Nat.reduceAdd] at hx12_1)
           (try rw [show ((0 : Int)).toNat = 0 from rfl] at hf12_1)
           (try simp only [Nat.reduceMul, Nat.zero_mul, Nat.zero_add, Nat.reduceAdd] at hf12_1)
           replace p12 := eq_true p12
           replace q12 := eq_true q12
           have HX43 := Aside0.mk (show Kd.N k59 59 _ w.heap.size (fun k_ => some k_ ≠ (.slice Ao38 t385.length co38 : Value).ownBlock ∧ k_ ≠ gb374 ∧ k_ ≠ gb375 ∧ k_ ≠ gb388) (.slice (some ⟨go12, 0, none⟩) t382.length co37) t382 from (Kd.N_mono (HO384.out) (fun k_ hk => ⟨hk.1, ⟨hk.2.1, ⟨hk.2.2.1, hk.2.2.2⟩⟩⟩)))
           obtain ⟨ce43, hcl43, hM43, hcc43, hfr43⟩ := Kd.N_elem HX43.out z59 (0 : Int) (by omega) (by have h_ : (0 : Int) < ((t382.length : Int) : Int) := of_decide_eq_true ha; first | exact h_ | (have e_ := (Kd.N_reads' HO384.out).1; omega) | simpa using h_)
           obtain ⟨ua43_1, uc43_1, rfl, ul43_1, ge43_1⟩ := k59_openF hM43
           have HP43 := (Kd.N_seg HX43.out (0 : Int) (by omega) (by have h_ : (0 : Int) < ((t382.length : Int) : Int) := of_decide_eq_true ha; first | exact h_ | (have e_ := (Kd.N_reads' HO384.out).1; omega) | simpa using h_) (seg := [.slice A389_1 y390.length c389_1]) (j := 1) hcl43 hcc43 (show 2 ≤ 2 from by decide) (x' := (⟨(rd_T59 t382 0).f0, y390⟩ : S59)) (k59_mkF _ _ (⟨(rd_T59 t382 0).f0, y390⟩ : S59) (Kd.V_reads' (Kd.V_mono (ok' := (fun k_ => ((fun k_ => some k_ ≠ (.slice Ao38 t385.length co38 : Value).ownBlock ∧ k_ ≠ gb374 ∧ k_ ≠ gb375 ∧ k_ ≠ gb388)) k_ ∧ k_ ≠ go12)) (HO394.out) (fun k_ hk => ⟨⟨hk.1.1, ⟨hk.1.2.1, ⟨hk.1.2.2.1, hk.1.2.2.2⟩⟩⟩, fun e_ => (hk.2) (by rw [e_]; rfl)⟩))).2.1 (Kd.V_F (Kd.V_mono (ok' := (fun k_ => ((fun k_ => some k_ ≠ (.slice Ao38 t385.length co38 : Value).ownBlock ∧ k_ ≠ gb374 ∧ k_ ≠ gb375 ∧ k_ ≠ gb388)) k_ ∧ k_ ≠ go12)) (HO394.out) (fun k_ hk => ⟨⟨hk.1.1, ⟨hk.1.2.1, ⟨hk.1.2.2.1, hk.1.2.2.2⟩⟩⟩, fun e_ => (hk.2) (by rw [e_]; rfl)⟩)))) (fun _ hk => hk)).1
           rw [← Ny395.out] at HP43
           have HQ43 := Aside0.mk HP43
           clear hcl43 hcc43 hfr43 hM43 HP43
           refine start_ (n := 10) (S := fun w' => w'.cell? ⟨gb388, 0, none⟩ = some (.int .i64 t381) ∧ w'.cell? ⟨gb388, 1, none⟩ = some (.slice (some ⟨go12, 0, none⟩) t382.length co37) ∧ w'.cell? ⟨gb388, 2, none⟩ = some (.slice Ao38 t385.length co38)) (ds := [9]) #[false, false, false, false, false, false, false, false, false, false] kr rfl rfl ⟨(blk_cell BK388.out 0).trans rfl, (blk_cell BK388.out 1).trans rfl, (blk_cell BK388.out 2).trans rfl⟩ (fun hHeld => ?_); refine with_tabW lodestarlaw05_PayloadFits.tab8 lodestarlaw05_PayloadFits.bits8 (fun HT_ HW_ => ?_)
           generalize w39.drew = w41 at HO384 HO387 HL389_1 BK374 BK375 BK388 HR389_1 HB GG12 HO394 HQ43 hf12_0 hf12_1 hx12_0 hx12_1 hx389_0 hx389_1 hHeld ⊢
           refine pure_ (i := 0) (N := some 35) (v := ?_) (a' := ?_) #[true, false, false, false, false, false, false, false, false, false] rfl rfl (any_of HT_.out kr) (fun _ _ _ h => h) (Or.inl ⟨by rfl, ?_⟩) ?_ ?_
           rotate_left
           ·exact wl
           rotate_left
           ·exact ap
           refine pure_ (i := 2) (N := some 37) (v := ?_) (a' := ?_) #[true, false, true, false, false, false, false, false, false, false] rfl rfl (any_of HT_.out kr) (fun _ _ _ h => h) (Or.inl ⟨by rfl, ?_⟩) ?_ ?_
           rotate_left
           ·exact wl
           rotate_left
           ·exact ap
           refine pure_ (i := 3) (N := some 38) (v := ?_) (a' := ?_) #[true, false, true, true, false, false, false, false, false, false] rfl rfl (any_of HT_.out kr) (fun _ _ _ h => h) (Or.inl ⟨by rfl, ?_⟩) ?_ ?_
           rotate_left
           ·exact wl
           rotate_left
           ·exact ap
           refine pure_ (i := 4) (N := some 39) (v := ?_) (a' := ?_) #[true, false, true, true, true, false, false, false, false, false] rfl rfl (any_of HT_.out kr) (fun _ _ _ h => h) (Or.inl ⟨by rfl, ?_⟩) ?_ ?_
           rotate_left
           ·exact wl
           rotate_left
           ·exact ap
           refine pure_ (i := 5) (N := some 40) (v := ?_) (a' := ?_) #[true, false, true, true, true, true, false, false, false, false] rfl rfl (any_of HT_.out kr) (fun _ _ _ h => h) (Or.inl ⟨by rfl, ?_⟩) ?_ ?_
           rotate_left
           ·exact wl
           rotate_left
           ·exact ap
           refine pure_ (i := 6) (N := some 41) (v := ?_) (a' := ?_) #[true, false, true, true, true, true, true, false, false, false] rfl rfl (any_of HT_.out kr) (fun _ _ _ h => h) (Or.inl ⟨by rfl, ?_⟩) ?_ ?_
           rotate_left
           ·exact wl
           rotate_left
           ·exact ap
           refine take_ (i := 1) (N := some 36) (v := ?_) (a' := ?_) #[true, true, true, true, true, true, true, false, false, false] rfl rfl (take_ofW HT_.out HW_.out kr) (fun _ _ _ h => h) (Or.inl ⟨by rfl, ?_⟩) hHeld ?_ ?_
           rotate_left
           ·rintro w' ⟨s0, s1, s2⟩
            go_simp
            exact rl
           rotate_left
           ·exact ap
           refine pure_ (i := 7) (N := some 42) (v := ?_) (a' := ?_) #[true, true, true, true, true, true, true, true, false, false] rfl rfl (any_of HT_.out kr) (fun _ _ _ h => h) (Or.inl ⟨by rfl, ?_⟩) ?_ ?_
           rotate_left
           ·exact wl
           rotate_left
           ·exact ap
           refine pure_ (i := 8) (N := some 43) (v := ?_) (a' := ?_) #[true, true, true, true, true, true, true, true, true, false] rfl rfl (any_of HT_.out kr) (fun _ _ _ h => h) (Or.inl ⟨by rfl, ?_⟩) ?_ ?_
           rotate_left
           ·exact wl
           rotate_left
           ·exact ap
           refine last_ (i := 9) (N := none) #[true, true, true, true, true, true, true, true, true, true] rfl rfl (one_of HT_.out kr) (by decide) (fun K hK => ?_)
           refine skip_ (w1 := ?_) (by rfl) rfl ?_ ?_
           rotate_left
           ·go_simp
            rfl
           refine hK.out _ _ ?_
           clear hK K
           refine done_ (done_of HT_.out kr) ?_
           have n0_ : Aside0 (Kd.N k59 59 (w41.setCell ⟨go12, 1, none⟩ (.slice A389_1 y390.length c389_1)) w.heap.size (fun k_ => some k_ ≠ (.slice Ao38 t385.length co38 : Value).ownBlock ∧ k_ ≠ gb374 ∧ k_ ≠ gb375 ∧ k_ ≠ gb388) (.slice (some ⟨go12, 0, none⟩) t382.length co37) y395) := ⟨pN HQ43.out⟩
           have n1_ : Aside0 (Kd.R k61 61 (w41.setCell ⟨go12, 1, none⟩ (.slice A389_1 y390.length c389_1)) w.heap.size (fun _ => True) (.slice Ao38 t385.length co38) t385) := ⟨by (with_reducible repeat (first | apply Kd.R_alloc | apply Kd.R_drewN | apply Kd.R_drew)); exact Kd.R_mono (Kd.R_far (p := ⟨go12, 1, none⟩) (Kd.R_types HO387.out GG12.out (by decide)) (fun _ hk => hk.2) (.slice A389_1 y390.length c389_1)) (fun _ hk => trivial)⟩
           have n2_ : Aside0 (Kd.V (Kd.int .i64) 3 (w41.setCell ⟨go12, 1, none⟩ (.slice A389_1 y390.length c389_1)) w.heap.size (fun k_ => some k_ ≠ (.slice (some ⟨go12, 0, none⟩) t382.length co37 : Value).ownBlock ∧ some k_ ≠ (.slice Ao38 t385.length co38 : Value).ownBlock ∧ k_ ≠ gb374 ∧ k_ ≠ gb375 ∧ k_ ≠ gb388) (.slice A389_1 ((rd_T59 t382 0).f1).length c389_1) ((rd_T59 t382 0).f1)) := ⟨by (with_reducible repeat (first | apply Kd.V_alloc | apply Kd.V_drewN | apply Kd.V_drew)); exact Kd.V_mono (Kd.V_far (p := ⟨go12, 1, none⟩) (Kd.V_mono HL389_1.out (fun k_ hk => (⟨hk, fun e_ => hk.2 (by rw [e_]; rfl)⟩ : _ ∧ k_ ≠ go12))) (fun _ hk => hk.2) (.slice A389_1 y390.length c389_1)) (fun _ hk => ⟨hk.1.2, ⟨hk.1.1.1, ⟨hk.1.1.2.1, ⟨hk.1.1.2.2.1, hk.1.1.2.2.2⟩⟩⟩⟩)⟩
           have n3_ : Aside0 (Kd.V (Kd.int .i64) 3 (w41.setCell ⟨go12, 1, none⟩ (.slice A389_1 y390.length c389_1)) w.heap.size (fun k_ => some k_ ≠ (.slice (some ⟨go12, 0, none⟩) t382.length co37 : Value).ownBlock ∧ some k_ ≠ (.slice Ao38 t385.length co38 : Value).ownBlock ∧ k_ ≠ gb374 ∧ k_ ≠ gb375 ∧ k_ ≠ gb388) (.slice A389_1 y390.length c389_1) y390) := ⟨by (with_reducible repeat (first | apply Kd.V_alloc | apply Kd.V_drewN | apply Kd.V_drew)); exact Kd.V_mono (Kd.V_far (p := ⟨go12, 1, none⟩) (Kd.V_mono HO394.out (fun k_ hk => (⟨hk, fun e_ => hk.2 (by rw [e_]; rfl)⟩ : _ ∧ k_ ≠ go12))) (fun _ hk => hk.2) (.slice A389_1 y390.length c389_1)) (fun _ hk => ⟨hk.1.2, ⟨hk.1.1.1, ⟨hk.1.1.2.1, ⟨hk.1.1.2.2.1, hk.1.1.2.2.2⟩⟩⟩⟩)⟩
           have n4_ : Aside0 ((w41.setCell ⟨go12, 1, none⟩ (.slice A389_1 y390.length c389_1)).heap[gb374]? = some (.cells #[.slice A0_0 l0_0.length c0_0, .slice A0_1 l0_1.length c0_1] 51 (0, 0))) := ⟨by refine pk ?_; refine blk_far ?_ (by have h_ := Kd.N_away HO384.out (fun _ hk => hk.2.1); intro e_; exact h_ (by rw [e_]; rfl)) _; exact pk BK374.out⟩
           have n5_ : Aside0 ((w41.setCell ⟨go12, 1, none⟩ (.slice A389_1 y390.length c389_1)).heap[gb375]? = some (.cells #[.int .i64 a1_0, .slice A1_1 l1_1.length c1_1, .slice A1_2 l1_2.length c1_2] 25 (0, 0))) := ⟨by refine pk ?_; refine blk_far ?_ (by have h_ := Kd.N_away HO384.out (fun _ hk => hk.2.2.1); intro e_; exact h_ (by rw [e_]; rfl)) _; exact pk BK375.out⟩
           have n6_ : Aside0 ((w41.setCell ⟨go12, 1, none⟩ (.slice A389_1 y390.length c389_1)).heap[gb388]? = some (.cells #[.int .i64 t381, .slice (some ⟨go12, 0, none⟩) t382.length co37, .slice Ao38 t385.length co38] 25 (0, 0))) := ⟨by refine pk ?_; refine blk_far ?_ (by have h_ := Kd.N_away HO384.out (fun _ hk => hk.2.2.2); intro e_; exact h_ (by rw [e_]; rfl)) _; exact pk BK388.out⟩
           have n7_ : Aside0 (Below w.heap.size w (w41.setCell ⟨go12, 1, none⟩ (.slice A389_1 y390.length c389_1))) := ⟨by repeat (first | (with_reducible first | exact HB.out | apply below_alloc | apply pw_below_drewN | apply below_drew1 | refine below_set ?_ GB12.out | refine below_set ?_ GE374.out | refine below_set ?_ GE375.out | refine below_set ?_ GE388.out) | exact HB.out)⟩
           (try clear HO384)
           (try clear HO387)
           (try clear HL389_1)
           (try clear HO394)
           (try clear BK374)
           (try clear BK375)
           (try clear BK388)
           (try clear HB)
           generalize (w41.setCell ⟨go12, 1, none⟩ (.slice A389_1 y390.length c389_1)) = w44 at n0_ n1_ n2_ n3_ n4_ n5_ n6_ n7_ ⊢
           have HO384 := n0_
           have HO387 := n1_
           have HL389_1 := n2_
           have HO394 := n3_
           have BK374 := n4_
           have BK375 := n5_
           have BK388 := n6_
           have HB := n7_
           clear n0_ n1_ n2_ n3_ n4_ n5_ n6_ n7_
           obtain ⟨hcz45_0, hcz45_1, hfz45_0, hfz45_1⟩ := cz2 BK374.out
           obtain ⟨hcz46_0, hcz46_1, hcz46_2, hfz46_0, hfz46_1, hfz46_2⟩ := cz3 BK388.out
           try go_wp2_with (first | ((with_reducible refine gate_callee (f := 24) rfl ?_); refine goesL_ (some 46) rfl rfl Tryd.func24 kr rfl #[.agg #[.slice A0_0 l0_0.length c0_0, .slice A0_1 l0_1.length c0_1], .agg #[.int .i64 t381, .slice (some ⟨go12, 0, none⟩) y395.length co37, .slice Ao38 t385.length co38]] rfl (by (try simp only [List.map_toArray, List.map_cons, List.map_nil]); first | done | (rw [show y395.length = t382.length from (Kd.N_reads' HO384.out).1.symm] <;> rfl) | rfl | (simp only [List.length_drop, List.length_take]; rfl) | (go_simp; done) | (go_simp; rfl) | (go_simp; simp only [IntKind.wrap_u64]; omega) | (go_simp; simp only [IntKind.wrap_u32]; omega) | (go_simp; simp only [IntKind.wrap_u8]; omega) | (go_simp; unfold wrap64; omega)) ?_; (with_reducible refine (payload_Check.calls k _ _ l0_0 _ _ l0_1 t381 _ _ y395 _ _ t385 t396 _ ?side1 ?side2 ?side3 ?side4 ?side5 ?side6 ?side7 ?side8 ?side9 A13.out).mono ?_); (case side1 => repeat (first | exact (Kd.C_below HR0_0.out HB.out) | (with_reducible refine Kd.C_alloc ?_ _) | (with_reducible refine Kd.C_drewN ?_ _) | (with_reducible refine Kd.C_drew ?_))); (case side2 => exact HC0_0.out); (case side3 => repeat (first | exact (Kd.C_below HR0_1.out HB.out) | (with_reducible refine Kd.C_alloc ?_ _) | (with_reducible refine Kd.C_drewN ?_ _) | (with_reducible refine Kd.C_drew ?_))); (case side4 => exact HC0_1.out); (case side5 => repeat (first | exact (Kd.N_reads' HO384.out).2.2 | (with_reducible refine Kd.C_alloc ?_ _) | (with_reducible refine Kd.C_drewN ?_ _) | (with_reducible refine Kd.C_drew ?_))); (case side6 => rw [show y395.length = t382.length from (Kd.N_reads' HO384.out).1.symm]; exact (Kd.N_reads' HO384.out).2.1); (case side7 => repeat (first | exact (Kd.R_reads' HO387.out).2.2 | (with_reducible refine Kd.C_alloc ?_ _) | (with_reducible refine Kd.C_drewN ?_ _) | (with_reducible refine Kd.C_drew ?_))); (case side8 => exact (Kd.R_reads' HO387.out).2.1); (case side9 => exact LaidU.below HU.out (bl HB.out)); rintro e w47 ⟨rfl, hb⟩; refine ⟨_, rfl, ?_⟩; replace HO384 := Aside0.mk (Kd.N_below (pN HO384.out) hb); replace HO387 := Aside0.mk (Kd.R_below (pR HO387.out) hb); replace HL389_1 := Aside0.mk (Kd.V_below (pV HL389_1.out) hb); replace HO394 := Aside0.mk (Kd.V_below (pV HO394.out) hb); replace BK374 := Aside0.mk (blk_below (pk BK374.out) hb); replace BK375 := Aside0.mk (blk_below (pk BK375.out) hb); replace BK388 := Aside0.mk (blk_below (pk BK388.out) hb); replace HB := Aside0.mk (below_step (bl HB.out) hb); (try clear hb); (try clear hb2); (try clear hk); (try clear hi); obtain ⟨hcz48_0, hcz48_1, hcz48_2, hfz48_0, hfz48_1, hfz48_2⟩ := cz3 BK375.out) | ((with_reducible refine gate_callee (f := 11) rfl ?_); refine goesL_ (some 53) rfl rfl Tryd.func11 kr rfl #[.agg #[.int .i64 a1_0, .slice A1_1 l1_1.length c1_1, .slice A1_2 l1_2.length c1_2]] rfl ga ?_; (with_reducible refine (lodestarref05_Copy.calls k a1_0 _ _ l1_1 _ _ l1_2 t397 t398 t401 _ ?side1 ?side2 ?side3 ?side4 A16.out).mono ?_); (case side1 => repeat (first | exact (Kd.C_below HR1_1.out HB.out) | (with_reducible refine Kd.C_alloc ?_ _) | (with_reducible refine Kd.C_drewN ?_ _) | (with_reducible refine Kd.C_drew ?_))); (case side2 => exact HC1_1.out); (case side3 => repeat (first | exact (Kd.C_below HR1_2.out HB.out) | (with_reducible refine Kd.C_alloc ?_ _) | (with_reducible refine Kd.C_drewN ?_ _) | (with_reducible refine Kd.C_drew ?_))); (case side4 => exact HC1_2.out); rintro e w49 ⟨v399, v402, rfl, ho0, ho1, hb⟩; refine ⟨_, rfl, ?_⟩; replace HL389_1 := Aside0.mk (Kd.V_mono (Kd.V_told (Kd.V_told (Kd.V_old (pV HL389_1.out) hb) (Kd.S_base ho0)) (Kd.R_base ho1)) (fun _ h_ => h_.1)); replace HO394 := Aside0.mk (Kd.V_mono (Kd.V_told (Kd.V_told (Kd.V_old (pV HO394.out) hb) (Kd.S_base ho0)) (Kd.R_base ho1)) (fun _ h_ => h_.1)); have HO400 := Aside0.mk (Kd.N_lower (Kd.N_mono (ok' := fun k_ => some k_ ≠ (v402 : Value).ownBlock ∧ some k_ ≠ (.slice (some ⟨go12, 0, none⟩) t382.length co37 : Value).ownBlock ∧ some k_ ≠ (.slice Ao38 t385.length co38 : Value).ownBlock ∧ k_ ≠ gb374 ∧ k_ ≠ gb375 ∧ k_ ≠ gb388) (Kd.S_N (Kd.S_bound (Kd.S_apart' ho0 (Kd.R_typed ho1) (by decide)))) (fun k_ hk_ => ⟨hk_.1.2, (Kd.fresh' (Kd.N_lt (pN HO384.out)) k_ hk_.2.1), (Kd.fresh' (Kd.R_lt (pR HO387.out)) k_ hk_.2.1), (Kd.freshB (g := gb374) (o := .cells #[.slice A0_0 l0_0.length c0_0, .slice A0_1 l0_1.length c0_1] 51 (0, 0)) (pk BK374.out) k_ hk_.2.1), (Kd.freshB (g := gb375) (o := .cells #[.int .i64 a1_0, .slice A1_1 l1_1.length c1_1, .slice A1_2 l1_2.length c1_2] 25 (0, 0)) (pk BK375.out) k_ hk_.2.1), (Kd.freshB (g := gb388) (o := .cells #[.int .i64 t381, .slice (some ⟨go12, 0, none⟩) t382.length co37, .slice Ao38 t385.length co38] 25 (0, 0)) (pk BK388.out) k_ hk_.2.1)⟩)) (below_size (bl HB.out))); replace HO384 := Aside0.mk (Kd.N_mono (Kd.N_told (Kd.N_told (Kd.N_old (pN HO384.out) hb) (Kd.S_base ho0)) (Kd.R_base ho1)) (fun _ h_ => h_.1)); have HO403 := Aside0.mk (Kd.R_lower (Kd.R_new' ho1 (Kd.R_lt (pR HO387.out))) (below_size (bl HB.out))); replace HO387 := Aside0.mk (Kd.R_elder' (pR HO387.out) (Kd.R_base ho1) hb); replace BK374 := Aside0.mk (blk_below (pk BK374.out) hb); replace BK375 := Aside0.mk (blk_below (pk BK375.out) hb); replace BK388 := Aside0.mk (blk_below (pk BK388.out) hb); replace HB := Aside0.mk (below_step (bl HB.out) hb); (try clear hb); (try clear hb2); (try clear hk); (try clear hi); (try clear ho0); (try clear ho1)) | ((with_reducible refine gate_dst (N := 9) rfl ?_); refine box_event ?hg (N := 9) ?hd (cs := #[.int .i64 0, .slice none 0 0, .slice none 0 0]) (t := 25) ?hr ?_; (case hd => rfl); (case hg => rfl); (case hr => first | (go_simp; done) | (go_simp; rfl)); intro gb404 hg w50 hbox hb; replace HO384 := Aside0.mk (Kd.N_below (Kd.N_elderB (pN HO384.out) gb404 (Nat.le_of_eq hg.symm)) hb); replace HO387 := Aside0.mk (Kd.R_below (pR HO387.out) hb); replace HL389_1 := Aside0.mk (Kd.V_below (Kd.V_elderB (pV HL389_1.out) gb404 (Nat.le_of_eq hg.symm)) hb); replace HO394 := Aside0.mk (Kd.V_below (Kd.V_elderB (pV HO394.out) gb404 (Nat.le_of_eq hg.symm)) hb); replace HO400 := Aside0.mk (Kd.N_below (Kd.N_elderB (pN HO400.out) gb404 (Nat.le_of_eq hg.symm)) hb); replace HO403 := Aside0.mk (Kd.R_below (pR HO403.out) hb); have BK404 := Aside0.mk (hbox); have GW404 := Aside0.mk (gs (w := w) hg (bl HB.out)); have GE404 := Aside0.mk (gs (w := w) hg (bl HB.out)); replace HB := Aside0.mk (below_step (bl HB.out) hb); have NB374_404 := Aside0.mk ((gl (g := gb374) hg (pk BK374.out))); have NB404_374 := Aside0.mk ((gm (g := gb374) hg (pk BK374.out))); replace BK374 := Aside0.mk (blk_below (pk BK374.out) hb); have NB375_404 := Aside0.mk ((gl (g := gb375) hg (pk BK375.out))); have NB404_375 := Aside0.mk ((gm (g := gb375) hg (pk BK375.out))); replace BK375 := Aside0.mk (blk_below (pk BK375.out) hb); have NB388_404 := Aside0.mk ((gl (g := gb388) hg (pk BK388.out))); have NB404_388 := Aside0.mk ((gm (g := gb388) hg (pk BK388.out))); replace BK388 := Aside0.mk (blk_below (pk BK388.out) hb); clear hb hbox hg; have hnb51 := NB404_374.out; have hnc51 := NB374_404.out; have hnb52 := NB404_375.out; have hnc52 := NB375_404.out; have hnb53 := NB404_388.out; have hnc53 := NB388_404.out; obtain ⟨hcz54_0, hcz54_1, hcz54_2, hfz54_0, hfz54_1, hfz54_2⟩ := cz3 BK404.out; obtain ⟨Ao55, co55, eo55⟩ := Kd.N_slice HO400.out; subst eo55; obtain ⟨Ao56, co56, eo56⟩ := Kd.R_slice HO403.out; subst eo56))
           have n0_ : Aside0 (Kd.N k59 59 (((w50.setCell ⟨gb404, 0, none⟩ (.int .i64 t397)).setCell ⟨gb404, 1, none⟩ (.slice Ao55 t398.length co55)).setCell ⟨gb404, 2, none⟩ (.slice Ao56 t401.length co56)) w.heap.size (fun k_ => some k_ ≠ (.slice Ao38 t385.length co38 : Value).ownBlock ∧ some k_ ≠ (.slice Ao55 t398.length co55 : Value).ownBlock ∧ some k_ ≠ (.slice Ao56 t401.length co56 : Value).ownBlock ∧ k_ ≠ gb374 ∧ k_ ≠ gb375 ∧ k_ ≠ gb388 ∧ k_ ≠ gb404) (.slice (some ⟨go12, 0, none⟩) t382.length co37) y395) := ⟨by (with_reducible repeat (first | apply Kd.N_alloc | apply Kd.N_drewN | apply Kd.N_drew)); exact Kd.N_mono (Kd.N_far (p := ⟨gb404, 2, none⟩) (Kd.N_far (p := ⟨gb404, 1, none⟩) (Kd.N_far (p := ⟨gb404, 0, none⟩) (Kd.N_mono HO384.out (fun k_ hk => (⟨hk, hk.2⟩ : _ ∧ k_ ≠ gb404))) (fun _ hk => hk.2) (.int .i64 t397)) (fun _ hk => hk.2) (.slice Ao55 t398.length co55)) (fun _ hk => hk.2) (.slice Ao56 t401.length co56)) (fun _ hk => ⟨hk.1.1.1.1.1, ⟨hk.1.1.1.2, ⟨hk.1.1.2, ⟨hk.1.1.1.1.2.1, ⟨hk.1.1.1.1.2.2.1, ⟨hk.1.1.1.1.2.2.2, hk.1.2⟩⟩⟩⟩⟩⟩)⟩
           have n1_ : Aside0 (Kd.R k61 61 (((w50.setCell ⟨gb404, 0, none⟩ (.int .i64 t397)).setCell ⟨gb404, 1, none⟩ (.slice Ao55 t398.length co55)).setCell ⟨gb404, 2, none⟩ (.slice Ao56 t401.length co56)) w.heap.size (fun k_ => some k_ ≠ (.slice Ao56 t401.length co56 : Value).ownBlock) (.slice Ao38 t385.length co38) t385) := ⟨by (with_reducible repeat (first | apply Kd.R_alloc | apply Kd.R_drewN | apply Kd.R_drew)); exact Kd.R_mono (Kd.R_far (p := ⟨gb404, 2, none⟩) (Kd.R_far (p := ⟨gb404, 1, none⟩) (Kd.R_far (p := ⟨gb404, 0, none⟩) (Kd.R_types HO387.out BK404.out (by decide)) (fun _ hk => hk.2) (.int .i64 t397)) (fun _ hk => hk.2) (.slice Ao55 t398.length co55)) (fun _ hk => hk.2) (.slice Ao56 t401.length co56)) (fun _ hk => hk.1.2)⟩
           have n2_ : Aside0 (Kd.V (Kd.int .i64) 3 (((w50.setCell ⟨gb404, 0, none⟩ (.int .i64 t397)).setCell ⟨gb404, 1, none⟩ (.slice Ao55 t398.length co55)).setCell ⟨gb404, 2, none⟩ (.slice Ao56 t401.length co56)) w.heap.size (fun k_ => some k_ ≠ (.slice (some ⟨go12, 0, none⟩) t382.length co37 : Value).ownBlock ∧ some k_ ≠ (.slice Ao38 t385.length co38 : Value).ownBlock ∧ some k_ ≠ (.slice Ao55 t398.length co55 : Value).ownBlock ∧ some k_ ≠ (.slice Ao56 t401.length co56 : Value).ownBlock ∧ k_ ≠ gb374 ∧ k_ ≠ gb375 ∧ k_ ≠ gb388 ∧ k_ ≠ gb404) (.slice A389_1 ((rd_T59 t382 0).f1).length c389_1) ((rd_T59 t382 0).f1)) := ⟨by (with_reducible repeat (first | apply Kd.V_alloc | apply Kd.V_drewN | apply Kd.V_drew)); exact Kd.V_mono (Kd.V_far (p := ⟨gb404, 2, none⟩) (Kd.V_far (p := ⟨gb404, 1, none⟩) (Kd.V_far (p := ⟨gb404, 0, none⟩) (Kd.V_mono HL389_1.out (fun k_ hk => (⟨hk, hk.2⟩ : _ ∧ k_ ≠ gb404))) (fun _ hk => hk.2) (.int .i64 t397)) (fun _ hk => hk.2) (.slice Ao55 t398.length co55)) (fun _ hk => hk.2) (.slice Ao56 t401.length co56)) (fun _ hk => ⟨hk.1.1.1.1.1, ⟨hk.1.1.1.1.2.1, ⟨hk.1.1.1.2, ⟨hk.1.1.2, ⟨hk.1.1.1.1.2.2.1, ⟨hk.1.1.1.1.2.2.2.1, ⟨hk.1.1.1.1.2.2.2.2, hk.1.2⟩⟩⟩⟩⟩⟩⟩)⟩
           have n3_ : Aside0 (Kd.V (Kd.int .i64) 3 (((w50.setCell ⟨gb404, 0, none⟩ (.int .i64 t397)).setCell ⟨gb404, 1, none⟩ (.slice Ao55 t398.length co55)).setCell ⟨gb404, 2, none⟩ (.slice Ao56 t401.length co56)) w.heap.size (fun k_ => some k_ ≠ (.slice (some ⟨go12, 0, none⟩) t382.length co37 : Value).ownBlock ∧ some k_ ≠ (.slice Ao38 t385.length co38 : Value).ownBlock ∧ some k_ ≠ (.slice Ao55 t398.length co55 : Value).ownBlock ∧ some k_ ≠ (.slice Ao56 t401.length co56 : Value).ownBlock ∧ k_ ≠ gb374 ∧ k_ ≠ gb375 ∧ k_ ≠ gb388 ∧ k_ ≠ gb404) (.slice A389_1 y390.length c389_1) y390) := ⟨by (with_reducible repeat (first | apply Kd.V_alloc | apply Kd.V_drewN | apply Kd.V_drew)); exact Kd.V_mono (Kd.V_far (p := ⟨gb404, 2, none⟩) (Kd.V_far (p := ⟨gb404, 1, none⟩) (Kd.V_far (p := ⟨gb404, 0, none⟩) (Kd.V_mono HO394.out (fun k_ hk => (⟨hk, hk.2⟩ : _ ∧ k_ ≠ gb404))) (fun _ hk => hk.2) (.int .i64 t397)) (fun _ hk => hk.2) (.slice Ao55 t398.length co55)) (fun _ hk => hk.2) (.slice Ao56 t401.length co56)) (fun _ hk => ⟨hk.1.1.1.1.1, ⟨hk.1.1.1.1.2.1, ⟨hk.1.1.1.2, ⟨hk.1.1.2, ⟨hk.1.1.1.1.2.2.1, ⟨hk.1.1.1.1.2.2.2.1, ⟨hk.1.1.1.1.2.2.2.2, hk.1.2⟩⟩⟩⟩⟩⟩⟩)⟩
           have n4_ : Aside0 (Kd.N k59 59 (((w50.setCell ⟨gb404, 0, none⟩ (.int .i64 t397)).setCell ⟨gb404, 1, none⟩ (.slice Ao55 t398.length co55)).setCell ⟨gb404, 2, none⟩ (.slice Ao56 t401.length co56)) w.heap.size (fun k_ => some k_ ≠ (.slice (some ⟨go12, 0, none⟩) t382.length co37 : Value).ownBlock ∧ some k_ ≠ (.slice Ao38 t385.length co38 : Value).ownBlock ∧ some k_ ≠ (.slice Ao56 t401.length co56 : Value).ownBlock ∧ k_ ≠ gb374 ∧ k_ ≠ gb375 ∧ k_ ≠ gb388 ∧ k_ ≠ gb404) (.slice Ao55 t398.length co55) t398) := ⟨by (with_reducible repeat (first | apply Kd.N_alloc | apply Kd.N_drewN | apply Kd.N_drew)); exact Kd.N_mono (Kd.N_far (p := ⟨gb404, 2, none⟩) (Kd.N_far (p := ⟨gb404, 1, none⟩) (Kd.N_far (p := ⟨gb404, 0, none⟩) (Kd.N_mono HO400.out (fun k_ hk => (⟨hk, hk.2⟩ : _ ∧ k_ ≠ gb404))) (fun _ hk => hk.2) (.int .i64 t397)) (fun _ hk => hk.2) (.slice Ao55 t398.length co55)) (fun _ hk => hk.2) (.slice Ao56 t401.length co56)) (fun _ hk => ⟨hk.1.1.2.1, ⟨hk.1.1.2.2.1, ⟨hk.1.1.1, ⟨hk.1.1.2.2.2.1, ⟨hk.1.1.2.2.2.2.1, ⟨hk.1.1.2.2.2.2.2, hk.1.2⟩⟩⟩⟩⟩⟩)⟩
           have n5_ : Aside0 (Kd.R k61 61 (((w50.setCell ⟨gb404, 0, none⟩ (.int .i64 t397)).setCell ⟨gb404, 1, none⟩ (.slice Ao55 t398.length co55)).setCell ⟨gb404, 2, none⟩ (.slice Ao56 t401.length co56)) w.heap.size (fun k_ => some k_ ≠ (.slice Ao38 t385.length co38 : Value).ownBlock) (.slice Ao56 t401.length co56) t401) := ⟨by (with_reducible repeat (first | apply Kd.R_alloc | apply Kd.R_drewN | apply Kd.R_drew)); exact Kd.R_mono (Kd.R_far (p := ⟨gb404, 2, none⟩) (Kd.R_far (p := ⟨gb404, 1, none⟩) (Kd.R_far (p := ⟨gb404, 0, none⟩) (Kd.R_types HO403.out BK404.out (by decide)) (fun _ hk => hk.2) (.int .i64 t397)) (fun _ hk => hk.2) (.slice Ao55 t398.length co55)) (fun _ hk => hk.2) (.slice Ao56 t401.length co56)) (fun _ hk => hk.1.2)⟩
           have n6_ : Aside0 ((((w50.setCell ⟨gb404, 0, none⟩ (.int .i64 t397)).setCell ⟨gb404, 1, none⟩ (.slice Ao55 t398.length co55)).setCell ⟨gb404, 2, none⟩ (.slice Ao56 t401.length co56)).heap[gb374]? = some (.cells #[.slice A0_0 l0_0.length c0_0, .slice A0_1 l0_1.length c0_1] 51 (0, 0))) := ⟨by refine pk ?_; refine blk_far ?_ NB374_404.out _; refine pk ?_; refine blk_far ?_ NB374_404.out _; refine pk ?_; refine blk_far ?_ NB374_404.out _; exact pk BK374.out⟩
           have n7_ : Aside0 ((((w50.setCell ⟨gb404, 0, none⟩ (.int .i64 t397)).setCell ⟨gb404, 1, none⟩ (.slice Ao55 t398.length co55)).setCell ⟨gb404, 2, none⟩ (.slice Ao56 t401.length co56)).heap[gb375]? = some (.cells #[.int .i64 a1_0, .slice A1_1 l1_1.length c1_1, .slice A1_2 l1_2.length c1_2] 25 (0, 0))) := ⟨by refine pk ?_; refine blk_far ?_ NB375_404.out _; refine pk ?_; refine blk_far ?_ NB375_404.out _; refine pk ?_; refine blk_far ?_ NB375_404.out _; exact pk BK375.out⟩
           have n8_ : Aside0 ((((w50.setCell ⟨gb404, 0, none⟩ (.int .i64 t397)).setCell ⟨gb404, 1, none⟩ (.slice Ao55 t398.length co55)).setCell ⟨gb404, 2, none⟩ (.slice Ao56 t401.length co56)).heap[gb388]? = some (.cells #[.int .i64 t381, .slice (some ⟨go12, 0, none⟩) t382.length co37, .slice Ao38 t385.length co38] 25 (0, 0))) := ⟨by refine pk ?_; refine blk_far ?_ NB388_404.out _; refine pk ?_; refine blk_far ?_ NB388_404.out _; refine pk ?_; refine blk_far ?_ NB388_404.out _; exact pk BK388.out⟩
           have n9_ : Aside0 ((((w50.setCell ⟨gb404, 0, none⟩ (.int .i64 t397)).setCell ⟨gb404, 1, none⟩ (.slice Ao55 t398.length co55)).setCell ⟨gb404, 2, none⟩ (.slice Ao56 t401.length co56)).heap[gb404]? = some (.cells #[.int .i64 t397, .slice Ao55 t398.length co55, .slice Ao56 t401.length co56] 25 (0, 0))) := ⟨by refine pk ?_; refine blk_put (cs := #[.int .i64 t397, .slice Ao55 t398.length co55, .slice none 0 0]) ?_ 2 _ rfl; refine pk ?_; refine blk_put (cs := #[.int .i64 t397, .slice none 0 0, .slice none 0 0]) ?_ 1 _ rfl; refine pk ?_; refine blk_put (cs := #[.int .i64 0, .slice none 0 0, .slice none 0 0]) ?_ 0 _ rfl; exact pk BK404.out⟩
           have n10_ : Aside0 (Below w.heap.size w (((w50.setCell ⟨gb404, 0, none⟩ (.int .i64 t397)).setCell ⟨gb404, 1, none⟩ (.slice Ao55 t398.length co55)).setCell ⟨gb404, 2, none⟩ (.slice Ao56 t401.length co56))) := ⟨bl HB.out⟩
           (try clear HO384)
           (try clear HO387)
           (try clear HL389_1)
           (try clear HO394)
           (try clear HO400)
           (try clear HO403)
           (try clear BK374)
           (try clear BK375)
           (try clear BK388)
           (try clear BK404)
           (try clear HB)
           generalize (((w50.setCell ⟨gb404, 0, none⟩ (.int .i64 t397)).setCell ⟨gb404, 1, none⟩ (.slice Ao55 t398.length co55)).setCell ⟨gb404, 2, none⟩ (.slice Ao56 t401.length co56)) = w57 at n0_ n1_ n2_ n3_ n4_ n5_ n6_ n7_ n8_ n9_ n10_ ⊢
           have HO384 := n0_
           have HO387 := n1_
           have HL389_1 := n2_
           have HO394 := n3_
           have HO400 := n4_
           have HO403 := n5_
           have BK374 := n6_
           have BK375 := n7_
           have BK388 := n8_
           have BK404 := n9_
           have HB := n10_
           clear n0_ n1_ n2_ n3_ n4_ n5_ n6_ n7_ n8_ n9_ n10_
           replace HO384 := Aside0.mk (Kd.N_drew HO384.out)
           replace HO387 := Aside0.mk (Kd.R_drew HO387.out)
           replace HL389_1 := Aside0.mk (Kd.V_drew HL389_1.out)
           replace HO394 := Aside0.mk (Kd.V_drew HO394.out)
           replace HO400 := Aside0.mk (Kd.N_drew HO400.out)
           replace HO403 := Aside0.mk (Kd.R_drew HO403.out)
           replace BK374 := Aside0.mk (blk_drew BK374.out)
           replace BK375 := Aside0.mk (blk_drew BK375.out)
           replace BK388 := Aside0.mk (blk_drew BK388.out)
           replace BK404 := Aside0.mk (blk_drew BK404.out)
           replace HB := Aside0.mk (below_drew1 HB.out)
           have p405 : 0 ≤ (0 : Int) := (by omega)
           have q405 : 0 < (l1_2.length : Int) := of_decide_eq_true ha
           obtain ⟨ad405, e405, hx405_0, hx405_1, hx405_2, hx405_3⟩ := at_T61 HR1_2.out 0 p405 q405
           have hw405_3 := hx405_3
           (try rw [show ((0 : Int)).toNat = 0 from rfl] at hw405_3)
           (try rw [show 0 * 4 = 0 from rfl] at hw405_3)
           (try rw [Addr.add_zero'] at hw405_3)
           have hw405_2 := hx405_2
           (try rw [show ((0 : Int)).toNat = 0 from rfl] at hw405_2)
           (try rw [show 0 * 4 = 0 from rfl] at hw405_2)
           (try rw [Addr.add_zero'] at hw405_2)
           have hw405_1 := hx405_1
           (try rw [show ((0 : Int)).toNat = 0 from rfl] at hw405_1)
           (try rw [show 0 * 4 = 0 from rfl] at hw405_1)
           (try rw [Addr.add_zero'] at hw405_1)
           have hw405_0 := hx405_0
           (try rw [show ((0 : Int)).toNat = 0 from rfl] at hw405_0)
           (try rw [show 0 * 4 = 0 from rfl] at hw405_0)
           (try rw [Addr.add_zero'] at hw405_0)
           cases e405
           have qi405 : (0 < l1_2.length) = True := eq_true (by omega)
           (try rw [show ((0 : Int)).toNat = 0 from rfl] at hx405_0)
           (try rw [show 0 * 4 = 0 from rfl] at hx405_0)
           (try rw [Addr.add_zero'] at hx405_0)
           (try rw [show ((0 : Int)).toNat = 0 from rfl] at hx405_1)
           (try rw [show 0 * 4 = 0 from rfl] at hx405_1)
           (try rw [Addr.add_zero'] at hx405_1)
           (try rw [show ((0 : Int)).toNat = 0 from rfl] at hx405_2)
           (try rw [show 0 * 4 = 0 from rfl] at hx405_2)
           (try rw [Addr.add_zero'] at hx405_2)
           (try rw [show ((0 : Int)).toNat = 0 from rfl] at hx405_3)
           (try rw [show 0 * 4 = 0 from rfl] at hx405_3)
           (try rw [Addr.add_zero'] at hx405_3)
           replace hx405_0 := (HB.out.cell (World.block_lt_of_cell? w _ hx405_0)).trans hx405_0
           replace hx405_1 := (HB.out.cell (World.block_lt_of_cell? w _ hx405_1)).trans hx405_1
           replace hx405_2 := (HB.out.cell (World.block_lt_of_cell? w _ hx405_2)).trans hx405_2
           replace hx405_3 := (HB.out.cell (World.block_lt_of_cell? w _ hx405_3)).trans hx405_3
           replace p405 := eq_true p405
           replace q405 := eq_true q405
           have p19 : 0 ≤ (0 : Int) := (by omega)
           have q19 : (0 : Int) < ((t401.length : Int) : Int) := of_decide_eq_true ha
           have qi19 : (0 < t401.length) = True := eq_true (by omega)
           obtain ⟨go19, co19, eo19, gb19, gl19, cl19, HG19⟩ := Kd.R_form HO403.out (by omega)
           (first | cases eo19 | (injection eo19 with ea_ en_ ec_; (first | subst ea_ | (injection ea_ with ea_; subst ea_)); subst ec_; clear en_))
           have GB19 := Aside0.mk gb19
           have GG19 := Aside0.mk HG19
           clear gb19 gl19 HG19
           obtain ⟨ce19, hcl19, hM19, hcc19, hfr19⟩ := Kd.R_elem HO403.out z61 (0 : Int) p19 q19
           obtain rfl := k61_openM hM19
           have hx19_0 : World.cell? _ ⟨go19, (0 : Int).toNat * 4, none⟩ = some (.string ((rd_T61 t401 0).f0)) := hcc19 0 _ rfl
           have hx19_1 : World.cell? _ ⟨go19, (0 : Int).toNat * 4 + 1, none⟩ = some (.int .i64 ((rd_T61 t401 0).f1.f0)) := hcc19 1 _ rfl
           have hx19_2 : World.cell? _ ⟨go19, (0 : Int).toNat * 4 + 2, none⟩ = some (.int .i64 ((rd_T61 t401 0).f1.f1)) := hcc19 2 _ rfl
           have hx19_3 : World.cell? _ ⟨go19, (0 : Int).toNat * 4 + 3, none⟩ = some (.string ((rd_T61 t401 0).f1.f2)) := hcc19 3 _ rfl
           have hf19_0 : World.frozen? _ ⟨go19, (0 : Int).toNat * 4, none⟩ = false := hfr19 0
           have hf19_1 : World.frozen? _ ⟨go19, (0 : Int).toNat * 4 + 1, none⟩ = false := hfr19 1
           have hf19_2 : World.frozen? _ ⟨go19, (0 : Int).toNat * 4 + 2, none⟩ = false := hfr19 2
           have hf19_3 : World.frozen? _ ⟨go19, (0 : Int).toNat * 4 + 3, none⟩ = false := hfr19 3
           clear hcl19 hcc19 hfr19 hM19
           (try rw [show ((0 : Int)).toNat = 0 from rfl] at hx19_0)
           (try simp only [Nat.reduceMul, Nat.zero_mul, Nat.zero_add, Nat.reduceAdd] at hx19_0)
           (try rw [show ((0 : Int)).toNat = 0 from rfl] at hf19_0)
           (try simp only [Nat.reduceMul, Nat.zero_mul, Nat.zero_add, Nat.reduceAdd] at hf19_0)
           (try rw [show ((0 : Int)).toNat = 0 from rfl] at hx19_1)
           (try simp only [Nat.reduceMul, Nat.zero_mul, Nat.zero_add, Nat.reduceAdd] at hx19_1)
           (try rw [show ((0 : Int)).toNat = 0 from rfl] at hf19_1)
           (try simp only [Nat.reduceMul, Nat.zero_mul, Nat.zero_add, Nat.reduceAdd] at hf19_1)
           (try rw [show ((0 : Int)).toNat = 0 from rfl] at hx19_2)
           (try simp only [Nat.reduceMul, Nat.zero_mul, Nat.zero_add, Nat.reduceAdd] at hx19_2)
           (try rw [show ((0 : Int)).toNat = 0 from rfl] at hf19_2)
           (try simp only [Nat.reduceMul, Nat.zero_mul, Nat.zero_add, Nat.reduceAdd] at hf19_2)
           (try rw [show ((0 : Int)).toNat = 0 from rfl] at hx19_3)
           (try simp only [Nat.reduceMul, Nat.zero_mul, Nat.zero_add, Nat.reduceAdd] at hx19_3)
           (try rw [show ((0 : Int)).toNat = 0 from rfl] at hf19_3)
           (try simp only [Nat.reduceMul, Nat.zero_mul, Nat.zero_add, Nat.reduceAdd] at hf19_3)
           replace p19 := eq_true p19
           replace q19 := eq_true q19
           obtain ⟨ce59, hcl59, hM59, hcc59, hfr59⟩ := Kd.R_elem HO403.out z61 (0 : Int) (by omega) (by have h_ : (0 : Int) < ((t401.length : Int) : Int) := of_decide_eq_true ha; first | exact h_ | (have e_ := (Kd.R_reads' HO403.out).1; omega) | simpa using h_)
           obtain rfl := k61_openM hM59
           have HP59 := (Kd.R_seg HO403.out (0 : Int) (by omega) (by have h_ : (0 : Int) < ((t401.length : Int) : Int) := of_decide_eq_true ha; first | exact h_ | (have e_ := (Kd.R_reads' HO403.out).1; omega) | simpa using h_) (seg := [.int .i64 (wrap64 ((Int.tmod ((rd_T61 l1_2 0).f1.f0) 3) + 1)), .int .i64 0, .string (⟨#[]⟩ : ByteArray)]) (j := 1) hcl59 hcc59 (show 4 ≤ 4 from by decide) (x' := (⟨(rd_T61 t401 0).f0, (⟨wrap64 ((Int.tmod ((rd_T61 l1_2 0).f1.f0) 3) + 1), 0, (⟨#[]⟩ : ByteArray)⟩ : S33)⟩ : S61)) (k61_mkM _ _ _ (⟨(rd_T61 t401 0).f0, (⟨wrap64 ((Int.tmod ((rd_T61 l1_2 0).f1.f0) 3) + 1), 0, (⟨#[]⟩ : ByteArray)⟩ : S33)⟩ : S61) ) (fun _ hk => hk)).1
           rw [← Ny406.out] at HP59
           have HQ59 := Aside0.mk HP59
           clear hcl59 hcc59 hfr59 hM59 HP59
           refine start_ (n := 14) (S := fun w' => w'.cell? ⟨gb404, 0, none⟩ = some (.int .i64 t397) ∧ w'.cell? ⟨gb404, 1, none⟩ = some (.slice Ao55 t398.length co55) ∧ w'.cell? ⟨gb404, 2, none⟩ = some (.slice (some ⟨go19, 0, none⟩) t401.length co56) ∧ w'.cell? ⟨gb375, 0, none⟩ = some (.int .i64 a1_0) ∧ w'.cell? ⟨gb375, 1, none⟩ = some (.slice A1_1 l1_1.length c1_1) ∧ w'.cell? ⟨gb375, 2, none⟩ = some (.slice (some ad405) l1_2.length c1_2) ∧ w'.cell? ad405 = some (.string ((rd_T61 l1_2 0).f0)) ∧ w'.cell? ⟨ad405.block, ad405.off + 1, none⟩ = some (.int .i64 ((rd_T61 l1_2 0).f1.f0)) ∧ w'.cell? ⟨ad405.block, ad405.off + 2, none⟩ = some (.int .i64 ((rd_T61 l1_2 0).f1.f1)) ∧ w'.cell? ⟨ad405.block, ad405.off + 3, none⟩ = some (.string ((rd_T61 l1_2 0).f1.f2))) (ds := [13]) #[false, false, false, false, false, false, false, false, false, false, false, false, false, false] kr rfl rfl ⟨(blk_cell BK404.out 0).trans rfl, (blk_cell BK404.out 1).trans rfl, (blk_cell BK404.out 2).trans rfl, (blk_cell BK375.out 0).trans rfl, (blk_cell BK375.out 1).trans rfl, (blk_cell BK375.out 2).trans rfl, ((HB.out.cell (World.block_lt_of_cell? w _ hw405_0)).trans hw405_0), ((HB.out.cell (World.block_lt_of_cell? w _ hw405_1)).trans hw405_1), ((HB.out.cell (World.block_lt_of_cell? w _ hw405_2)).trans hw405_2), ((HB.out.cell (World.block_lt_of_cell? w _ hw405_3)).trans hw405_3)⟩ (fun hHeld => ?_); refine with_tabW lodestarlaw05_PayloadFits.tab13 lodestarlaw05_PayloadFits.bits13 (fun HT_ HW_ => ?_)
           generalize w57.drew = w58 at HO384 HO387 HL389_1 HO394 HO400 HO403 BK374 BK375 BK388 BK404 HB GG19 HQ59 hf19_0 hf19_1 hf19_2 hf19_3 hx19_0 hx19_1 hx19_2 hx19_3 hx405_0 hx405_1 hx405_2 hx405_3 hHeld ⊢
           refine pure_ (i := 0) (N := some 54) (v := ?_) (a' := ?_) #[true, false, false, false, false, false, false, false, false, false, false, false, false, false] rfl rfl (any_of HT_.out kr) (fun _ _ _ h => h) (Or.inl ⟨by rfl, ?_⟩) ?_ ?_
           rotate_left
           ·exact wl
           rotate_left
           ·exact ap
           refine pure_ (i := 2) (N := some 56) (v := ?_) (a' := ?_) #[true, false, true, false, false, false, false, false, false, false, false, false, false, false] rfl rfl (any_of HT_.out kr) (fun _ _ _ h => h) (Or.inl ⟨by rfl, ?_⟩) ?_ ?_
           rotate_left
           ·exact wl
           rotate_left
           ·exact ap
           refine take_ (i := 1) (N := some 55) (v := ?_) (a' := ?_) #[true, true, true, false, false, false, false, false, false, false, false, false, false, false] rfl rfl (take_ofW HT_.out HW_.out kr) (fun _ _ _ h => h) (Or.inl ⟨by rfl, ?_⟩) hHeld ?_ ?_
           rotate_left
           ·rintro w' ⟨s0, s1, s2, s3, s4, s5, s6, s7, s8, s9⟩
            go_simp
            exact rl
           rotate_left
           ·exact ap
           refine take_ (i := 3) (N := some 57) (v := ?_) (a' := ?_) #[true, true, true, true, false, false, false, false, false, false, false, false, false, false] rfl rfl (take_ofW HT_.out HW_.out kr) (fun _ _ _ h => h) (Or.inl ⟨by rfl, ?_⟩) hHeld ?_ ?_
           rotate_left
           ·rintro w' ⟨s0, s1, s2, s3, s4, s5, s6, s7, s8, s9⟩
            go_simp
            exact rl
           rotate_left
           ·exact ap
           refine pure_ (i := 4) (N := some 58) (v := ?_) (a' := ?_) #[true, true, true, true, true, false, false, false, false, false, false, false, false, false] rfl rfl (any_of HT_.out kr) (fun _ _ _ h => h) (Or.inl ⟨by rfl, ?_⟩) ?_ ?_
           rotate_left
           ·exact wl
           rotate_left
           ·exact ap
           refine pure_ (i := 5) (N := some 59) (v := ?_) (a' := ?_) #[true, true, true, true, true, true, false, false, false, false, false, false, false, false] rfl rfl (any_of HT_.out kr) (fun _ _ _ h => h) (Or.inl ⟨by rfl, ?_⟩) ?_ ?_
           rotate_left
           ·exact wl
           rotate_left
           ·exact ap
           refine pure_ (i := 6) (N := some 60) (v := ?_) (a' := ?_) #[true, true, true, true, true, true, true, false, false, false, false, false, false, false] rfl rfl (any_of HT_.out kr) (fun _ _ _ h => h) (Or.inl ⟨by rfl, ?_⟩) ?_ ?_
           rotate_left
           ·exact wl
           rotate_left
           ·exact ap
           refine take_ (i := 7) (N := some 61) (v := ?_) (a' := ?_) #[true, true, true, true, true, true, true, true, false, false, false, false, false, false] rfl rfl (take_ofW HT_.out HW_.out kr) (fun _ _ _ h => h) (Or.inl ⟨by rfl, ?_⟩) hHeld ?_ ?_
           rotate_left
           ·rintro w' ⟨s0, s1, s2, s3, s4, s5, s6, s7, s8, s9⟩
            go_simp
            exact rl
           rotate_left
           ·exact ap
           refine pure_ (i := 8) (N := some 62) (v := ?_) (a' := ?_) #[true, true, true, true, true, true, true, true, true, false, false, false, false, false] rfl rfl (any_of HT_.out kr) (fun _ _ _ h => h) (Or.inl ⟨by rfl, ?_⟩) ?_ ?_
           rotate_left
           ·exact wl
           rotate_left
           ·exact ap
           refine pure_ (i := 9) (N := some 63) (v := ?_) (a' := ?_) #[true, true, true, true, true, true, true, true, true, true, false, false, false, false] rfl rfl (any_of HT_.out kr) (fun _ _ _ h => h) (Or.inl ⟨by rfl, ?_⟩) ?_ ?_
           rotate_left
           ·exact wl
           rotate_left
           ·exact ap
           refine pure_ (i := 10) (N := some 64) (v := ?_) (a' := ?_) #[true, true, true, true, true, true, true, true, true, true, true, false, false, false] rfl rfl (any_of HT_.out kr) (fun _ _ _ h => h) (Or.inl ⟨by rfl, ?_⟩) ?_ ?_
           rotate_left
           ·exact wl
           rotate_left
           ·exact ap
           refine pure_ (i := 11) (N := some 65) (v := ?_) (a' := ?_) #[true, true, true, true, true, true, true, true, true, true, true, true, false, false] rfl rfl (any_of HT_.out kr) (fun _ _ _ h => h) (Or.inl ⟨by rfl, ?_⟩) ?_ ?_
           rotate_left
           ·exact wl
           rotate_left
           ·exact ap
           refine pure_ (i := 12) (N := some 66) (v := ?_) (a' := ?_) #[true, true, true, true, true, true, true, true, true, true, true, true, true, false] rfl rfl (any_of HT_.out kr) (fun _ _ _ h => h) (Or.inl ⟨by rfl, ?_⟩) ?_ ?_
           rotate_left
           ·exact wl
           rotate_left
           ·exact ap
           refine last_ (i := 13) (N := none) #[true, true, true, true, true, true, true, true, true, true, true, true, true, true] rfl rfl (one_of HT_.out kr) (by decide) (fun K hK => ?_)
           refine skip_ (w1 := ?_) (by rfl) rfl ?_ ?_
           rotate_left
           ·go_simp
            rfl
           refine hK.out _ _ ?_
           clear hK K
           refine done_ (done_of HT_.out kr) ?_
           have n0_ : Aside0 (Kd.N k59 59 (((w58.setCell ⟨go19, 1, none⟩ (.int .i64 (wrap64 ((Int.tmod ((rd_T61 l1_2 0).f1.f0) 3) + 1)))).setCell ⟨go19, 2, none⟩ (.int .i64 0)).setCell ⟨go19, 3, none⟩ (.string (⟨#[]⟩ : ByteArray))) w.heap.size (fun k_ => some k_ ≠ (.slice Ao38 t385.length co38 : Value).ownBlock ∧ some k_ ≠ (.slice Ao55 t398.length co55 : Value).ownBlock ∧ some k_ ≠ (.slice (some ⟨go19, 0, none⟩) t401.length co56 : Value).ownBlock ∧ k_ ≠ gb374 ∧ k_ ≠ gb375 ∧ k_ ≠ gb388 ∧ k_ ≠ gb404) (.slice (some ⟨go12, 0, none⟩) t382.length co37) y395) := ⟨by (with_reducible repeat (first | apply Kd.N_alloc | apply Kd.N_drewN | apply Kd.N_drew)); exact Kd.N_mono (Kd.N_far (p := ⟨go19, 3, none⟩) (Kd.N_far (p := ⟨go19, 2, none⟩) (Kd.N_far (p := ⟨go19, 1, none⟩) (Kd.N_mono HO384.out (fun k_ hk => (⟨hk, fun e_ => hk.2.2.1 (by rw [e_]; rfl)⟩ : _ ∧ k_ ≠ go19))) (fun _ hk => hk.2) (.int .i64 (wrap64 ((Int.tmod ((rd_T61 l1_2 0).f1.f0) 3) + 1)))) (fun _ hk => hk.2) (.int .i64 0)) (fun _ hk => hk.2) (.string (⟨#[]⟩ : ByteArray))) (fun _ hk => ⟨hk.1.1, ⟨hk.1.2.1, ⟨hk.1.2.2.1, ⟨hk.1.2.2.2.1, ⟨hk.1.2.2.2.2.1, ⟨hk.1.2.2.2.2.2.1, hk.1.2.2.2.2.2.2⟩⟩⟩⟩⟩⟩)⟩
           have n1_ : Aside0 (Kd.R k61 61 (((w58.setCell ⟨go19, 1, none⟩ (.int .i64 (wrap64 ((Int.tmod ((rd_T61 l1_2 0).f1.f0) 3) + 1)))).setCell ⟨go19, 2, none⟩ (.int .i64 0)).setCell ⟨go19, 3, none⟩ (.string (⟨#[]⟩ : ByteArray))) w.heap.size (fun k_ => some k_ ≠ (.slice (some ⟨go19, 0, none⟩) t401.length co56 : Value).ownBlock) (.slice Ao38 t385.length co38) t385) := ⟨by (with_reducible repeat (first | apply Kd.R_alloc | apply Kd.R_drewN | apply Kd.R_drew)); exact Kd.R_mono (Kd.R_far (p := ⟨go19, 3, none⟩) (Kd.R_far (p := ⟨go19, 2, none⟩) (Kd.R_far (p := ⟨go19, 1, none⟩) (Kd.R_mono HO387.out (fun k_ hk => (⟨hk, fun e_ => hk (by rw [e_]; rfl)⟩ : _ ∧ k_ ≠ go19))) (fun _ hk => hk.2) (.int .i64 (wrap64 ((Int.tmod ((rd_T61 l1_2 0).f1.f0) 3) + 1)))) (fun _ hk => hk.2) (.int .i64 0)) (fun _ hk => hk.2) (.string (⟨#[]⟩ : ByteArray))) (fun _ hk => hk.1)⟩
           have n2_ : Aside0 (Kd.V (Kd.int .i64) 3 (((w58.setCell ⟨go19, 1, none⟩ (.int .i64 (wrap64 ((Int.tmod ((rd_T61 l1_2 0).f1.f0) 3) + 1)))).setCell ⟨go19, 2, none⟩ (.int .i64 0)).setCell ⟨go19, 3, none⟩ (.string (⟨#[]⟩ : ByteArray))) w.heap.size (fun k_ => some k_ ≠ (.slice (some ⟨go12, 0, none⟩) t382.length co37 : Value).ownBlock ∧ some k_ ≠ (.slice Ao38 t385.length co38 : Value).ownBlock ∧ some k_ ≠ (.slice Ao55 t398.length co55 : Value).ownBlock ∧ some k_ ≠ (.slice (some ⟨go19, 0, none⟩) t401.length co56 : Value).ownBlock ∧ k_ ≠ gb374 ∧ k_ ≠ gb375 ∧ k_ ≠ gb388 ∧ k_ ≠ gb404) (.slice A389_1 ((rd_T59 t382 0).f1).length c389_1) ((rd_T59 t382 0).f1)) := ⟨by (with_reducible repeat (first | apply Kd.V_alloc | apply Kd.V_drewN | apply Kd.V_drew)); exact Kd.V_mono (Kd.V_far (p := ⟨go19, 3, none⟩) (Kd.V_far (p := ⟨go19, 2, none⟩) (Kd.V_far (p := ⟨go19, 1, none⟩) (Kd.V_mono HL389_1.out (fun k_ hk => (⟨hk, fun e_ => hk.2.2.2.1 (by rw [e_]; rfl)⟩ : _ ∧ k_ ≠ go19))) (fun _ hk => hk.2) (.int .i64 (wrap64 ((Int.tmod ((rd_T61 l1_2 0).f1.f0) 3) + 1)))) (fun _ hk => hk.2) (.int .i64 0)) (fun _ hk => hk.2) (.string (⟨#[]⟩ : ByteArray))) (fun _ hk => ⟨hk.1.1, ⟨hk.1.2.1, ⟨hk.1.2.2.1, ⟨hk.1.2.2.2.1, ⟨hk.1.2.2.2.2.1, ⟨hk.1.2.2.2.2.2.1, ⟨hk.1.2.2.2.2.2.2.1, hk.1.2.2.2.2.2.2.2⟩⟩⟩⟩⟩⟩⟩)⟩
           have n3_ : Aside0 (Kd.V (Kd.int .i64) 3 (((w58.setCell ⟨go19, 1, none⟩ (.int .i64 (wrap64 ((Int.tmod ((rd_T61 l1_2 0).f1.f0) 3) + 1)))).setCell ⟨go19, 2, none⟩ (.int .i64 0)).setCell ⟨go19, 3, none⟩ (.string (⟨#[]⟩ : ByteArray))) w.heap.size (fun k_ => some k_ ≠ (.slice (some ⟨go12, 0, none⟩) t382.length co37 : Value).ownBlock ∧ some k_ ≠ (.slice Ao38 t385.length co38 : Value).ownBlock ∧ some k_ ≠ (.slice Ao55 t398.length co55 : Value).ownBlock ∧ some k_ ≠ (.slice (some ⟨go19, 0, none⟩) t401.length co56 : Value).ownBlock ∧ k_ ≠ gb374 ∧ k_ ≠ gb375 ∧ k_ ≠ gb388 ∧ k_ ≠ gb404) (.slice A389_1 y390.length c389_1) y390) := ⟨by (with_reducible repeat (first | apply Kd.V_alloc | apply Kd.V_drewN | apply Kd.V_drew)); exact Kd.V_mono (Kd.V_far (p := ⟨go19, 3, none⟩) (Kd.V_far (p := ⟨go19, 2, none⟩) (Kd.V_far (p := ⟨go19, 1, none⟩) (Kd.V_mono HO394.out (fun k_ hk => (⟨hk, fun e_ => hk.2.2.2.1 (by rw [e_]; rfl)⟩ : _ ∧ k_ ≠ go19))) (fun _ hk => hk.2) (.int .i64 (wrap64 ((Int.tmod ((rd_T61 l1_2 0).f1.f0) 3) + 1)))) (fun _ hk => hk.2) (.int .i64 0)) (fun _ hk => hk.2) (.string (⟨#[]⟩ : ByteArray))) (fun _ hk => ⟨hk.1.1, ⟨hk.1.2.1, ⟨hk.1.2.2.1, ⟨hk.1.2.2.2.1, ⟨hk.1.2.2.2.2.1, ⟨hk.1.2.2.2.2.2.1, ⟨hk.1.2.2.2.2.2.2.1, hk.1.2.2.2.2.2.2.2⟩⟩⟩⟩⟩⟩⟩)⟩
           have n4_ : Aside0 (Kd.N k59 59 (((w58.setCell ⟨go19, 1, none⟩ (.int .i64 (wrap64 ((Int.tmod ((rd_T61 l1_2 0).f1.f0) 3) + 1)))).setCell ⟨go19, 2, none⟩ (.int .i64 0)).setCell ⟨go19, 3, none⟩ (.string (⟨#[]⟩ : ByteArray))) w.heap.size (fun k_ => some k_ ≠ (.slice (some ⟨go12, 0, none⟩) t382.length co37 : Value).ownBlock ∧ some k_ ≠ (.slice Ao38 t385.length co38 : Value).ownBlock ∧ some k_ ≠ (.slice (some ⟨go19, 0, none⟩) t401.length co56 : Value).ownBlock ∧ k_ ≠ gb374 ∧ k_ ≠ gb375 ∧ k_ ≠ gb388 ∧ k_ ≠ gb404) (.slice Ao55 t398.length co55) t398) := ⟨by (with_reducible repeat (first | apply Kd.N_alloc | apply Kd.N_drewN | apply Kd.N_drew)); exact Kd.N_mono (Kd.N_far (p := ⟨go19, 3, none⟩) (Kd.N_far (p := ⟨go19, 2, none⟩) (Kd.N_far (p := ⟨go19, 1, none⟩) (Kd.N_mono HO400.out (fun k_ hk => (⟨hk, fun e_ => hk.2.2.1 (by rw [e_]; rfl)⟩ : _ ∧ k_ ≠ go19))) (fun _ hk => hk.2) (.int .i64 (wrap64 ((Int.tmod ((rd_T61 l1_2 0).f1.f0) 3) + 1)))) (fun _ hk => hk.2) (.int .i64 0)) (fun _ hk => hk.2) (.string (⟨#[]⟩ : ByteArray))) (fun _ hk => ⟨hk.1.1, ⟨hk.1.2.1, ⟨hk.1.2.2.1, ⟨hk.1.2.2.2.1, ⟨hk.1.2.2.2.2.1, ⟨hk.1.2.2.2.2.2.1, hk.1.2.2.2.2.2.2⟩⟩⟩⟩⟩⟩)⟩
           have n5_ : Aside0 (Kd.R k61 61 (((w58.setCell ⟨go19, 1, none⟩ (.int .i64 (wrap64 ((Int.tmod ((rd_T61 l1_2 0).f1.f0) 3) + 1)))).setCell ⟨go19, 2, none⟩ (.int .i64 0)).setCell ⟨go19, 3, none⟩ (.string (⟨#[]⟩ : ByteArray))) w.heap.size (fun k_ => some k_ ≠ (.slice Ao38 t385.length co38 : Value).ownBlock) (.slice (some ⟨go19, 0, none⟩) t401.length co56) y406) := ⟨pR HQ59.out⟩
           have n6_ : Aside0 ((((w58.setCell ⟨go19, 1, none⟩ (.int .i64 (wrap64 ((Int.tmod ((rd_T61 l1_2 0).f1.f0) 3) + 1)))).setCell ⟨go19, 2, none⟩ (.int .i64 0)).setCell ⟨go19, 3, none⟩ (.string (⟨#[]⟩ : ByteArray))).heap[gb374]? = some (.cells #[.slice A0_0 l0_0.length c0_0, .slice A0_1 l0_1.length c0_1] 51 (0, 0))) := ⟨by refine pk ?_; refine blk_far ?_ (by have h_ := Kd.R_ne HO403.out BK374.out (by decide); intro e_; exact h_ (by rw [e_]; rfl)) _; refine pk ?_; refine blk_far ?_ (by have h_ := Kd.R_ne HO403.out BK374.out (by decide); intro e_; exact h_ (by rw [e_]; rfl)) _; refine pk ?_; refine blk_far ?_ (by have h_ := Kd.R_ne HO403.out BK374.out (by decide); intro e_; exact h_ (by rw [e_]; rfl)) _; exact pk BK374.out⟩
           have n7_ : Aside0 ((((w58.setCell ⟨go19, 1, none⟩ (.int .i64 (wrap64 ((Int.tmod ((rd_T61 l1_2 0).f1.f0) 3) + 1)))).setCell ⟨go19, 2, none⟩ (.int .i64 0)).setCell ⟨go19, 3, none⟩ (.string (⟨#[]⟩ : ByteArray))).heap[gb375]? = some (.cells #[.int .i64 a1_0, .slice A1_1 l1_1.length c1_1, .slice (some ad405) l1_2.length c1_2] 25 (0, 0))) := ⟨by refine pk ?_; refine blk_far ?_ (by have h_ := Kd.R_ne HO403.out BK375.out (by decide); intro e_; exact h_ (by rw [e_]; rfl)) _; refine pk ?_; refine blk_far ?_ (by have h_ := Kd.R_ne HO403.out BK375.out (by decide); intro e_; exact h_ (by rw [e_]; rfl)) _; refine pk ?_; refine blk_far ?_ (by have h_ := Kd.R_ne HO403.out BK375.out (by decide); intro e_; exact h_ (by rw [e_]; rfl)) _; exact pk BK375.out⟩
           have n8_ : Aside0 ((((w58.setCell ⟨go19, 1, none⟩ (.int .i64 (wrap64 ((Int.tmod ((rd_T61 l1_2 0).f1.f0) 3) + 1)))).setCell ⟨go19, 2, none⟩ (.int .i64 0)).setCell ⟨go19, 3, none⟩ (.string (⟨#[]⟩ : ByteArray))).heap[gb388]? = some (.cells #[.int .i64 t381, .slice (some ⟨go12, 0, none⟩) t382.length co37, .slice Ao38 t385.length co38] 25 (0, 0))) := ⟨by refine pk ?_; refine blk_far ?_ (by have h_ := Kd.R_ne HO403.out BK388.out (by decide); intro e_; exact h_ (by rw [e_]; rfl)) _; refine pk ?_; refine blk_far ?_ (by have h_ := Kd.R_ne HO403.out BK388.out (by decide); intro e_; exact h_ (by rw [e_]; rfl)) _; refine pk ?_; refine blk_far ?_ (by have h_ := Kd.R_ne HO403.out BK388.out (by decide); intro e_; exact h_ (by rw [e_]; rfl)) _; exact pk BK388.out⟩
           have n9_ : Aside0 ((((w58.setCell ⟨go19, 1, none⟩ (.int .i64 (wrap64 ((Int.tmod ((rd_T61 l1_2 0).f1.f0) 3) + 1)))).setCell ⟨go19, 2, none⟩ (.int .i64 0)).setCell ⟨go19, 3, none⟩ (.string (⟨#[]⟩ : ByteArray))).heap[gb404]? = some (.cells #[.int .i64 t397, .slice Ao55 t398.length co55, .slice (some ⟨go19, 0, none⟩) t401.length co56] 25 (0, 0))) := ⟨by refine pk ?_; refine blk_far ?_ (by have h_ := Kd.R_ne HO403.out BK404.out (by decide); intro e_; exact h_ (by rw [e_]; rfl)) _; refine pk ?_; refine blk_far ?_ (by have h_ := Kd.R_ne HO403.out BK404.out (by decide); intro e_; exact h_ (by rw [e_]; rfl)) _; refine pk ?_; refine blk_far ?_ (by have h_ := Kd.R_ne HO403.out BK404.out (by decide); intro e_; exact h_ (by rw [e_]; rfl)) _; exact pk BK404.out⟩
           have n10_ : Aside0 (Below w.heap.size w (((w58.setCell ⟨go19, 1, none⟩ (.int .i64 (wrap64 ((Int.tmod ((rd_T61 l1_2 0).f1.f0) 3) + 1)))).setCell ⟨go19, 2, none⟩ (.int .i64 0)).setCell ⟨go19, 3, none⟩ (.string (⟨#[]⟩ : ByteArray)))) := ⟨by repeat (first | (with_reducible first | exact HB.out | apply below_alloc | apply pw_below_drewN | apply below_drew1 | refine below_set ?_ GB19.out | refine below_set ?_ GB19.out | refine below_set ?_ GB19.out | refine below_set ?_ GE374.out | refine below_set ?_ GE375.out | refine below_set ?_ GE388.out | refine below_set ?_ GE404.out) | exact HB.out)⟩
           (try clear HO384)
           (try clear HO387)
           (try clear HL389_1)
           (try clear HO394)
           (try clear HO400)
           (try clear HO403)
           (try clear BK374)
           (try clear BK375)
           (try clear BK388)
           (try clear BK404)
           (try clear HB)
           generalize (((w58.setCell ⟨go19, 1, none⟩ (.int .i64 (wrap64 ((Int.tmod ((rd_T61 l1_2 0).f1.f0) 3) + 1)))).setCell ⟨go19, 2, none⟩ (.int .i64 0)).setCell ⟨go19, 3, none⟩ (.string (⟨#[]⟩ : ByteArray))) = w60 at n0_ n1_ n2_ n3_ n4_ n5_ n6_ n7_ n8_ n9_ n10_ ⊢
           have HO384 := n0_
           have HO387 := n1_
           have HL389_1 := n2_
           have HO394 := n3_
           have HO400 := n4_
           have HO403 := n5_
           have BK374 := n6_
           have BK375 := n7_
           have BK388 := n8_
           have BK404 := n9_
           have HB := n10_
           clear n0_ n1_ n2_ n3_ n4_ n5_ n6_ n7_ n8_ n9_ n10_
           obtain ⟨hcz61_0, hcz61_1, hfz61_0, hfz61_1⟩ := cz2 BK374.out
           obtain ⟨hcz62_0, hcz62_1, hcz62_2, hfz62_0, hfz62_1, hfz62_2⟩ := cz3 BK404.out
           try go_wp2_with (first | ((with_reducible refine gate_callee (f := 24) rfl ?_); refine goesL_ (some 69) rfl rfl Tryd.func24 kr rfl #[.agg #[.slice A0_0 l0_0.length c0_0, .slice A0_1 l0_1.length c0_1], .agg #[.int .i64 t397, .slice Ao55 t398.length co55, .slice (some ⟨go19, 0, none⟩) y406.length co56]] rfl (by (try simp only [List.map_toArray, List.map_cons, List.map_nil]); first | done | (rw [show y406.length = t401.length from (Kd.R_reads' HO403.out).1.symm] <;> rfl) | rfl | (simp only [List.length_drop, List.length_take]; rfl) | (go_simp; done) | (go_simp; rfl) | (go_simp; simp only [IntKind.wrap_u64]; omega) | (go_simp; simp only [IntKind.wrap_u32]; omega) | (go_simp; simp only [IntKind.wrap_u8]; omega) | (go_simp; unfold wrap64; omega)) ?_; (with_reducible refine (payload_Check.calls k _ _ l0_0 _ _ l0_1 t397 _ _ t398 _ _ y406 t407 _ ?side1 ?side2 ?side3 ?side4 ?side5 ?side6 ?side7 ?side8 ?side9 A20.out).mono ?_); (case side1 => repeat (first | exact (Kd.C_below HR0_0.out HB.out) | (with_reducible refine Kd.C_alloc ?_ _) | (with_reducible refine Kd.C_drewN ?_ _) | (with_reducible refine Kd.C_drew ?_))); (case side2 => exact HC0_0.out); (case side3 => repeat (first | exact (Kd.C_below HR0_1.out HB.out) | (with_reducible refine Kd.C_alloc ?_ _) | (with_reducible refine Kd.C_drewN ?_ _) | (with_reducible refine Kd.C_drew ?_))); (case side4 => exact HC0_1.out); (case side5 => repeat (first | exact (Kd.N_reads' HO400.out).2.2 | (with_reducible refine Kd.C_alloc ?_ _) | (with_reducible refine Kd.C_drewN ?_ _) | (with_reducible refine Kd.C_drew ?_))); (case side6 => exact (Kd.N_reads' HO400.out).2.1); (case side7 => repeat (first | exact (Kd.R_reads' HO403.out).2.2 | (with_reducible refine Kd.C_alloc ?_ _) | (with_reducible refine Kd.C_drewN ?_ _) | (with_reducible refine Kd.C_drew ?_))); (case side8 => rw [show y406.length = t401.length from (Kd.R_reads' HO403.out).1.symm]; exact (Kd.R_reads' HO403.out).2.1); (case side9 => exact LaidU.below HU.out (bl HB.out)); rintro e w63 ⟨rfl, hb⟩; refine ⟨_, rfl, ?_⟩; replace HO384 := Aside0.mk (Kd.N_below (pN HO384.out) hb); replace HO387 := Aside0.mk (Kd.R_below (pR HO387.out) hb); replace HL389_1 := Aside0.mk (Kd.V_below (pV HL389_1.out) hb); replace HO394 := Aside0.mk (Kd.V_below (pV HO394.out) hb); replace HO400 := Aside0.mk (Kd.N_below (pN HO400.out) hb); replace HO403 := Aside0.mk (Kd.R_below (pR HO403.out) hb); replace BK374 := Aside0.mk (blk_below (pk BK374.out) hb); replace BK375 := Aside0.mk (blk_below (pk BK375.out) hb); replace BK388 := Aside0.mk (blk_below (pk BK388.out) hb); replace BK404 := Aside0.mk (blk_below (pk BK404.out) hb); replace HB := Aside0.mk (below_step (bl HB.out) hb); (try clear hb); (try clear hb2); (try clear hk); (try clear hi)) | ((with_reducible refine gate_callee (f := 12) rfl ?_); refine goesL_ (some 71) rfl rfl Tryd.func12 kr rfl #[] rfl ga ?_; (with_reducible refine (lodestarlaw05_awake.calls k  t408 _ ?side1 A22.out).mono ?_); (case side1 => exact LaidU.below HU.out (bl HB.out)); rintro e w64 ⟨rfl, hb⟩; refine ⟨_, rfl, ?_⟩; replace HO384 := Aside0.mk (Kd.N_below (pN HO384.out) hb); replace HO387 := Aside0.mk (Kd.R_below (pR HO387.out) hb); replace HL389_1 := Aside0.mk (Kd.V_below (pV HL389_1.out) hb); replace HO394 := Aside0.mk (Kd.V_below (pV HO394.out) hb); replace HO400 := Aside0.mk (Kd.N_below (pN HO400.out) hb); replace HO403 := Aside0.mk (Kd.R_below (pR HO403.out) hb); replace BK374 := Aside0.mk (blk_below (pk BK374.out) hb); replace BK375 := Aside0.mk (blk_below (pk BK375.out) hb); replace BK388 := Aside0.mk (blk_below (pk BK388.out) hb); replace BK404 := Aside0.mk (blk_below (pk BK404.out) hb); replace HB := Aside0.mk (below_step (bl HB.out) hb); (try clear hb); (try clear hb2); (try clear hk); (try clear hi)))
           go_ret
           exact ⟨by first | rfl | (simp [errW_none, errW_some] <;> rfl) | (simp only [← hji9]; first | rfl | (simp [errW_none, errW_some] <;> rfl)) | exact congrArg (fun b_ => Ending.returned (.bool b_)) hE_.out | (simp [*, errW_none, errW_some] <;> rfl), bl HB.out⟩
          ·rw [if_neg c21] at H
           have c21b0 : (t407 == 51) = false := beq_eq_false_iff_ne.mpr c21
           have c21b1 : (t407 != 51) = true := bne_iff_ne.mpr c21
           exact absurd (Option.some.inj H) (by simp)
         ·rw [if_neg c18] at H
          exact absurd H (by simp)
        ·rw [if_neg c17] at H
         exact absurd H (by simp)
       ·rw [if_neg c15] at H
        have c15b0 : decide (0 < (l1_2.length : Int)) = false := decide_eq_false c15
        have c15b1 : decide (0 < l1_2.length) = false := decide_eq_false (by omega)
        clear c15
        replace H := Option.bind_eq_some_iff.mp H
        obtain ⟨t409, A650, H⟩ := H
        replace H : (some t409) = some true := H
        have A65 := Aside0.mk A650
        clear A650
        have hE_ := Aside0.mk (Option.some.inj H)
        clear H
        go_enter Tryd.func8, Tryd.ntmps8
        try go_wp2_with (first | ((with_reducible refine gate_dst (N := 2) rfl ?_); refine box_event ?hg (N := 2) ?hd (cs := #[.slice A0_0 l0_0.length c0_0, .slice A0_1 l0_1.length c0_1]) (t := 51) ?hr ?_; (case hd => rfl); (case hg => rfl); (case hr => first | (go_simp; done) | (go_simp; rfl)); intro gb374 hg w66 hbox hb; have BK374 := Aside0.mk (hbox); have GW374 := Aside0.mk (gs (w := w) hg (bl HB.out)); have GE374 := Aside0.mk (gs (w := w) hg (bl HB.out)); replace HB := Aside0.mk (below_step (bl HB.out) hb); clear hb hbox hg) | ((with_reducible refine gate_dst (N := 3) rfl ?_); refine box_event ?hg (N := 3) ?hd (cs := #[.int .i64 a1_0, .slice A1_1 l1_1.length c1_1, .slice A1_2 l1_2.length c1_2]) (t := 25) ?hr ?_; (case hd => rfl); (case hg => rfl); (case hr => first | (go_simp; done) | (go_simp; rfl)); intro gb375 hg w67 hbox hb; have BK375 := Aside0.mk (hbox); have GW375 := Aside0.mk (gs (w := w) hg (bl HB.out)); have GE375 := Aside0.mk (gs (w := w) hg (bl HB.out)); replace HB := Aside0.mk (below_step (bl HB.out) hb); have NB374_375 := Aside0.mk ((gl (g := gb374) hg (pk BK374.out))); have NB375_374 := Aside0.mk ((gm (g := gb374) hg (pk BK374.out))); replace BK374 := Aside0.mk (blk_below (pk BK374.out) hb); clear hb hbox hg; have hnb68 := NB374_375.out; have hnc68 := NB375_374.out; obtain ⟨hcz69_0, hcz69_1, hfz69_0, hfz69_1⟩ := cz2 BK374.out; obtain ⟨hcz70_0, hcz70_1, hcz70_2, hfz70_0, hfz70_1, hfz70_2⟩ := cz3 BK375.out) | ((with_reducible refine gate_callee (f := 24) rfl ?_); refine goesL_ (some 12) rfl rfl Tryd.func24 kr rfl #[.agg #[.slice A0_0 l0_0.length c0_0, .slice A0_1 l0_1.length c0_1], .agg #[.int .i64 a1_0, .slice A1_1 l1_1.length c1_1, .slice A1_2 l1_2.length c1_2]] rfl ga ?_; (with_reducible refine (payload_Check.calls k _ _ l0_0 _ _ l0_1 a1_0 _ _ l1_1 _ _ l1_2 t376 _ ?side1 ?side2 ?side3 ?side4 ?side5 ?side6 ?side7 ?side8 ?side9 A3.out).mono ?_); (case side1 => repeat (first | exact (Kd.C_below HR0_0.out HB.out) | (with_reducible refine Kd.C_alloc ?_ _) | (with_reducible refine Kd.C_drewN ?_ _) | (with_reducible refine Kd.C_drew ?_))); (case side2 => exact HC0_0.out); (case side3 => repeat (first | exact (Kd.C_below HR0_1.out HB.out) | (with_reducible refine Kd.C_alloc ?_ _) | (with_reducible refine Kd.C_drewN ?_ _) | (with_reducible refine Kd.C_drew ?_))); (case side4 => exact HC0_1.out); (case side5 => repeat (first | exact (Kd.C_below HR1_1.out HB.out) | (with_reducible refine Kd.C_alloc ?_ _) | (with_reducible refine Kd.C_drewN ?_ _) | (with_reducible refine Kd.C_drew ?_))); (case side6 => exact HC1_1.out); (case side7 => repeat (first | exact (Kd.C_below HR1_2.out HB.out) | (with_reducible refine Kd.C_alloc ?_ _) | (with_reducible refine Kd.C_drewN ?_ _) | (with_reducible refine Kd.C_drew ?_))); (case side8 => exact HC1_2.out); (case side9 => exact LaidU.below HU.out (bl HB.out)); rintro e w71 ⟨rfl, hb⟩; refine ⟨_, rfl, ?_⟩; replace BK374 := Aside0.mk (blk_below (pk BK374.out) hb); replace BK375 := Aside0.mk (blk_below (pk BK375.out) hb); replace HB := Aside0.mk (below_step (bl HB.out) hb); (try clear hb); (try clear hb2); (try clear hk); (try clear hi); obtain ⟨hcz72_0, hcz72_1, hcz72_2, hfz72_0, hfz72_1, hfz72_2⟩ := cz3 BK375.out) | ((with_reducible refine gate_callee (f := 13) rfl ?_); refine goesL_ (some 23) rfl rfl Tryd.func13 kr rfl #[.agg #[.int .i64 a1_0, .slice A1_1 l1_1.length c1_1, .slice A1_2 l1_2.length c1_2]] rfl ga ?_; (with_reducible refine (payload_Encode.calls k a1_0 _ _ l1_1 _ _ l1_2 t379 t380 _ ?side1 ?side2 ?side3 ?side4 ?side5 A5.out).mono ?_); (case side1 => repeat (first | exact (Kd.C_below HR1_1.out HB.out) | (with_reducible refine Kd.C_alloc ?_ _) | (with_reducible refine Kd.C_drewN ?_ _) | (with_reducible refine Kd.C_drew ?_))); (case side2 => exact HC1_1.out); (case side3 => repeat (first | exact (Kd.C_below HR1_2.out HB.out) | (with_reducible refine Kd.C_alloc ?_ _) | (with_reducible refine Kd.C_drewN ?_ _) | (with_reducible refine Kd.C_drew ?_))); (case side4 => exact HC1_2.out); (case side5 => exact LaidU.below HU.out (bl HB.out)); rintro e w73 ⟨rfl, hb⟩; refine ⟨_, rfl, ?_⟩; replace BK374 := Aside0.mk (blk_below (pk BK374.out) hb); replace BK375 := Aside0.mk (blk_below (pk BK375.out) hb); replace HB := Aside0.mk (below_step (bl HB.out) hb); (try clear hb); (try clear hb2); (try clear hk); (try clear hi); obtain ⟨hcz74_0, hcz74_1, hcz74_2, hfz74_0, hfz74_1, hfz74_2⟩ := cz3 BK375.out) | ((with_reducible refine gate_callee (f := 11) rfl ?_); refine goesL_ (some 29) rfl rfl Tryd.func11 kr rfl #[.agg #[.int .i64 a1_0, .slice A1_1 l1_1.length c1_1, .slice A1_2 l1_2.length c1_2]] rfl ga ?_; (with_reducible refine (lodestarref05_Copy.calls k a1_0 _ _ l1_1 _ _ l1_2 t381 t382 t385 _ ?side1 ?side2 ?side3 ?side4 A7.out).mono ?_); (case side1 => repeat (first | exact (Kd.C_below HR1_1.out HB.out) | (with_reducible refine Kd.C_alloc ?_ _) | (with_reducible refine Kd.C_drewN ?_ _) | (with_reducible refine Kd.C_drew ?_))); (case side2 => exact HC1_1.out); (case side3 => repeat (first | exact (Kd.C_below HR1_2.out HB.out) | (with_reducible refine Kd.C_alloc ?_ _) | (with_reducible refine Kd.C_drewN ?_ _) | (with_reducible refine Kd.C_drew ?_))); (case side4 => exact HC1_2.out); rintro e w75 ⟨v383, v386, rfl, ho0, ho1, hb⟩; refine ⟨_, rfl, ?_⟩; have HO384 := Aside0.mk (Kd.N_lower (Kd.N_mono (ok' := fun k_ => some k_ ≠ (v386 : Value).ownBlock ∧ k_ ≠ gb374 ∧ k_ ≠ gb375) (Kd.S_N (Kd.S_bound (Kd.S_apart' ho0 (Kd.R_typed ho1) (by decide)))) (fun k_ hk_ => ⟨hk_.1.2, (Kd.freshB (g := gb374) (o := .cells #[.slice A0_0 l0_0.length c0_0, .slice A0_1 l0_1.length c0_1] 51 (0, 0)) (pk BK374.out) k_ hk_.2.1), (Kd.freshB (g := gb375) (o := .cells #[.int .i64 a1_0, .slice A1_1 l1_1.length c1_1, .slice A1_2 l1_2.length c1_2] 25 (0, 0)) (pk BK375.out) k_ hk_.2.1)⟩)) (below_size (bl HB.out))); have HO387 := Aside0.mk (Kd.R_lower ho1 (below_size (bl HB.out))); replace BK374 := Aside0.mk (blk_below (pk BK374.out) hb); replace BK375 := Aside0.mk (blk_below (pk BK375.out) hb); replace HB := Aside0.mk (below_step (bl HB.out) hb); (try clear hb); (try clear hb2); (try clear hk); (try clear hi); (try clear ho0); (try clear ho1)) | ((with_reducible refine gate_dst (N := 7) rfl ?_); refine box_event ?hg (N := 7) ?hd (cs := #[.int .i64 0, .slice none 0 0, .slice none 0 0]) (t := 25) ?hr ?_; (case hd => rfl); (case hg => rfl); (case hr => first | (go_simp; done) | (go_simp; rfl)); intro gb388 hg w76 hbox hb; replace HO384 := Aside0.mk (Kd.N_below (Kd.N_elderB (pN HO384.out) gb388 (Nat.le_of_eq hg.symm)) hb); replace HO387 := Aside0.mk (Kd.R_below (pR HO387.out) hb); have BK388 := Aside0.mk (hbox); have GW388 := Aside0.mk (gs (w := w) hg (bl HB.out)); have GE388 := Aside0.mk (gs (w := w) hg (bl HB.out)); replace HB := Aside0.mk (below_step (bl HB.out) hb); have NB374_388 := Aside0.mk ((gl (g := gb374) hg (pk BK374.out))); have NB388_374 := Aside0.mk ((gm (g := gb374) hg (pk BK374.out))); replace BK374 := Aside0.mk (blk_below (pk BK374.out) hb); have NB375_388 := Aside0.mk ((gl (g := gb375) hg (pk BK375.out))); have NB388_375 := Aside0.mk ((gm (g := gb375) hg (pk BK375.out))); replace BK375 := Aside0.mk (blk_below (pk BK375.out) hb); clear hb hbox hg; have hnb77 := NB388_374.out; have hnc77 := NB374_388.out; have hnb78 := NB388_375.out; have hnc78 := NB375_388.out; obtain ⟨hcz79_0, hcz79_1, hcz79_2, hfz79_0, hfz79_1, hfz79_2⟩ := cz3 BK388.out; obtain ⟨Ao80, co80, eo80⟩ := Kd.N_slice HO384.out; subst eo80; obtain ⟨Ao81, co81, eo81⟩ := Kd.R_slice HO387.out; subst eo81) | ((with_reducible refine gate_store (t := 25) (p := 7) rfl ?_); refine store_event (t := 25) (p := 7) (v := ?vo_w82) (w1 := (((w76.setCell ⟨gb388, 0, none⟩ (.int .i64 t381)).setCell ⟨gb388, 1, none⟩ (.slice Ao80 t382.length co80)).setCell ⟨gb388, 2, none⟩ (.slice Ao81 t385.length co81))) ?hg ?ho ?hn ?hr ?_; (case ho => rfl); (case hg => rfl); (case hn => rfl); (case hr => first | (go_simp; done) | (go_simp; rfl)); intro w82 hw; replace HO384 : Aside0 (Kd.N k59 59 w82 w.heap.size (fun k_ => some k_ ≠ (.slice Ao81 t385.length co81 : Value).ownBlock ∧ k_ ≠ gb374 ∧ k_ ≠ gb375 ∧ k_ ≠ gb388) (.slice Ao80 t382.length co80) t382) := ⟨(by rw [hw]; exact (by (with_reducible repeat (first | apply Kd.N_alloc | apply Kd.N_drewN | apply Kd.N_drew)); exact Kd.N_mono (Kd.N_far (p := ⟨gb388, 2, none⟩) (Kd.N_far (p := ⟨gb388, 1, none⟩) (Kd.N_far (p := ⟨gb388, 0, none⟩) (Kd.N_mono HO384.out (fun k_ hk => (⟨hk, hk.2⟩ : _ ∧ k_ ≠ gb388))) (fun _ hk => hk.2) (.int .i64 t381)) (fun _ hk => hk.2) (.slice Ao80 t382.length co80)) (fun _ hk => hk.2) (.slice Ao81 t385.length co81)) (fun _ hk => ⟨hk.1.1.1, ⟨hk.1.1.2.1, ⟨hk.1.1.2.2, hk.1.2⟩⟩⟩)))⟩; replace HO387 : Aside0 (Kd.R k61 61 w82 w.heap.size (fun _ => True) (.slice Ao81 t385.length co81) t385) := ⟨(by rw [hw]; exact (by (with_reducible repeat (first | apply Kd.R_alloc | apply Kd.R_drewN | apply Kd.R_drew)); exact Kd.R_mono (Kd.R_far (p := ⟨gb388, 2, none⟩) (Kd.R_far (p := ⟨gb388, 1, none⟩) (Kd.R_far (p := ⟨gb388, 0, none⟩) (Kd.R_types HO387.out BK388.out (by decide)) (fun _ hk => hk.2) (.int .i64 t381)) (fun _ hk => hk.2) (.slice Ao80 t382.length co80)) (fun _ hk => hk.2) (.slice Ao81 t385.length co81)) (fun _ hk => trivial)))⟩; replace BK374 : Aside0 (w82.heap[gb374]? = some (.cells #[.slice A0_0 l0_0.length c0_0, .slice A0_1 l0_1.length c0_1] 51 (0, 0))) := ⟨(by rw [hw]; exact (by refine pk ?_; refine blk_far ?_ NB374_388.out _; refine pk ?_; refine blk_far ?_ NB374_388.out _; refine pk ?_; refine blk_far ?_ NB374_388.out _; exact pk BK374.out))⟩; replace BK375 : Aside0 (w82.heap[gb375]? = some (.cells #[.int .i64 a1_0, .slice A1_1 l1_1.length c1_1, .slice A1_2 l1_2.length c1_2] 25 (0, 0))) := ⟨(by rw [hw]; exact (by refine pk ?_; refine blk_far ?_ NB375_388.out _; refine pk ?_; refine blk_far ?_ NB375_388.out _; refine pk ?_; refine blk_far ?_ NB375_388.out _; exact pk BK375.out))⟩; replace BK388 : Aside0 (w82.heap[gb388]? = some (.cells #[.int .i64 t381, .slice Ao80 t382.length co80, .slice Ao81 t385.length co81] 25 (0, 0))) := ⟨(by rw [hw]; exact (by refine pk ?_; refine blk_put (cs := #[.int .i64 t381, .slice Ao80 t382.length co80, .slice none 0 0]) ?_ 2 _ rfl; refine pk ?_; refine blk_put (cs := #[.int .i64 t381, .slice none 0 0, .slice none 0 0]) ?_ 1 _ rfl; refine pk ?_; refine blk_put (cs := #[.int .i64 0, .slice none 0 0, .slice none 0 0]) ?_ 0 _ rfl; exact pk BK388.out))⟩; replace HB : Aside0 (Below w.heap.size w w82) := ⟨(by rw [hw]; exact (bl HB.out))⟩; clear hw; obtain ⟨hcz83_0, hcz83_1, hcz83_2, hfz83_0, hfz83_1, hfz83_2⟩ := cz3 BK388.out; have p389 : 0 ≤ (0 : Int) := (by omega); have q389 : 0 < (t382.length : Int) := of_decide_eq_true ha; obtain ⟨ad389, A389_1, c389_1, e389, hx389_0, hx389_1, hl389_1, hi389_1⟩ := at_T59 (Kd.N_reads' HO384.out).2.2 0 p389 q389; cases e389; obtain ⟨ce389, hce389, hMe389, hcc389⟩ := Kd.N_get HO384.out z59 0 p389 (by first | exact q389 | exact of_decide_eq_true ha | (have e_ := (Kd.N_reads' HO384.out).1; omega)); obtain ⟨ua389_1, uc389_1, rfl, ul389_1, ge389_1⟩ := k59_openF hMe389; have hv389_1 := hcc389 1 _ rfl; rw [add_field _ _ 1 (by omega)] at hv389_1; replace hv389_1 := Option.some.inj (hv389_1.symm.trans hx389_1); injection hv389_1 with hva_ hvn_ hvc_; rw [hva_] at ge389_1; rw [hvc_] at ul389_1; have HL389_1 := Aside0.mk (show Kd.V (Kd.int .i64) 3 _ w.heap.size _ _ ((rd_T59 t382 0).f1) from Kd.V_mk ul389_1 ge389_1); clear hva_ hvn_ hvc_ ge389_1 ul389_1; clear hcc389 hce389; have qi389 : (0 < t382.length) = True := eq_true (by omega); (try rw [show ((0 : Int)).toNat = 0 from rfl] at hx389_0); (try rw [show 0 * 2 = 0 from rfl] at hx389_0); (try rw [Addr.add_zero'] at hx389_0); (try rw [show ((0 : Int)).toNat = 0 from rfl] at hx389_1); (try rw [show 0 * 2 = 0 from rfl] at hx389_1); (try rw [Addr.add_zero'] at hx389_1); have HR389_1 := Aside0.mk hi389_1; have HC389_1 := Aside0.mk hl389_1; clear hi389_1 hl389_1; replace p389 := eq_true p389; replace q389 := eq_true q389))
        replace HO384 := Aside0.mk (Kd.N_drew HO384.out)
        replace HO387 := Aside0.mk (Kd.R_drew HO387.out)
        replace HL389_1 := Aside0.mk (Kd.V_drew HL389_1.out)
        replace BK374 := Aside0.mk (blk_drew BK374.out)
        replace BK375 := Aside0.mk (blk_drew BK375.out)
        replace BK388 := Aside0.mk (blk_drew BK388.out)
        replace HR389_1 := Aside0.mk (Kd.C_drew HR389_1.out)
        replace HB := Aside0.mk (below_drew1 HB.out)
        have q85 : ((ji9) : Int) ≤ ((((rd_T59 t382 0).f1).length : Int) : Int) := of_decide_eq_true ha
        obtain ⟨i085, hi085, _, hsz85, _⟩ := info_parts info3
        have hroom85 : ((rd_T59 t382 0).f1).length ≤ c389_1 := HC389_1.out
        have hC85 : Kd.F (Kd.int .i64) _ _ A389_1 ((rd_T59 t382 0).f1).length ((rd_T59 t382 0).f1) := (Kd.V_at (base := w.heap.size) HL389_1.out).2.2
        have hcut85 := cut_to (P := Tryd.prog) 57 3 .i64 Tryd.underlying57 hi085 A389_1 ((rd_T59 t382 0).f1).length c389_1 (ji9) (of_decide_eq_true ha) q85 hroom85
        have hr85 := Kd.F_take (m := ((ji9) : Int).toNat) hC85 (by omega)
        have hy85 : y390.length = ((ji9) : Int).toNat := (by rw [Ny390.out, List.length_take]; omega)
        rw [← Ny390.out] at hr85
        rw [← hy85] at hcut85
        have HO394 := Aside0.mk (show Kd.V (Kd.int .i64) 3 _ w.heap.size _ (.slice A389_1 y390.length c389_1) y390 from Kd.V_mk (by omega) hr85)
        have HC394 := Aside0.mk (show y390.length ≤ c389_1 from by omega)
        clear hr85 hC85 hroom85 hi085 hsz85
        have KY85 := Aside0.mk hy85
        clear hy85
        replace q85 := eq_true q85
        have p12 : 0 ≤ (0 : Int) := (by omega)
        have q12 : (0 : Int) < ((t382.length : Int) : Int) := of_decide_eq_true ha
        have qi12 : (0 < t382.length) = True := eq_true (by omega)
        obtain ⟨go12, co12, eo12, gb12, gl12, cl12, HG12⟩ := Kd.N_form HO384.out (by omega)
        (first | cases eo12 | (injection eo12 with ea_ en_ ec_; (first | subst ea_ | (injection ea_ with ea_; subst ea_)); subst ec_; clear en_))
        have GB12 := Aside0.mk gb12
        have GG12 := Aside0.mk HG12
        clear gb12 gl12 HG12
        (first | simp only [add_plain] at hx389_0 | skip)
        (first | simp only [add_plain] at hx389_1 | skip)
        obtain ⟨ce12, hcl12, hM12, hcc12, hfr12⟩ := Kd.N_elem HO384.out z59 (0 : Int) p12 q12
        obtain ⟨ua12_1, uc12_1, rfl, ul12_1, ge12_1⟩ := k59_openF hM12
        have hx12_0 : World.cell? _ ⟨go12, (0 : Int).toNat * 2, none⟩ = some (.string ((rd_T59 t382 0).f0)) := hcc12 0 _ rfl
        have hx12_1 : World.cell? _ ⟨go12, (0 : Int).toNat * 2 + 1, none⟩ = some (.slice ua12_1 ((rd_T59 t382 0).f1).length uc12_1) := hcc12 1 _ rfl
        have hf12_0 : World.frozen? _ ⟨go12, (0 : Int).toNat * 2, none⟩ = false := hfr12 0
        have hf12_1 : World.frozen? _ ⟨go12, (0 : Int).toNat * 2 + 1, none⟩ = false := hfr12 1
        clear hcl12 hcc12 hfr12 hM12
        (try rw [show ((0 : Int)).toNat = 0 from rfl] at hx12_0)
        (try simp only [Nat.reduceMul, Nat.zero_mul, Nat.zero_add, Nat.reduceAdd] at hx12_0)
        (try rw [show ((0 : Int)).toNat = 0 from rfl] at hf12_0)
        (try simp only [Nat.reduceMul, Nat.zero_mul, Nat.zero_add, Nat.reduceAdd] at hf12_0)
        (try rw [show ((0 : Int)).toNat = 0 from rfl] at hx12_1)
        (try simp only [Nat.reduceMul, Nat.zero_mul, Nat.zero_add, Nat.reduceAdd] at hx12_1)
        (try rw [show ((0 : Int)).toNat = 0 from rfl] at hf12_1)
        (try simp only [Nat.reduceMul, Nat.zero_mul, Nat.zero_add, Nat.reduceAdd] at hf12_1)
        replace p12 := eq_true p12
        replace q12 := eq_true q12
        have HX86 := Aside0.mk (show Kd.N k59 59 _ w.heap.size (fun k_ => some k_ ≠ (.slice Ao81 t385.length co81 : Value).ownBlock ∧ k_ ≠ gb374 ∧ k_ ≠ gb375 ∧ k_ ≠ gb388) (.slice (some ⟨go12, 0, none⟩) t382.length co80) t382 from (Kd.N_mono (HO384.out) (fun k_ hk => ⟨hk.1, ⟨hk.2.1, ⟨hk.2.2.1, hk.2.2.2⟩⟩⟩)))
        obtain ⟨ce86, hcl86, hM86, hcc86, hfr86⟩ := Kd.N_elem HX86.out z59 (0 : Int) (by omega) (by have h_ : (0 : Int) < ((t382.length : Int) : Int) := of_decide_eq_true ha; first | exact h_ | (have e_ := (Kd.N_reads' HO384.out).1; omega) | simpa using h_)
        obtain ⟨ua86_1, uc86_1, rfl, ul86_1, ge86_1⟩ := k59_openF hM86
        have HP86 := (Kd.N_seg HX86.out (0 : Int) (by omega) (by have h_ : (0 : Int) < ((t382.length : Int) : Int) := of_decide_eq_true ha; first | exact h_ | (have e_ := (Kd.N_reads' HO384.out).1; omega) | simpa using h_) (seg := [.slice A389_1 y390.length c389_1]) (j := 1) hcl86 hcc86 (show 2 ≤ 2 from by decide) (x' := (⟨(rd_T59 t382 0).f0, y390⟩ : S59)) (k59_mkF _ _ (⟨(rd_T59 t382 0).f0, y390⟩ : S59) (Kd.V_reads' (Kd.V_mono (ok' := (fun k_ => ((fun k_ => some k_ ≠ (.slice Ao81 t385.length co81 : Value).ownBlock ∧ k_ ≠ gb374 ∧ k_ ≠ gb375 ∧ k_ ≠ gb388)) k_ ∧ k_ ≠ go12)) (HO394.out) (fun k_ hk => ⟨⟨hk.1.1, ⟨hk.1.2.1, ⟨hk.1.2.2.1, hk.1.2.2.2⟩⟩⟩, fun e_ => (hk.2) (by rw [e_]; rfl)⟩))).2.1 (Kd.V_F (Kd.V_mono (ok' := (fun k_ => ((fun k_ => some k_ ≠ (.slice Ao81 t385.length co81 : Value).ownBlock ∧ k_ ≠ gb374 ∧ k_ ≠ gb375 ∧ k_ ≠ gb388)) k_ ∧ k_ ≠ go12)) (HO394.out) (fun k_ hk => ⟨⟨hk.1.1, ⟨hk.1.2.1, ⟨hk.1.2.2.1, hk.1.2.2.2⟩⟩⟩, fun e_ => (hk.2) (by rw [e_]; rfl)⟩)))) (fun _ hk => hk)).1
        rw [← Ny395.out] at HP86
        have HQ86 := Aside0.mk HP86
        clear hcl86 hcc86 hfr86 hM86 HP86
        refine start_ (n := 10) (S := fun w' => w'.cell? ⟨gb388, 0, none⟩ = some (.int .i64 t381) ∧ w'.cell? ⟨gb388, 1, none⟩ = some (.slice (some ⟨go12, 0, none⟩) t382.length co80) ∧ w'.cell? ⟨gb388, 2, none⟩ = some (.slice Ao81 t385.length co81)) (ds := [9]) #[false, false, false, false, false, false, false, false, false, false] kr rfl rfl ⟨(blk_cell BK388.out 0).trans rfl, (blk_cell BK388.out 1).trans rfl, (blk_cell BK388.out 2).trans rfl⟩ (fun hHeld => ?_); refine with_tabW lodestarlaw05_PayloadFits.tab8 lodestarlaw05_PayloadFits.bits8 (fun HT_ HW_ => ?_)
        generalize w82.drew = w84 at HO384 HO387 HL389_1 BK374 BK375 BK388 HR389_1 HB GG12 HO394 HQ86 hf12_0 hf12_1 hx12_0 hx12_1 hx389_0 hx389_1 hHeld ⊢
        refine pure_ (i := 0) (N := some 35) (v := ?_) (a' := ?_) #[true, false, false, false, false, false, false, false, false, false] rfl rfl (any_of HT_.out kr) (fun _ _ _ h => h) (Or.inl ⟨by rfl, ?_⟩) ?_ ?_
        rotate_left
        ·exact wl
        rotate_left
        ·exact ap
        refine pure_ (i := 2) (N := some 37) (v := ?_) (a' := ?_) #[true, false, true, false, false, false, false, false, false, false] rfl rfl (any_of HT_.out kr) (fun _ _ _ h => h) (Or.inl ⟨by rfl, ?_⟩) ?_ ?_
        rotate_left
        ·exact wl
        rotate_left
        ·exact ap
        refine pure_ (i := 3) (N := some 38) (v := ?_) (a' := ?_) #[true, false, true, true, false, false, false, false, false, false] rfl rfl (any_of HT_.out kr) (fun _ _ _ h => h) (Or.inl ⟨by rfl, ?_⟩) ?_ ?_
        rotate_left
        ·exact wl
        rotate_left
        ·exact ap
        refine pure_ (i := 4) (N := some 39) (v := ?_) (a' := ?_) #[true, false, true, true, true, false, false, false, false, false] rfl rfl (any_of HT_.out kr) (fun _ _ _ h => h) (Or.inl ⟨by rfl, ?_⟩) ?_ ?_
        rotate_left
        ·exact wl
        rotate_left
        ·exact ap
        refine pure_ (i := 5) (N := some 40) (v := ?_) (a' := ?_) #[true, false, true, true, true, true, false, false, false, false] rfl rfl (any_of HT_.out kr) (fun _ _ _ h => h) (Or.inl ⟨by rfl, ?_⟩) ?_ ?_
        rotate_left
        ·exact wl
        rotate_left
        ·exact ap
        refine pure_ (i := 6) (N := some 41) (v := ?_) (a' := ?_) #[true, false, true, true, true, true, true, false, false, false] rfl rfl (any_of HT_.out kr) (fun _ _ _ h => h) (Or.inl ⟨by rfl, ?_⟩) ?_ ?_
        rotate_left
        ·exact wl
        rotate_left
        ·exact ap
        refine take_ (i := 1) (N := some 36) (v := ?_) (a' := ?_) #[true, true, true, true, true, true, true, false, false, false] rfl rfl (take_ofW HT_.out HW_.out kr) (fun _ _ _ h => h) (Or.inl ⟨by rfl, ?_⟩) hHeld ?_ ?_
        rotate_left
        ·rintro w' ⟨s0, s1, s2⟩
         go_simp
         exact rl
        rotate_left
        ·exact ap
        refine pure_ (i := 7) (N := some 42) (v := ?_) (a' := ?_) #[true, true, true, true, true, true, true, true, false, false] rfl rfl (any_of HT_.out kr) (fun _ _ _ h => h) (Or.inl ⟨by rfl, ?_⟩) ?_ ?_
        rotate_left
        ·exact wl
        rotate_left
        ·exact ap
        refine pure_ (i := 8) (N := some 43) (v := ?_) (a' := ?_) #[true, true, true, true, true, true, true, true, true, false] rfl rfl (any_of HT_.out kr) (fun _ _ _ h => h) (Or.inl ⟨by rfl, ?_⟩) ?_ ?_
        rotate_left
        ·exact wl
        rotate_left
        ·exact ap
        refine last_ (i := 9) (N := none) #[true, true, true, true, true, true, true, true, true, true] rfl rfl (one_of HT_.out kr) (by decide) (fun K hK => ?_)
        refine skip_ (w1 := ?_) (by rfl) rfl ?_ ?_
        rotate_left
        ·go_simp
         rfl
        refine hK.out _ _ ?_
        clear hK K
        refine done_ (done_of HT_.out kr) ?_
        have n0_ : Aside0 (Kd.N k59 59 (w84.setCell ⟨go12, 1, none⟩ (.slice A389_1 y390.length c389_1)) w.heap.size (fun k_ => some k_ ≠ (.slice Ao81 t385.length co81 : Value).ownBlock ∧ k_ ≠ gb374 ∧ k_ ≠ gb375 ∧ k_ ≠ gb388) (.slice (some ⟨go12, 0, none⟩) t382.length co80) y395) := ⟨pN HQ86.out⟩
        have n1_ : Aside0 (Kd.R k61 61 (w84.setCell ⟨go12, 1, none⟩ (.slice A389_1 y390.length c389_1)) w.heap.size (fun _ => True) (.slice Ao81 t385.length co81) t385) := ⟨by (with_reducible repeat (first | apply Kd.R_alloc | apply Kd.R_drewN | apply Kd.R_drew)); exact Kd.R_mono (Kd.R_far (p := ⟨go12, 1, none⟩) (Kd.R_types HO387.out GG12.out (by decide)) (fun _ hk => hk.2) (.slice A389_1 y390.length c389_1)) (fun _ hk => trivial)⟩
        have n2_ : Aside0 (Kd.V (Kd.int .i64) 3 (w84.setCell ⟨go12, 1, none⟩ (.slice A389_1 y390.length c389_1)) w.heap.size (fun k_ => some k_ ≠ (.slice (some ⟨go12, 0, none⟩) t382.length co80 : Value).ownBlock ∧ some k_ ≠ (.slice Ao81 t385.length co81 : Value).ownBlock ∧ k_ ≠ gb374 ∧ k_ ≠ gb375 ∧ k_ ≠ gb388) (.slice A389_1 ((rd_T59 t382 0).f1).length c389_1) ((rd_T59 t382 0).f1)) := ⟨by (with_reducible repeat (first | apply Kd.V_alloc | apply Kd.V_drewN | apply Kd.V_drew)); exact Kd.V_mono (Kd.V_far (p := ⟨go12, 1, none⟩) (Kd.V_mono HL389_1.out (fun k_ hk => (⟨hk, fun e_ => hk.2 (by rw [e_]; rfl)⟩ : _ ∧ k_ ≠ go12))) (fun _ hk => hk.2) (.slice A389_1 y390.length c389_1)) (fun _ hk => ⟨hk.1.2, ⟨hk.1.1.1, ⟨hk.1.1.2.1, ⟨hk.1.1.2.2.1, hk.1.1.2.2.2⟩⟩⟩⟩)⟩
        have n3_ : Aside0 (Kd.V (Kd.int .i64) 3 (w84.setCell ⟨go12, 1, none⟩ (.slice A389_1 y390.length c389_1)) w.heap.size (fun k_ => some k_ ≠ (.slice (some ⟨go12, 0, none⟩) t382.length co80 : Value).ownBlock ∧ some k_ ≠ (.slice Ao81 t385.length co81 : Value).ownBlock ∧ k_ ≠ gb374 ∧ k_ ≠ gb375 ∧ k_ ≠ gb388) (.slice A389_1 y390.length c389_1) y390) := ⟨by (with_reducible repeat (first | apply Kd.V_alloc | apply Kd.V_drewN | apply Kd.V_drew)); exact Kd.V_mono (Kd.V_far (p := ⟨go12, 1, none⟩) (Kd.V_mono HO394.out (fun k_ hk => (⟨hk, fun e_ => hk.2 (by rw [e_]; rfl)⟩ : _ ∧ k_ ≠ go12))) (fun _ hk => hk.2) (.slice A389_1 y390.length c389_1)) (fun _ hk => ⟨hk.1.2, ⟨hk.1.1.1, ⟨hk.1.1.2.1, ⟨hk.1.1.2.2.1, hk.1.1.2.2.2⟩⟩⟩⟩)⟩
        have n4_ : Aside0 ((w84.setCell ⟨go12, 1, none⟩ (.slice A389_1 y390.length c389_1)).heap[gb374]? = some (.cells #[.slice A0_0 l0_0.length c0_0, .slice A0_1 l0_1.length c0_1] 51 (0, 0))) := ⟨by refine pk ?_; refine blk_far ?_ (by have h_ := Kd.N_away HO384.out (fun _ hk => hk.2.1); intro e_; exact h_ (by rw [e_]; rfl)) _; exact pk BK374.out⟩
        have n5_ : Aside0 ((w84.setCell ⟨go12, 1, none⟩ (.slice A389_1 y390.length c389_1)).heap[gb375]? = some (.cells #[.int .i64 a1_0, .slice A1_1 l1_1.length c1_1, .slice A1_2 l1_2.length c1_2] 25 (0, 0))) := ⟨by refine pk ?_; refine blk_far ?_ (by have h_ := Kd.N_away HO384.out (fun _ hk => hk.2.2.1); intro e_; exact h_ (by rw [e_]; rfl)) _; exact pk BK375.out⟩
        have n6_ : Aside0 ((w84.setCell ⟨go12, 1, none⟩ (.slice A389_1 y390.length c389_1)).heap[gb388]? = some (.cells #[.int .i64 t381, .slice (some ⟨go12, 0, none⟩) t382.length co80, .slice Ao81 t385.length co81] 25 (0, 0))) := ⟨by refine pk ?_; refine blk_far ?_ (by have h_ := Kd.N_away HO384.out (fun _ hk => hk.2.2.2); intro e_; exact h_ (by rw [e_]; rfl)) _; exact pk BK388.out⟩
        have n7_ : Aside0 (Below w.heap.size w (w84.setCell ⟨go12, 1, none⟩ (.slice A389_1 y390.length c389_1))) := ⟨by repeat (first | (with_reducible first | exact HB.out | apply below_alloc | apply pw_below_drewN | apply below_drew1 | refine below_set ?_ GB12.out | refine below_set ?_ GE374.out | refine below_set ?_ GE375.out | refine below_set ?_ GE388.out) | exact HB.out)⟩
        (try clear HO384)
        (try clear HO387)
        (try clear HL389_1)
        (try clear HO394)
        (try clear BK374)
        (try clear BK375)
        (try clear BK388)
        (try clear HB)
        generalize (w84.setCell ⟨go12, 1, none⟩ (.slice A389_1 y390.length c389_1)) = w87 at n0_ n1_ n2_ n3_ n4_ n5_ n6_ n7_ ⊢
        have HO384 := n0_
        have HO387 := n1_
        have HL389_1 := n2_
        have HO394 := n3_
        have BK374 := n4_
        have BK375 := n5_
        have BK388 := n6_
        have HB := n7_
        clear n0_ n1_ n2_ n3_ n4_ n5_ n6_ n7_
        obtain ⟨hcz88_0, hcz88_1, hfz88_0, hfz88_1⟩ := cz2 BK374.out
        obtain ⟨hcz89_0, hcz89_1, hcz89_2, hfz89_0, hfz89_1, hfz89_2⟩ := cz3 BK388.out
        try go_wp2_with (first | ((with_reducible refine gate_callee (f := 24) rfl ?_); refine goesL_ (some 46) rfl rfl Tryd.func24 kr rfl #[.agg #[.slice A0_0 l0_0.length c0_0, .slice A0_1 l0_1.length c0_1], .agg #[.int .i64 t381, .slice (some ⟨go12, 0, none⟩) y395.length co80, .slice Ao81 t385.length co81]] rfl (by (try simp only [List.map_toArray, List.map_cons, List.map_nil]); first | done | (rw [show y395.length = t382.length from (Kd.N_reads' HO384.out).1.symm] <;> rfl) | rfl | (simp only [List.length_drop, List.length_take]; rfl) | (go_simp; done) | (go_simp; rfl) | (go_simp; simp only [IntKind.wrap_u64]; omega) | (go_simp; simp only [IntKind.wrap_u32]; omega) | (go_simp; simp only [IntKind.wrap_u8]; omega) | (go_simp; unfold wrap64; omega)) ?_; (with_reducible refine (payload_Check.calls k _ _ l0_0 _ _ l0_1 t381 _ _ y395 _ _ t385 t396 _ ?side1 ?side2 ?side3 ?side4 ?side5 ?side6 ?side7 ?side8 ?side9 A13.out).mono ?_); (case side1 => repeat (first | exact (Kd.C_below HR0_0.out HB.out) | (with_reducible refine Kd.C_alloc ?_ _) | (with_reducible refine Kd.C_drewN ?_ _) | (with_reducible refine Kd.C_drew ?_))); (case side2 => exact HC0_0.out); (case side3 => repeat (first | exact (Kd.C_below HR0_1.out HB.out) | (with_reducible refine Kd.C_alloc ?_ _) | (with_reducible refine Kd.C_drewN ?_ _) | (with_reducible refine Kd.C_drew ?_))); (case side4 => exact HC0_1.out); (case side5 => repeat (first | exact (Kd.N_reads' HO384.out).2.2 | (with_reducible refine Kd.C_alloc ?_ _) | (with_reducible refine Kd.C_drewN ?_ _) | (with_reducible refine Kd.C_drew ?_))); (case side6 => rw [show y395.length = t382.length from (Kd.N_reads' HO384.out).1.symm]; exact (Kd.N_reads' HO384.out).2.1); (case side7 => repeat (first | exact (Kd.R_reads' HO387.out).2.2 | (with_reducible refine Kd.C_alloc ?_ _) | (with_reducible refine Kd.C_drewN ?_ _) | (with_reducible refine Kd.C_drew ?_))); (case side8 => exact (Kd.R_reads' HO387.out).2.1); (case side9 => exact LaidU.below HU.out (bl HB.out)); rintro e w90 ⟨rfl, hb⟩; refine ⟨_, rfl, ?_⟩; replace HO384 := Aside0.mk (Kd.N_below (pN HO384.out) hb); replace HO387 := Aside0.mk (Kd.R_below (pR HO387.out) hb); replace HL389_1 := Aside0.mk (Kd.V_below (pV HL389_1.out) hb); replace HO394 := Aside0.mk (Kd.V_below (pV HO394.out) hb); replace BK374 := Aside0.mk (blk_below (pk BK374.out) hb); replace BK375 := Aside0.mk (blk_below (pk BK375.out) hb); replace BK388 := Aside0.mk (blk_below (pk BK388.out) hb); replace HB := Aside0.mk (below_step (bl HB.out) hb); (try clear hb); (try clear hb2); (try clear hk); (try clear hi); obtain ⟨hcz91_0, hcz91_1, hcz91_2, hfz91_0, hfz91_1, hfz91_2⟩ := cz3 BK375.out) | ((with_reducible refine gate_callee (f := 12) rfl ?_); refine goesL_ (some 71) rfl rfl Tryd.func12 kr rfl #[] rfl ga ?_; (with_reducible refine (lodestarlaw05_awake.calls k  t409 _ ?side1 A65.out).mono ?_); (case side1 => exact LaidU.below HU.out (bl HB.out)); rintro e w92 ⟨rfl, hb⟩; refine ⟨_, rfl, ?_⟩; replace HO384 := Aside0.mk (Kd.N_below (pN HO384.out) hb); replace HO387 := Aside0.mk (Kd.R_below (pR HO387.out) hb); replace HL389_1 := Aside0.mk (Kd.V_below (pV HL389_1.out) hb); replace HO394 := Aside0.mk (Kd.V_below (pV HO394.out) hb); replace BK374 := Aside0.mk (blk_below (pk BK374.out) hb); replace BK375 := Aside0.mk (blk_below (pk BK375.out) hb); replace BK388 := Aside0.mk (blk_below (pk BK388.out) hb); replace HB := Aside0.mk (below_step (bl HB.out) hb); (try clear hb); (try clear hb2); (try clear hk); (try clear hi)))
        go_ret
        exact ⟨by first | rfl | (simp [errW_none, errW_some] <;> rfl) | (simp only [← hji9]; first | rfl | (simp [errW_none, errW_some] <;> rfl)) | exact congrArg (fun b_ => Ending.returned (.bool b_)) hE_.out | (simp [*, errW_none, errW_some] <;> rfl), bl HB.out⟩
      ·rw [if_neg c14] at H
       have c14b0 : (t396 == 60) = false := beq_eq_false_iff_ne.mpr c14
       have c14b1 : (t396 != 60) = true := bne_iff_ne.mpr c14
       exact absurd (Option.some.inj H) (by simp)
     ·rw [if_neg c11] at H
      exact absurd H (by simp)
    ·rw [if_neg c10] at H
     exact absurd H (by simp)
   ·rw [if_neg c8] at H
    exact absurd H (by simp)
  ·rw [if_neg c6] at H
   have c6b0 : (t380 == 0) = false := beq_eq_false_iff_ne.mpr c6
   have c6b1 : (t380 != 0) = true := bne_iff_ne.mpr c6
   exact absurd (Option.some.inj H) (by simp)
 ·rw [if_neg c4] at H
  have c4b0 : (t376 == 0) = false := beq_eq_false_iff_ne.mpr c4
  have c4b1 : (t376 != 0) = true := bne_iff_ne.mpr c4
  replace H := Option.bind_eq_some_iff.mp H
  obtain ⟨t377, A930, H⟩ := H
  replace H : (if t377 = 0 then (some false) else ((lodestarlaw05_awake.f k).bind fun t378 => (some t378))) = some true := H
  have A93 := Aside0.mk A930
  clear A930
  by_cases c94 : t377 = 0
  ·rw [if_pos c94] at H
   have c94b0 : (t377 == 0) = true := beq_iff_eq.mpr c94
   have c94b1 : (t377 != 0) = false := bne_eq_false_iff_eq.mpr c94
   clear c94
   exact absurd (Option.some.inj H) (by simp)
  ·rw [if_neg c94] at H
   have c94b0 : (t377 == 0) = false := beq_eq_false_iff_ne.mpr c94
   have c94b1 : (t377 != 0) = true := bne_iff_ne.mpr c94
   replace H := Option.bind_eq_some_iff.mp H
   obtain ⟨t378, A950, H⟩ := H
   replace H : (some t378) = some true := H
   have A95 := Aside0.mk A950
   clear A950
   have hE_ := Aside0.mk (Option.some.inj H)
   clear H
   go_enter Tryd.func8, Tryd.ntmps8
   go_wp2_with (first | ((with_reducible refine gate_dst (N := 2) rfl ?_); refine box_event ?hg (N := 2) ?hd (cs := #[.slice A0_0 l0_0.length c0_0, .slice A0_1 l0_1.length c0_1]) (t := 51) ?hr ?_; (case hd => rfl); (case hg => rfl); (case hr => first | (go_simp; done) | (go_simp; rfl)); intro gb374 hg w96 hbox hb; have BK374 := Aside0.mk (hbox); have GW374 := Aside0.mk (gs (w := w) hg (bl HB.out)); have GE374 := Aside0.mk (gs (w := w) hg (bl HB.out)); replace HB := Aside0.mk (below_step (bl HB.out) hb); clear hb hbox hg) | ((with_reducible refine gate_dst (N := 3) rfl ?_); refine box_event ?hg (N := 3) ?hd (cs := #[.int .i64 a1_0, .slice A1_1 l1_1.length c1_1, .slice A1_2 l1_2.length c1_2]) (t := 25) ?hr ?_; (case hd => rfl); (case hg => rfl); (case hr => first | (go_simp; done) | (go_simp; rfl)); intro gb375 hg w97 hbox hb; have BK375 := Aside0.mk (hbox); have GW375 := Aside0.mk (gs (w := w) hg (bl HB.out)); have GE375 := Aside0.mk (gs (w := w) hg (bl HB.out)); replace HB := Aside0.mk (below_step (bl HB.out) hb); have NB374_375 := Aside0.mk ((gl (g := gb374) hg (pk BK374.out))); have NB375_374 := Aside0.mk ((gm (g := gb374) hg (pk BK374.out))); replace BK374 := Aside0.mk (blk_below (pk BK374.out) hb); clear hb hbox hg; have hnb98 := NB374_375.out; have hnc98 := NB375_374.out; obtain ⟨hcz99_0, hcz99_1, hfz99_0, hfz99_1⟩ := cz2 BK374.out; obtain ⟨hcz100_0, hcz100_1, hcz100_2, hfz100_0, hfz100_1, hfz100_2⟩ := cz3 BK375.out) | ((with_reducible refine gate_callee (f := 24) rfl ?_); refine goesL_ (some 12) rfl rfl Tryd.func24 kr rfl #[.agg #[.slice A0_0 l0_0.length c0_0, .slice A0_1 l0_1.length c0_1], .agg #[.int .i64 a1_0, .slice A1_1 l1_1.length c1_1, .slice A1_2 l1_2.length c1_2]] rfl ga ?_; (with_reducible refine (payload_Check.calls k _ _ l0_0 _ _ l0_1 a1_0 _ _ l1_1 _ _ l1_2 t376 _ ?side1 ?side2 ?side3 ?side4 ?side5 ?side6 ?side7 ?side8 ?side9 A3.out).mono ?_); (case side1 => repeat (first | exact (Kd.C_below HR0_0.out HB.out) | (with_reducible refine Kd.C_alloc ?_ _) | (with_reducible refine Kd.C_drewN ?_ _) | (with_reducible refine Kd.C_drew ?_))); (case side2 => exact HC0_0.out); (case side3 => repeat (first | exact (Kd.C_below HR0_1.out HB.out) | (with_reducible refine Kd.C_alloc ?_ _) | (with_reducible refine Kd.C_drewN ?_ _) | (with_reducible refine Kd.C_drew ?_))); (case side4 => exact HC0_1.out); (case side5 => repeat (first | exact (Kd.C_below HR1_1.out HB.out) | (with_reducible refine Kd.C_alloc ?_ _) | (with_reducible refine Kd.C_drewN ?_ _) | (with_reducible refine Kd.C_drew ?_))); (case side6 => exact HC1_1.out); (case side7 => repeat (first | exact (Kd.C_below HR1_2.out HB.out) | (with_reducible refine Kd.C_alloc ?_ _) | (with_reducible refine Kd.C_drewN ?_ _) | (with_reducible refine Kd.C_drew ?_))); (case side8 => exact HC1_2.out); (case side9 => exact LaidU.below HU.out (bl HB.out)); rintro e w101 ⟨rfl, hb⟩; refine ⟨_, rfl, ?_⟩; replace BK374 := Aside0.mk (blk_below (pk BK374.out) hb); replace BK375 := Aside0.mk (blk_below (pk BK375.out) hb); replace HB := Aside0.mk (below_step (bl HB.out) hb); (try clear hb); (try clear hb2); (try clear hk); (try clear hi); obtain ⟨hcz102_0, hcz102_1, hfz102_0, hfz102_1⟩ := cz2 BK374.out; obtain ⟨hcz103_0, hcz103_1, hcz103_2, hfz103_0, hfz103_1, hfz103_2⟩ := cz3 BK375.out) | ((with_reducible refine gate_callee (f := 25) rfl ?_); refine goesL_ (some 16) rfl rfl Tryd.func25 kr rfl #[.agg #[.slice A0_0 l0_0.length c0_0, .slice A0_1 l0_1.length c0_1], .agg #[.int .i64 a1_0, .slice A1_1 l1_1.length c1_1, .slice A1_2 l1_2.length c1_2]] rfl ga ?_; (with_reducible refine (lodestarref05_Check.calls k _ _ l0_0 _ _ l0_1 a1_0 _ _ l1_1 _ _ l1_2 t377 _ ?side1 ?side2 ?side3 ?side4 ?side5 ?side6 ?side7 ?side8 A93.out).mono ?_); (case side1 => repeat (first | exact (Kd.C_below HR0_0.out HB.out) | (with_reducible refine Kd.C_alloc ?_ _) | (with_reducible refine Kd.C_drewN ?_ _) | (with_reducible refine Kd.C_drew ?_))); (case side2 => exact HC0_0.out); (case side3 => repeat (first | exact (Kd.C_below HR0_1.out HB.out) | (with_reducible refine Kd.C_alloc ?_ _) | (with_reducible refine Kd.C_drewN ?_ _) | (with_reducible refine Kd.C_drew ?_))); (case side4 => exact HC0_1.out); (case side5 => repeat (first | exact (Kd.C_below HR1_1.out HB.out) | (with_reducible refine Kd.C_alloc ?_ _) | (with_reducible refine Kd.C_drewN ?_ _) | (with_reducible refine Kd.C_drew ?_))); (case side6 => exact HC1_1.out); (case side7 => repeat (first | exact (Kd.C_below HR1_2.out HB.out) | (with_reducible refine Kd.C_alloc ?_ _) | (with_reducible refine Kd.C_drewN ?_ _) | (with_reducible refine Kd.C_drew ?_))); (case side8 => exact HC1_2.out); rintro e w104 ⟨rfl, hb⟩; refine ⟨_, rfl, ?_⟩; replace BK374 := Aside0.mk (blk_below (pk BK374.out) hb); replace BK375 := Aside0.mk (blk_below (pk BK375.out) hb); replace HB := Aside0.mk (below_step (bl HB.out) hb); (try clear hb); (try clear hb2); (try clear hk); (try clear hi)) | (go_at_call 12; (with_reducible refine (lodestarlaw05_awake.calls k  t378 _ ?side1 A95.out).mono ?_); (case side1 => exact LaidU.below HU.out (bl HB.out)); rintro e w105 ⟨rfl, hb⟩; replace BK374 := Aside0.mk (blk_below (pk BK374.out) hb); replace BK375 := Aside0.mk (blk_below (pk BK375.out) hb); replace HB := Aside0.mk (below_step (bl HB.out) hb); (try clear hb); (try clear hb2); (try clear hk); (try clear hi)))
   go_ret
   exact ⟨er1, bl HB.out⟩

end Go.Proofs.YtbeljekpknpadaaDoor.PPayU
