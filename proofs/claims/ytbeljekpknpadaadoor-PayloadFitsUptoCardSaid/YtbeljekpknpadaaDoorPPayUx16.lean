-- Written by a program of this session on top of the print: some functions by hand.
import Derived.Test.YtbeljekpknpadaaDoorPPayUx0
namespace Go.Proofs.YtbeljekpknpadaaDoor.PPayU
open Go.RowKit Go.Proofs.YtbeljekpknpadaaDoorW.PrintWords Go.Proofs.YtbeljekpknpadaaDoorW.PrintLast Go.Proofs.YtbeljekpknpadaaDoorW.PrintMore
attribute [local go_sem] max2_int min2_int max_two min_two max_three min_three max_four min_four   -- for this text's walks alone
set_option linter.unusedVariables false
set_option linter.unusedSimpArgs false

/-! ### lodestarref03_Rune: function 83 -/
mutual
def lodestarref03_Rune.j2 : Nat → ByteArray → Int → Int → Int → Option (Int × Int)
 | 0, _, _, _, _ => none
 | k + 1, x0, x5, x6, x7 => if (x0.size : Int) < x5 then (some (0, 0)) else (lodestarref03_Rune.l0 k x0 x5 x6 x7 1)
def lodestarref03_Rune.l0 : Nat → ByteArray → Int → Int → Int → Int → Option (Int × Int)
 | 0, _, _, _, _, _ => none
 | k + 1, x0, x5, x6, x7, x8 => if x8 < x5 then (if 0 ≤ x8 then (if x8 < (x0.size : Int) then (if (wrap64 (bt x0 x8)) < 128 then (some (0, 0)) else (if (wrap64 (bt x0 x8)) ≥ 192 then (some (0, 0)) else (lodestarref03_Rune.l0 k x0 x5 x6 (wrap64 ((wrap64 ((wrap64 (x7 * 64)) + (wrap64 (bt x0 x8)))) - 128)) (wrap64 (x8 + 1))))) else (none)) else (none)) else (if x7 < x6 then (some (0, 0)) else (if x7 > 1114111 then (some (0, 0)) else (if x7 ≥ 55296 then (if x7 < 57344 then (some (0, 0)) else (some (x5, x7))) else (some (x5, x7)))))
def lodestarref03_Rune.j0 : Nat → ByteArray → Int → Bool → Option (Int × Int)
 | 0, _, _, _ => none
 | k + 1, x0, x4, x19 => if x19 = true then (lodestarref03_Rune.j2 k x0 2 128 (wrap64 (x4 - 192))) else (if x4 ≥ 224 then (lodestarref03_Rune.j1 k x0 x4 (decide (x4 < 240))) else (lodestarref03_Rune.j1 k x0 x4 false))
def lodestarref03_Rune.j1 : Nat → ByteArray → Int → Bool → Option (Int × Int)
 | 0, _, _, _ => none
 | k + 1, x0, x4, x28 => if x28 = true then (lodestarref03_Rune.j2 k x0 3 2048 (wrap64 (x4 - 224))) else (if x4 ≥ 240 then (if x4 < 248 then (lodestarref03_Rune.j2 k x0 4 65536 (wrap64 (x4 - 240))) else (some (0, 0))) else (some (0, 0)))
end
def lodestarref03_Rune.f (k : Nat) (a0 : ByteArray) : Option (Int × Int) := if a0.toList = ([] : List UInt8) then (some (0, 0)) else (if 0 < (a0.size : Int) then (if (wrap64 (bt a0 0)) < 128 then (some (1, wrap64 (bt a0 0))) else (if (wrap64 (bt a0 0)) ≥ 192 then (lodestarref03_Rune.j0 k a0 (wrap64 (bt a0 0)) (decide ((wrap64 (bt a0 0)) < 224))) else (lodestarref03_Rune.j0 k a0 (wrap64 (bt a0 0)) false))) else (none))
theorem lodestarref03_Rune.mono_l : ∀ k, (∀ y0 y1 y2 y3, LeO (lodestarref03_Rune.j2 k y0 y1 y2 y3) (lodestarref03_Rune.j2 (k + 1) y0 y1 y2 y3)) ∧ (∀ y0 y1 y2 y3 y4, LeO (lodestarref03_Rune.l0 k y0 y1 y2 y3 y4) (lodestarref03_Rune.l0 (k + 1) y0 y1 y2 y3 y4)) ∧ (∀ y0 y1 y2, LeO (lodestarref03_Rune.j0 k y0 y1 y2) (lodestarref03_Rune.j0 (k + 1) y0 y1 y2)) ∧ (∀ y0 y1 y2, LeO (lodestarref03_Rune.j1 k y0 y1 y2) (lodestarref03_Rune.j1 (k + 1) y0 y1 y2))
 | 0 => ⟨fun _ _ _ _ r h => by simp [lodestarref03_Rune.j2] at h, fun _ _ _ _ _ r h => by simp [lodestarref03_Rune.l0] at h, fun _ _ _ r h => by simp [lodestarref03_Rune.j0] at h, fun _ _ _ r h => by simp [lodestarref03_Rune.j1] at h⟩
 | k + 1 => by
  obtain ⟨ih0, ih1, ih2, ih3⟩ := lodestarref03_Rune.mono_l k
  refine ⟨?_, ?_, ?_, ?_⟩
  all_goals intros
  all_goals first | unfold lodestarref03_Rune.j2 | unfold lodestarref03_Rune.l0 | unfold lodestarref03_Rune.j0 | unfold lodestarref03_Rune.j1
  all_goals repeat' first
   | (with_reducible exact ih0 _ _ _ _)
   | (with_reducible exact ih1 _ _ _ _ _)
   | (with_reducible exact ih2 _ _ _)
   | (with_reducible exact ih3 _ _ _)
   | (with_reducible exact LeO.refl _)
   | (with_reducible exact LeO.none _)
   | (with_reducible refine LeO.ite ?_ ?_)
   | (with_reducible refine LeO.bind ?_ (fun _ => ?_))
   | exact ih0 _ _ _ _
   | exact ih1 _ _ _ _ _
   | exact ih2 _ _ _
   | exact ih3 _ _ _
   | exact LeO.none _
   | refine LeO.ite ?_ ?_
   | refine LeO.bind ?_ (fun _ => ?_)
theorem lodestarref03_Rune.mono : ∀ a0 k, LeO (lodestarref03_Rune.f k a0) (lodestarref03_Rune.f (k + 1) a0) := by
 intro a0 k
 obtain ⟨ih0, ih1, ih2, ih3⟩ := lodestarref03_Rune.mono_l k
 unfold lodestarref03_Rune.f
 repeat' first
   | (with_reducible exact ih0 _ _ _ _)
   | (with_reducible exact ih1 _ _ _ _ _)
   | (with_reducible exact ih2 _ _ _)
   | (with_reducible exact ih3 _ _ _)
   | (with_reducible exact LeO.refl _)
   | (with_reducible exact LeO.none _)
   | (with_reducible refine LeO.ite ?_ ?_)
   | (with_reducible refine LeO.bind ?_ (fun _ => ?_))
   | exact ih0 _ _ _ _
   | exact ih1 _ _ _ _ _
   | exact ih2 _ _ _
   | exact ih3 _ _ _
   | exact LeO.none _
   | refine LeO.ite ?_ ?_
   | refine LeO.bind ?_ (fun _ => ?_)
set_option maxHeartbeats 8000000 in
set_option maxRecDepth 100000 in
theorem lodestarref03_Rune.calls (k : Nat) (a0 : ByteArray) (r1 : Int) (r2 : Int) (w : World) (h : lodestarref03_Rune.f k a0 = some (r1, r2)) :
  Calls Tryd.prog 83 #[.string a0] w fun e w' => e = .returned (.tuple #[.int .i64 r1, .int .i64 r2]) ∧ Drawn0 w w' := by
 have H : (if a0.toList = ([] : List UInt8) then (some (0, 0)) else (if 0 < (a0.size : Int) then (if (wrap64 (bt a0 0)) < 128 then (some (1, wrap64 (bt a0 0))) else (if (wrap64 (bt a0 0)) ≥ 192 then (lodestarref03_Rune.j0 k a0 (wrap64 (bt a0 0)) (decide ((wrap64 (bt a0 0)) < 224))) else (lodestarref03_Rune.j0 k a0 (wrap64 (bt a0 0)) false))) else (none))) = some (r1, r2) := h
 clear h
 by_cases c2 : a0.toList = ([] : List UInt8)
 ·rw [if_pos c2] at H
  have c2b0 : (a0.toList == ([] : List UInt8)) = true := beq_iff_eq.mpr c2
  have c2b1 : (a0.toList != ([] : List UInt8)) = false := bne_eq_false_iff_eq.mpr c2
  clear c2
  simp only [Option.some.injEq, Prod.mk.injEq] at H
  obtain ⟨rfl, rfl⟩ := H
  go_enter Tryd.func83, Tryd.ntmps83
  go_wp2
  go_ret2
  exact ⟨by first | rfl | (simp; done) | (simp [*]; done), by repeat (first | exact Drawn0.refl _ | apply Drawn0.step)⟩
 ·rw [if_neg c2] at H
  have c2b0 : (a0.toList == ([] : List UInt8)) = false := beq_eq_false_iff_ne.mpr c2
  have c2b1 : (a0.toList != ([] : List UInt8)) = true := bne_iff_ne.mpr c2
  by_cases c3 : 0 < (a0.size : Int)
  ·rw [if_pos c3] at H
   have c3b0 : decide (0 < (a0.size : Int)) = true := decide_eq_true c3
   have c3b1 : decide (0 < a0.size) = true := decide_eq_true (by omega)
   clear c3
   have HC5 := Aside0.mk H
   clear H
   have p4 : 0 ≤ (0 : Int) := (by omega)
   have q4 : 0 < a0.size := (by have : (0 : Int) < (a0.size : Int) := of_decide_eq_true ha; omega)
   have hx4 : ∀ h : 0 < a0.size, ((a0[0]'h).toNat : Int) = bt a0 0 := bt_at a0 0
   clear p4
   have qi4 : (0 < (a0.size : Int)) = True := eq_true (of_decide_eq_true ha)
   replace q4 := eq_true q4
   go_enter Tryd.func83, Tryd.ntmps83
   go_upto_block 0 with (fail)
   go_cut [5, 6, 7] (fun v5 v6 v7 wc => ∃ (kq : Nat) (x5_4 : Int) (x6_4 : Int) (x7_4 : Int), v5 = .int .i64 x5_4 ∧ v6 = .int .i64 x6_4 ∧ v7 = .int .i64 x7_4 ∧ Aside0 (lodestarref03_Rune.j2 kq a0 x5_4 x6_4 x7_4 = some (r1, r2)) ∧ Aside0 (kq ≤ k) ∧ Drawn0 w wc)
   case first =>
    have H := HC5.out
    clear HC5
    by_cases c6 : (wrap64 (bt a0 0)) < 128
    ·rw [if_pos c6] at H
     have c6b0 : decide ((wrap64 (bt a0 0)) < 128) = true := decide_eq_true c6
     clear c6
     (first | rw [c6b0] | (simp only [i64_w, i32_w]; rw [c6b0]) | skip)
     simp only [Option.some.injEq, Prod.mk.injEq] at H
     obtain ⟨rfl, rfl⟩ := H
     go_wp2
     go_ret2
     exact ⟨by first | rfl | (simp; done) | (simp [*]; done), by repeat (first | exact Drawn0.refl _ | apply Drawn0.step)⟩
    ·rw [if_neg c6] at H
     have c6b0 : decide ((wrap64 (bt a0 0)) < 128) = false := decide_eq_false c6
     clear c6
     (first | rw [c6b0] | (simp only [i64_w, i32_w]; rw [c6b0]) | skip)
     have HC7 := Aside0.mk H
     clear H
     go_upto_region 8 with (fail)
     go_cut [19] (fun v19 wc => ∃ (kq : Nat) (x19_6 : Bool), v19 = .bool x19_6 ∧ Aside0 (lodestarref03_Rune.j0 kq a0 (wrap64 (bt a0 0)) x19_6 = some (r1, r2)) ∧ Aside0 (kq ≤ k) ∧ Drawn0 w wc)
     case first =>
      have H := HC7.out
      clear HC7
      by_cases c8 : (wrap64 (bt a0 0)) ≥ 192
      ·rw [if_pos c8] at H
       have c8b0 : decide (192 ≤ (wrap64 (bt a0 0))) = true := decide_eq_true c8
       clear c8
       (first | rw [c8b0] | (simp only [i64_w, i32_w]; rw [c8b0]) | skip)
       have H' := Aside0.mk H
       clear H
       go_wp2
       go_meet
       case rel => exact ⟨_, (decide ((wrap64 (bt a0 0)) < 224)), hsr, H', ⟨by first | omega | exact Nat.le_refl _⟩, by repeat (first | exact Drawn0.refl _ | apply Drawn0.step)⟩
      ·rw [if_neg c8] at H
       have c8b0 : decide (192 ≤ (wrap64 (bt a0 0))) = false := decide_eq_false c8
       clear c8
       (first | rw [c8b0] | (simp only [i64_w, i32_w]; rw [c8b0]) | skip)
       have H' := Aside0.mk H
       clear H
       go_wp2
       go_meet
       case rel => exact ⟨_, (false), hsr, H', ⟨by first | omega | exact Nat.le_refl _⟩, by repeat (first | exact Drawn0.refl _ | apply Drawn0.step)⟩
     case rest =>
      clear HC7
      try clear c2
      try clear c2b0
      try clear c2b1
      try clear p2
      try clear c3
      try clear c3b0
      try clear c3b1
      try clear p4
      try clear q4
      try clear hx4
      try clear qi4
      try clear c6
      try clear c6b0
      try clear p6
      try clear c8
      try clear c8b0
      try clear p4
      try clear q4
      obtain ⟨kq, x19_6, rfl, HA, HJ6, ⟨mc6, rfl⟩⟩ := hcut
      cases kq with
      | zero => exact absurd HA.out (by simp [lodestarref03_Rune.j0])
      | succ kj6 =>
       have H := HA.out
       clear HA
       simp only [lodestarref03_Rune.j0] at H
       by_cases c9 : x19_6 = true
       ·subst c9
        have H1 : (lodestarref03_Rune.j2 kj6 a0 2 128 (wrap64 ((wrap64 (bt a0 0)) - 192))) = some (r1, r2) := by rw [if_pos rfl] at H; exact H
        clear H
        have H := H1
        clear H1
        have H' := Aside0.mk H
        clear H
        go_wp2
        go_meet
        case rel => exact ⟨_, (2), (128), (wrap64 ((wrap64 (bt a0 0)) - 192)), hsr, hsr, hsr, H', ⟨by have := HJ6.out; first | omega | exact Nat.le_refl _⟩, by repeat (first | exact Drawn0.refl _ | apply Drawn0.step)⟩
       ·replace c9 := Bool.eq_false_iff.mpr c9
        subst c9
        have H1 : (if (wrap64 (bt a0 0)) ≥ 224 then (lodestarref03_Rune.j1 kj6 a0 (wrap64 (bt a0 0)) (decide ((wrap64 (bt a0 0)) < 240))) else (lodestarref03_Rune.j1 kj6 a0 (wrap64 (bt a0 0)) false)) = some (r1, r2) := by rw [if_neg (show ¬ (false = true) by decide)] at H; exact H
        clear H
        have H := H1
        clear H1
        have HC10 := Aside0.mk H
        clear H
        go_upto_region 10 with (fail)
        go_cut [28] (fun v28 wc => ∃ (kq : Nat) (x28_9 : Bool), v28 = .bool x28_9 ∧ Aside0 (lodestarref03_Rune.j1 kq a0 (wrap64 (bt a0 0)) x28_9 = some (r1, r2)) ∧ Aside0 (kq ≤ kj6) ∧ Drawn0 w wc)
        case first =>
         have H := HC10.out
         clear HC10
         by_cases c11 : (wrap64 (bt a0 0)) ≥ 224
         ·rw [if_pos c11] at H
          have c11b0 : decide (224 ≤ (wrap64 (bt a0 0))) = true := decide_eq_true c11
          clear c11
          (first | rw [c11b0] | (simp only [i64_w, i32_w]; rw [c11b0]) | skip)
          have H' := Aside0.mk H
          clear H
          go_wp2
          go_meet
          case rel => exact ⟨_, (decide ((wrap64 (bt a0 0)) < 240)), hsr, H', ⟨by have := HJ6.out; first | omega | exact Nat.le_refl _⟩, by repeat (first | exact Drawn0.refl _ | apply Drawn0.step)⟩
         ·rw [if_neg c11] at H
          have c11b0 : decide (224 ≤ (wrap64 (bt a0 0))) = false := decide_eq_false c11
          clear c11
          (first | rw [c11b0] | (simp only [i64_w, i32_w]; rw [c11b0]) | skip)
          have H' := Aside0.mk H
          clear H
          go_wp2
          go_meet
          case rel => exact ⟨_, (false), hsr, H', ⟨by have := HJ6.out; first | omega | exact Nat.le_refl _⟩, by repeat (first | exact Drawn0.refl _ | apply Drawn0.step)⟩
        case rest =>
         clear HC10
         try clear c1
         try clear c2
         try clear c2b0
         try clear c2b1
         try clear p2
         try clear c3
         try clear c3b0
         try clear c3b1
         try clear p4
         try clear q4
         try clear hx4
         try clear qi4
         try clear c6
         try clear c6b0
         try clear p6
         try clear c8
         try clear c8b0
         try clear c9
         try clear c11
         try clear c11b0
         try clear p2
         try clear p4
         try clear p6
         try clear q4
         obtain ⟨kq, x28_9, rfl, HA, HJ9, ⟨mc9, rfl⟩⟩ := hcut
         cases kq with
         | zero => exact absurd HA.out (by simp [lodestarref03_Rune.j1])
         | succ kj9 =>
          have H := HA.out
          clear HA
          simp only [lodestarref03_Rune.j1] at H
          by_cases c12 : x28_9 = true
          ·subst c12
           have H1 : (lodestarref03_Rune.j2 kj9 a0 3 2048 (wrap64 ((wrap64 (bt a0 0)) - 224))) = some (r1, r2) := by rw [if_pos rfl] at H; exact H
           clear H
           have H := H1
           clear H1
           have H' := Aside0.mk H
           clear H
           go_wp2
           go_meet
           case rel => exact ⟨_, (3), (2048), (wrap64 ((wrap64 (bt a0 0)) - 224)), hsr, hsr, hsr, H', ⟨by have := HJ6.out; have := HJ9.out; first | omega | exact Nat.le_refl _⟩, by repeat (first | exact Drawn0.refl _ | apply Drawn0.step)⟩
          ·replace c12 := Bool.eq_false_iff.mpr c12
           subst c12
           have H1 : (if (wrap64 (bt a0 0)) ≥ 240 then (if (wrap64 (bt a0 0)) < 248 then (lodestarref03_Rune.j2 kj9 a0 4 65536 (wrap64 ((wrap64 (bt a0 0)) - 240))) else (some (0, 0))) else (some (0, 0))) = some (r1, r2) := by rw [if_neg (show ¬ (false = true) by decide)] at H; exact H
           clear H
           have H := H1
           clear H1
           by_cases c13 : (wrap64 (bt a0 0)) ≥ 240
           ·rw [if_pos c13] at H
            have c13b0 : decide (240 ≤ (wrap64 (bt a0 0))) = true := decide_eq_true c13
            clear c13
            by_cases c14 : (wrap64 (bt a0 0)) < 248
            ·rw [if_pos c14] at H
             have c14b0 : decide ((wrap64 (bt a0 0)) < 248) = true := decide_eq_true c14
             clear c14
             have H' := Aside0.mk H
             clear H
             go_wp2
             go_meet
             case rel => exact ⟨_, (4), (65536), (wrap64 ((wrap64 (bt a0 0)) - 240)), hsr, hsr, hsr, H', ⟨by have := HJ6.out; have := HJ9.out; first | omega | exact Nat.le_refl _⟩, by repeat (first | exact Drawn0.refl _ | apply Drawn0.step)⟩
            ·rw [if_neg c14] at H
             have c14b0 : decide ((wrap64 (bt a0 0)) < 248) = false := decide_eq_false c14
             clear c14
             simp only [Option.some.injEq, Prod.mk.injEq] at H
             obtain ⟨rfl, rfl⟩ := H
             go_wp2
             go_ret2
             exact ⟨by first | rfl | (simp; done) | (simp [*]; done), by repeat (first | exact Drawn0.refl _ | apply Drawn0.step)⟩
           ·rw [if_neg c13] at H
            have c13b0 : decide (240 ≤ (wrap64 (bt a0 0))) = false := decide_eq_false c13
            clear c13
            simp only [Option.some.injEq, Prod.mk.injEq] at H
            obtain ⟨rfl, rfl⟩ := H
            go_wp2
            go_ret2
            exact ⟨by first | rfl | (simp; done) | (simp [*]; done), by repeat (first | exact Drawn0.refl _ | apply Drawn0.step)⟩
   case rest =>
    clear HC5
    try clear c1
    try clear c2
    try clear c2b0
    try clear c2b1
    try clear p2
    try clear c3
    try clear c3b0
    try clear c3b1
    try clear p4
    try clear q4
    try clear hx4
    try clear qi4
    try clear c6
    try clear c6b0
    try clear p6
    try clear c8
    try clear c8b0
    try clear c9
    try clear c11
    try clear c11b0
    try clear c12
    try clear c13
    try clear c13b0
    try clear c14
    try clear c14b0
    try clear p2
    try clear p4
    try clear p6
    try clear q4
    obtain ⟨kq, x5_4, x6_4, x7_4, rfl, rfl, rfl, HA, HJ4, ⟨mc4, rfl⟩⟩ := hcut
    cases kq with
    | zero => exact absurd HA.out (by simp [lodestarref03_Rune.j2])
    | succ kj4 =>
     have H := HA.out
     clear HA
     simp only [lodestarref03_Rune.j2] at H
     by_cases c15 : (a0.size : Int) < x5_4
     ·rw [if_pos c15] at H
      have c15b0 : decide ((a0.size : Int) < x5_4) = true := decide_eq_true c15
      clear c15
      simp only [Option.some.injEq, Prod.mk.injEq] at H
      obtain ⟨rfl, rfl⟩ := H
      go_wp2
      go_ret2
      exact ⟨by first | rfl | (simp; done) | (simp [*]; done), by repeat (first | exact Drawn0.refl _ | apply Drawn0.step)⟩
     ·rw [if_neg c15] at H
      have c15b0 : decide ((a0.size : Int) < x5_4) = false := decide_eq_false c15
      clear c15
      have H' := Aside0.mk H
      clear H
      go_wp2
      go_loopg [7, 8] kj4 (fun kq v7 v8 w' => ∃ (x7_2 : Int) (x8_2 : Int), v7 = .int .i64 x7_2 ∧ v8 = .int .i64 x8_2 ∧ Aside0 (lodestarref03_Rune.l0 kq a0 x5_4 x6_4 x7_2 x8_2 = some (r1, r2)) ∧ Aside0 (kq ≤ kj4) ∧ Drawn0 w w')
      case atStart => exact ⟨(x7_4), (1), hsr, hsr, H', ⟨Nat.le_refl _⟩, by repeat (first | exact Drawn0.refl _ | apply Drawn0.step)⟩
      case round =>
       clear H'
       try clear c1
       try clear c2
       try clear c2b0
       try clear c2b1
       try clear p2
       try clear c3
       try clear c3b0
       try clear c3b1
       try clear c4
       try clear p4
       try clear q4
       try clear hx4
       try clear qi4
       try clear c6
       try clear c6b0
       try clear p6
       try clear c8
       try clear c8b0
       try clear c9
       try clear c11
       try clear c11b0
       try clear c12
       try clear c13
       try clear c13b0
       try clear c14
       try clear c14b0
       try clear c15
       try clear c15b0
       try clear p2
       try clear p4
       try clear p6
       try clear q4
       obtain ⟨x7_2, x8_2, rfl, rfl, HA, HK2, ⟨m2, rfl⟩⟩ := hrel
       cases gk with
       | zero => exact absurd HA.out (by simp [lodestarref03_Rune.l0])
       | succ k2 =>
        have H := HA.out
        clear HA
        simp only [lodestarref03_Rune.l0] at H
        by_cases c16 : x8_2 < x5_4
        ·rw [if_pos c16] at H
         have c16b0 : decide (x8_2 < x5_4) = true := decide_eq_true c16
         clear c16
         by_cases c17 : 0 ≤ x8_2
         ·rw [if_pos c17] at H
          have c17b0 : decide (0 ≤ x8_2) = true := decide_eq_true c17
          clear c17
          by_cases c18 : x8_2 < (a0.size : Int)
          ·rw [if_pos c18] at H
           have c18b0 : decide (x8_2 < (a0.size : Int)) = true := decide_eq_true c18
           clear c18
           by_cases c20 : (wrap64 (bt a0 x8_2)) < 128
           ·rw [if_pos c20] at H
            have c20b0 : decide ((wrap64 (bt a0 x8_2)) < 128) = true := decide_eq_true c20
            clear c20
            simp only [Option.some.injEq, Prod.mk.injEq] at H
            obtain ⟨rfl, rfl⟩ := H
            have p19 : 0 ≤ (x8_2 : Int) := of_decide_eq_true ha
            have q19 : x8_2 < (a0.size : Int) := of_decide_eq_true ha
            have hx19 := bt_at a0 x8_2
            replace p19 := eq_true p19
            replace q19 := eq_true q19
            go_wp2
            go_ret2
            exact ⟨by first | rfl | (simp; done) | (simp [*]; done), by repeat (first | exact Drawn0.refl _ | apply Drawn0.step)⟩
           ·rw [if_neg c20] at H
            have c20b0 : decide ((wrap64 (bt a0 x8_2)) < 128) = false := decide_eq_false c20
            clear c20
            by_cases c21 : (wrap64 (bt a0 x8_2)) ≥ 192
            ·rw [if_pos c21] at H
             have c21b0 : decide (192 ≤ (wrap64 (bt a0 x8_2))) = true := decide_eq_true c21
             clear c21
             simp only [Option.some.injEq, Prod.mk.injEq] at H
             obtain ⟨rfl, rfl⟩ := H
             have p19 : 0 ≤ (x8_2 : Int) := of_decide_eq_true ha
             have q19 : x8_2 < (a0.size : Int) := of_decide_eq_true ha
             have hx19 := bt_at a0 x8_2
             replace p19 := eq_true p19
             replace q19 := eq_true q19
             go_wp2
             go_ret2
             exact ⟨by first | rfl | (simp; done) | (simp [*]; done), by repeat (first | exact Drawn0.refl _ | apply Drawn0.step)⟩
            ·rw [if_neg c21] at H
             have c21b0 : decide (192 ≤ (wrap64 (bt a0 x8_2))) = false := decide_eq_false c21
             clear c21
             have H' := Aside0.mk H
             clear H
             have p19 : 0 ≤ (x8_2 : Int) := of_decide_eq_true ha
             have q19 : x8_2 < (a0.size : Int) := of_decide_eq_true ha
             have hx19 := bt_at a0 x8_2
             replace p19 := eq_true p19
             replace q19 := eq_true q19
             go_wp2
             go_roundg k2
             case measure => have := HJ4.out; have := HK2.out; omega
             case rel => exact ⟨(wrap64 ((wrap64 ((wrap64 (x7_2 * 64)) + (wrap64 (bt a0 x8_2)))) - 128)), (wrap64 (x8_2 + 1)), hsr, hsr, H', ⟨by have := HJ4.out; have := HK2.out; omega⟩, by repeat (first | exact Drawn0.refl _ | apply Drawn0.step)⟩
          ·rw [if_neg c18] at H
           exact absurd H (by simp)
         ·rw [if_neg c17] at H
          exact absurd H (by simp)
        ·rw [if_neg c16] at H
         have c16b0 : decide (x8_2 < x5_4) = false := decide_eq_false c16
         clear c16
         by_cases c22 : x7_2 < x6_4
         ·rw [if_pos c22] at H
          have c22b0 : decide (x7_2 < x6_4) = true := decide_eq_true c22
          clear c22
          simp only [Option.some.injEq, Prod.mk.injEq] at H
          obtain ⟨rfl, rfl⟩ := H
          go_wp2
          go_ret2
          exact ⟨by first | rfl | (simp; done) | (simp [*]; done), by repeat (first | exact Drawn0.refl _ | apply Drawn0.step)⟩
         ·rw [if_neg c22] at H
          have c22b0 : decide (x7_2 < x6_4) = false := decide_eq_false c22
          clear c22
          by_cases c23 : x7_2 > 1114111
          ·rw [if_pos c23] at H
           have c23b0 : decide (1114111 < x7_2) = true := decide_eq_true c23
           clear c23
           simp only [Option.some.injEq, Prod.mk.injEq] at H
           obtain ⟨rfl, rfl⟩ := H
           go_wp2
           go_ret2
           exact ⟨by first | rfl | (simp; done) | (simp [*]; done), by repeat (first | exact Drawn0.refl _ | apply Drawn0.step)⟩
          ·rw [if_neg c23] at H
           have c23b0 : decide (1114111 < x7_2) = false := decide_eq_false c23
           clear c23
           by_cases c24 : x7_2 ≥ 55296
           ·rw [if_pos c24] at H
            have c24b0 : decide (55296 ≤ x7_2) = true := decide_eq_true c24
            clear c24
            by_cases c25 : x7_2 < 57344
            ·rw [if_pos c25] at H
             have c25b0 : decide (x7_2 < 57344) = true := decide_eq_true c25
             clear c25
             simp only [Option.some.injEq, Prod.mk.injEq] at H
             obtain ⟨rfl, rfl⟩ := H
             go_wp2
             go_ret2
             exact ⟨by first | rfl | (simp; done) | (simp [*]; done), by repeat (first | exact Drawn0.refl _ | apply Drawn0.step)⟩
            ·rw [if_neg c25] at H
             have c25b0 : decide (x7_2 < 57344) = false := decide_eq_false c25
             clear c25
             simp only [Option.some.injEq, Prod.mk.injEq] at H
             obtain ⟨rfl, rfl⟩ := H
             go_wp2
             go_ret2
             exact ⟨by first | rfl | (simp; done) | (simp [*]; done), by repeat (first | exact Drawn0.refl _ | apply Drawn0.step)⟩
           ·rw [if_neg c24] at H
            have c24b0 : decide (55296 ≤ x7_2) = false := decide_eq_false c24
            clear c24
            simp only [Option.some.injEq, Prod.mk.injEq] at H
            obtain ⟨rfl, rfl⟩ := H
            go_wp2
            go_ret2
            exact ⟨by first | rfl | (simp; done) | (simp [*]; done), by repeat (first | exact Drawn0.refl _ | apply Drawn0.step)⟩
  ·rw [if_neg c3] at H
   exact absurd H (by simp)

/-! ### lodestarref03_Runes: function 68 -/
def lodestarref03_Runes.l0 : Nat → ByteArray → Option (Bool)
 | 0, _ => none
 | k + 1, x0 => if x0.toList = ([] : List UInt8) then (some true) else ((lodestarref03_Rune.f k x0).bind fun bt326 => (if bt326.1 = 0 then (some false) else (if 0 ≤ bt326.1 then (if bt326.1 ≤ (x0.size : Int) then (lodestarref03_Runes.l0 k (x0.extract (bt326.1 : Int).toNat x0.size)) else (none)) else (none))))
def lodestarref03_Runes.f (k : Nat) (a0 : ByteArray) : Option (Bool) := lodestarref03_Runes.l0 k a0
theorem lodestarref03_Runes.mono_l : ∀ k, (∀ y0, LeO (lodestarref03_Runes.l0 k y0) (lodestarref03_Runes.l0 (k + 1) y0))
 | 0 => fun _ r h => by simp [lodestarref03_Runes.l0] at h
 | k + 1 => by
  have ih0 := lodestarref03_Runes.mono_l k
  ·intro y0
   unfold lodestarref03_Runes.l0
   repeat' first
   | (with_reducible exact ih0 _)
   | (with_reducible exact lodestarref03_Rune.mono _ _)
   | (with_reducible exact LeO.refl _)
   | (with_reducible exact LeO.none _)
   | (with_reducible refine LeO.ite ?_ ?_)
   | (with_reducible refine LeO.bind ?_ (fun _ => ?_))
   | exact ih0 _
   | exact lodestarref03_Rune.mono _ _
   | exact LeO.none _
   | refine LeO.ite ?_ ?_
   | refine LeO.bind ?_ (fun _ => ?_)
theorem lodestarref03_Runes.mono : ∀ a0 k, LeO (lodestarref03_Runes.f k a0) (lodestarref03_Runes.f (k + 1) a0) := by
 intro a0 k
 have ih0 := lodestarref03_Runes.mono_l k
 unfold lodestarref03_Runes.f
 repeat' first
   | (with_reducible exact ih0 _)
   | (with_reducible exact lodestarref03_Rune.mono _ _)
   | (with_reducible exact LeO.refl _)
   | (with_reducible exact LeO.none _)
   | (with_reducible refine LeO.ite ?_ ?_)
   | (with_reducible refine LeO.bind ?_ (fun _ => ?_))
   | exact ih0 _
   | exact lodestarref03_Rune.mono _ _
   | exact LeO.none _
   | refine LeO.ite ?_ ?_
   | refine LeO.bind ?_ (fun _ => ?_)
set_option maxHeartbeats 8000000 in
set_option maxRecDepth 100000 in
theorem lodestarref03_Runes.calls (k : Nat) (a0 : ByteArray) (r : Bool) (w : World) (h : lodestarref03_Runes.f k a0 = some r) :
  Calls Tryd.prog 68 #[.string a0] w fun e w' => e = .returned (.bool r) ∧ Drawn0 w w' := by
 have H : (lodestarref03_Runes.l0 k a0) = some r := h
 clear h
 have H' := Aside0.mk H
 clear H
 go_enter Tryd.func68, Tryd.ntmps68
 go_wp2
 go_loopg [0] k (fun kq v0 w' => ∃ (x0_1 : ByteArray), v0 = .string x0_1 ∧ Aside0 (lodestarref03_Runes.l0 kq x0_1 = some r) ∧ Aside0 (kq ≤ k) ∧ Drawn0 w w')
 case atStart => exact ⟨(a0), hsr, H', ⟨Nat.le_refl _⟩, by repeat (first | exact Drawn0.refl _ | apply Drawn0.step)⟩
 case round =>
  clear H'
  obtain ⟨x0_1, rfl, HA, HK1, ⟨m1, rfl⟩⟩ := hrel
  cases gk with
  | zero => exact absurd HA.out (by simp [lodestarref03_Runes.l0])
  | succ k1 =>
   have H := HA.out
   clear HA
   simp only [lodestarref03_Runes.l0] at H
   by_cases c2 : x0_1.toList = ([] : List UInt8)
   ·rw [if_pos c2] at H
    have c2b0 : (x0_1.toList == ([] : List UInt8)) = true := beq_iff_eq.mpr c2
    have c2b1 : (x0_1.toList != ([] : List UInt8)) = false := bne_eq_false_iff_eq.mpr c2
    clear c2
    obtain rfl := Option.some.inj H
    go_wp2
    go_ret
    exact ⟨by first | rfl | (simp; done) | (simp [*]; done), by repeat (first | exact Drawn0.refl _ | apply Drawn0.step)⟩
   ·rw [if_neg c2] at H
    have c2b0 : (x0_1.toList == ([] : List UInt8)) = false := beq_eq_false_iff_ne.mpr c2
    have c2b1 : (x0_1.toList != ([] : List UInt8)) = true := bne_iff_ne.mpr c2
    replace H := Option.bind_eq_some_iff.mp H
    obtain ⟨⟨t326, t327⟩, A30, H⟩ := H
    replace H : (if t326 = 0 then (some false) else (if 0 ≤ t326 then (if t326 ≤ (x0_1.size : Int) then (lodestarref03_Runes.l0 k1 (x0_1.extract (t326 : Int).toNat x0_1.size)) else (none)) else (none))) = some r := H
    have A3 := Aside0.mk A30
    clear A30
    by_cases c4 : t326 = 0
    ·rw [if_pos c4] at H
     have c4b0 : (t326 == 0) = true := beq_iff_eq.mpr c4
     have c4b1 : (t326 != 0) = false := bne_eq_false_iff_eq.mpr c4
     clear c4
     obtain rfl := Option.some.inj H
     go_wp2_with (first | ((with_reducible refine gate_callee (f := 83) rfl ?_); refine goesL_ (some 9) rfl rfl Tryd.func83 kr rfl #[.string x0_1] rfl ga ?_; (with_reducible refine (lodestarref03_Rune.calls k1 x0_1 t326 t327 _ A3.out).mono ?_); rintro e w' ⟨rfl, ⟨nd, rfl⟩⟩; refine ⟨_, rfl, ?_⟩))
     go_ret
     exact ⟨by first | rfl | (simp; done) | (simp [*]; done), by repeat (first | exact Drawn0.refl _ | apply Drawn0.step)⟩
    ·rw [if_neg c4] at H
     have c4b0 : (t326 == 0) = false := beq_eq_false_iff_ne.mpr c4
     have c4b1 : (t326 != 0) = true := bne_iff_ne.mpr c4
     by_cases c5 : 0 ≤ t326
     ·rw [if_pos c5] at H
      have c5b0 := eq_true c5
      have c5b1 : decide (0 ≤ t326) = true := decide_eq_true c5
      clear c5
      by_cases c6 : t326 ≤ (x0_1.size : Int)
      ·rw [if_pos c6] at H
       have c6b0 := eq_true c6
       have c6b1 : decide (t326 ≤ (x0_1.size : Int)) = true := decide_eq_true c6
       clear c6
       have H' := Aside0.mk H
       clear H
       go_wp2_with (first | ((with_reducible refine gate_callee (f := 83) rfl ?_); refine goesL_ (some 9) rfl rfl Tryd.func83 kr rfl #[.string x0_1] rfl ga ?_; (with_reducible refine (lodestarref03_Rune.calls k1 x0_1 t326 t327 _ A3.out).mono ?_); rintro e w' ⟨rfl, ⟨nd, rfl⟩⟩; refine ⟨_, rfl, ?_⟩))
       go_roundg k1
       case measure => have := HK1.out; omega
       case rel => exact ⟨(x0_1.extract (t326 : Int).toNat x0_1.size), hsr, H', ⟨by have := HK1.out; omega⟩, by repeat (first | exact Drawn0.refl _ | apply Drawn0.step)⟩
      ·rw [if_neg c6] at H
       exact absurd H (by simp)
     ·rw [if_neg c5] at H
      exact absurd H (by simp)

/-! ### lodestarref05_Value: function 45 -/
def lodestarref05_Value.f (k : Nat) (a0_0 : Int) (a0_1 : Int) (a0_2 : ByteArray) : Option (Bool) := if a0_0 = 1 then (if a0_2.toList = ([] : List UInt8) then (if a0_1 ≥ (-4503599627370496) then (some (decide (a0_1 ≤ 4503599627370496))) else (some false)) else (some false)) else (if a0_0 = 2 then (if a0_1 = 0 then (if (a0_2.size : Int) ≤ 256 then ((lodestarref03_Runes.f k a0_2).bind fun t329 => (some t329)) else (some false)) else (some false)) else (if a0_0 = 3 then (if a0_2.toList = ([] : List UInt8) then (if a0_1 = 0 then (some true) else (some (a0_1 == 1))) else (some false)) else (some false)))
theorem lodestarref05_Value.mono : ∀ a0 a1 a2 k, LeO (lodestarref05_Value.f k a0 a1 a2) (lodestarref05_Value.f (k + 1) a0 a1 a2) := by
 intro a0 a1 a2 k
 unfold lodestarref05_Value.f
 repeat' first
   | (with_reducible exact lodestarref03_Runes.mono _ _)
   | (with_reducible exact LeO.refl _)
   | (with_reducible exact LeO.none _)
   | (with_reducible refine LeO.ite ?_ ?_)
   | (with_reducible refine LeO.bind ?_ (fun _ => ?_))
   | exact lodestarref03_Runes.mono _ _
   | exact LeO.none _
   | refine LeO.ite ?_ ?_
   | refine LeO.bind ?_ (fun _ => ?_)
set_option maxHeartbeats 8000000 in
set_option maxRecDepth 100000 in
theorem lodestarref05_Value.calls (k : Nat) (a0_0 : Int) (a0_1 : Int) (a0_2 : ByteArray) (r : Bool) (w : World) (h : lodestarref05_Value.f k a0_0 a0_1 a0_2 = some r) :
  Calls Tryd.prog 45 #[.agg #[.int .i64 a0_0, .int .i64 a0_1, .string a0_2]] w fun e w' => e = .returned (.bool r) ∧ Below w.heap.size w w' := by
 have hu33 := Tryd.underlying33
 have HB := Aside0.mk (Below.refl w.heap.size w)
 have H : (if a0_0 = 1 then (if a0_2.toList = ([] : List UInt8) then (if a0_1 ≥ (-4503599627370496) then (some (decide (a0_1 ≤ 4503599627370496))) else (some false)) else (some false)) else (if a0_0 = 2 then (if a0_1 = 0 then (if (a0_2.size : Int) ≤ 256 then ((lodestarref03_Runes.f k a0_2).bind fun t329 => (some t329)) else (some false)) else (some false)) else (if a0_0 = 3 then (if a0_2.toList = ([] : List UInt8) then (if a0_1 = 0 then (some true) else (some (a0_1 == 1))) else (some false)) else (some false)))) = some r := h
 clear h
 by_cases c2 : a0_0 = 1
 ·rw [if_pos c2] at H
  have c2b0 : (a0_0 == 1) = true := beq_iff_eq.mpr c2
  have c2b1 : (a0_0 != 1) = false := bne_eq_false_iff_eq.mpr c2
  clear c2
  by_cases c3 : a0_2.toList = ([] : List UInt8)
  ·rw [if_pos c3] at H
   have c3b0 : (a0_2.toList == ([] : List UInt8)) = true := beq_iff_eq.mpr c3
   have c3b1 : (a0_2.toList != ([] : List UInt8)) = false := bne_eq_false_iff_eq.mpr c3
   clear c3
   by_cases c4 : a0_1 ≥ (-4503599627370496)
   ·rw [if_pos c4] at H
    have c4b0 : decide ((-4503599627370496) ≤ a0_1) = true := decide_eq_true c4
    clear c4
    obtain rfl := Option.some.inj H
    go_enter Tryd.func45, Tryd.ntmps45
    go_wp2_with (first | ((with_reducible refine gate_dst (N := 1) rfl ?_); (try (refine gate_guard (by rfl) ?_; dsimp only)); refine box_event ?hg (N := 1) ?hd (cs := #[.int .i64 a0_0, .int .i64 a0_1, .string a0_2]) (t := 33) ?hr ?_; (case hd => rfl); (case hg => rfl); (case hr => first | (go_simp; done) | (go_simp; rfl)); intro gb328 hg w5 hbox hb; have BK328 := Aside0.mk (hbox); have GW328 := Aside0.mk (gs (w := w) hg (bl HB.out)); have GE328 := Aside0.mk (gs (w := w) hg (bl HB.out)); replace HB := Aside0.mk (below_step (bl HB.out) hb); clear hb hbox hg; obtain ⟨hcz6_0, hcz6_1, hcz6_2, hfz6_0, hfz6_1, hfz6_2⟩ := cz3 BK328.out))
    go_ret
    exact ⟨er0, bl HB.out⟩
   ·rw [if_neg c4] at H
    have c4b0 : decide ((-4503599627370496) ≤ a0_1) = false := decide_eq_false c4
    clear c4
    obtain rfl := Option.some.inj H
    go_enter Tryd.func45, Tryd.ntmps45
    go_wp2_with (first | ((with_reducible refine gate_dst (N := 1) rfl ?_); (try (refine gate_guard (by rfl) ?_; dsimp only)); refine box_event ?hg (N := 1) ?hd (cs := #[.int .i64 a0_0, .int .i64 a0_1, .string a0_2]) (t := 33) ?hr ?_; (case hd => rfl); (case hg => rfl); (case hr => first | (go_simp; done) | (go_simp; rfl)); intro gb328 hg w7 hbox hb; have BK328 := Aside0.mk (hbox); have GW328 := Aside0.mk (gs (w := w) hg (bl HB.out)); have GE328 := Aside0.mk (gs (w := w) hg (bl HB.out)); replace HB := Aside0.mk (below_step (bl HB.out) hb); clear hb hbox hg; obtain ⟨hcz8_0, hcz8_1, hcz8_2, hfz8_0, hfz8_1, hfz8_2⟩ := cz3 BK328.out))
    go_ret
    exact ⟨er0, bl HB.out⟩
  ·rw [if_neg c3] at H
   have c3b0 : (a0_2.toList == ([] : List UInt8)) = false := beq_eq_false_iff_ne.mpr c3
   have c3b1 : (a0_2.toList != ([] : List UInt8)) = true := bne_iff_ne.mpr c3
   obtain rfl := Option.some.inj H
   go_enter Tryd.func45, Tryd.ntmps45
   go_wp2_with (first | ((with_reducible refine gate_dst (N := 1) rfl ?_); (try (refine gate_guard (by rfl) ?_; dsimp only)); refine box_event ?hg (N := 1) ?hd (cs := #[.int .i64 a0_0, .int .i64 a0_1, .string a0_2]) (t := 33) ?hr ?_; (case hd => rfl); (case hg => rfl); (case hr => first | (go_simp; done) | (go_simp; rfl)); intro gb328 hg w9 hbox hb; have BK328 := Aside0.mk (hbox); have GW328 := Aside0.mk (gs (w := w) hg (bl HB.out)); have GE328 := Aside0.mk (gs (w := w) hg (bl HB.out)); replace HB := Aside0.mk (below_step (bl HB.out) hb); clear hb hbox hg; obtain ⟨hcz10_0, hcz10_1, hcz10_2, hfz10_0, hfz10_1, hfz10_2⟩ := cz3 BK328.out))
   go_ret
   exact ⟨er0, bl HB.out⟩
 ·rw [if_neg c2] at H
  have c2b0 : (a0_0 == 1) = false := beq_eq_false_iff_ne.mpr c2
  have c2b1 : (a0_0 != 1) = true := bne_iff_ne.mpr c2
  by_cases c11 : a0_0 = 2
  ·rw [if_pos c11] at H
   have c11b0 : (a0_0 == 2) = true := beq_iff_eq.mpr c11
   have c11b1 : (a0_0 != 2) = false := bne_eq_false_iff_eq.mpr c11
   clear c11
   by_cases c12 : a0_1 = 0
   ·rw [if_pos c12] at H
    have c12b0 : (a0_1 == 0) = true := beq_iff_eq.mpr c12
    have c12b1 : (a0_1 != 0) = false := bne_eq_false_iff_eq.mpr c12
    clear c12
    by_cases c13 : (a0_2.size : Int) ≤ 256
    ·rw [if_pos c13] at H
     have c13b0 : decide ((a0_2.size : Int) ≤ 256) = true := decide_eq_true c13
     have c13b1 : decide (a0_2.size ≤ 256) = true := decide_eq_true (by omega)
     clear c13
     replace H := Option.bind_eq_some_iff.mp H
     obtain ⟨t329, A140, H⟩ := H
     replace H : (some t329) = some r := H
     have A14 := Aside0.mk A140
     clear A140
     obtain rfl := Option.some.inj H
     go_enter Tryd.func45, Tryd.ntmps45
     go_wp2_with (first | ((with_reducible refine gate_dst (N := 1) rfl ?_); (try (refine gate_guard (by rfl) ?_; dsimp only)); refine box_event ?hg (N := 1) ?hd (cs := #[.int .i64 a0_0, .int .i64 a0_1, .string a0_2]) (t := 33) ?hr ?_; (case hd => rfl); (case hg => rfl); (case hr => first | (go_simp; done) | (go_simp; rfl)); intro gb328 hg w15 hbox hb; have BK328 := Aside0.mk (hbox); have GW328 := Aside0.mk (gs (w := w) hg (bl HB.out)); have GE328 := Aside0.mk (gs (w := w) hg (bl HB.out)); replace HB := Aside0.mk (below_step (bl HB.out) hb); clear hb hbox hg; obtain ⟨hcz16_0, hcz16_1, hcz16_2, hfz16_0, hfz16_1, hfz16_2⟩ := cz3 BK328.out) | (go_at_call 68; (with_reducible refine (lodestarref03_Runes.calls k a0_2 t329 _ A14.out).mono ?_); rintro e w' ⟨rfl, ⟨nd, rfl⟩⟩))
     go_ret
     exact ⟨er0, bl HB.out⟩
    ·rw [if_neg c13] at H
     have c13b0 : decide ((a0_2.size : Int) ≤ 256) = false := decide_eq_false c13
     have c13b1 : decide (a0_2.size ≤ 256) = false := decide_eq_false (by omega)
     clear c13
     obtain rfl := Option.some.inj H
     go_enter Tryd.func45, Tryd.ntmps45
     go_wp2_with (first | ((with_reducible refine gate_dst (N := 1) rfl ?_); (try (refine gate_guard (by rfl) ?_; dsimp only)); refine box_event ?hg (N := 1) ?hd (cs := #[.int .i64 a0_0, .int .i64 a0_1, .string a0_2]) (t := 33) ?hr ?_; (case hd => rfl); (case hg => rfl); (case hr => first | (go_simp; done) | (go_simp; rfl)); intro gb328 hg w17 hbox hb; have BK328 := Aside0.mk (hbox); have GW328 := Aside0.mk (gs (w := w) hg (bl HB.out)); have GE328 := Aside0.mk (gs (w := w) hg (bl HB.out)); replace HB := Aside0.mk (below_step (bl HB.out) hb); clear hb hbox hg; obtain ⟨hcz18_0, hcz18_1, hcz18_2, hfz18_0, hfz18_1, hfz18_2⟩ := cz3 BK328.out))
     go_ret
     exact ⟨er0, bl HB.out⟩
   ·rw [if_neg c12] at H
    have c12b0 : (a0_1 == 0) = false := beq_eq_false_iff_ne.mpr c12
    have c12b1 : (a0_1 != 0) = true := bne_iff_ne.mpr c12
    obtain rfl := Option.some.inj H
    go_enter Tryd.func45, Tryd.ntmps45
    go_wp2_with (first | ((with_reducible refine gate_dst (N := 1) rfl ?_); (try (refine gate_guard (by rfl) ?_; dsimp only)); refine box_event ?hg (N := 1) ?hd (cs := #[.int .i64 a0_0, .int .i64 a0_1, .string a0_2]) (t := 33) ?hr ?_; (case hd => rfl); (case hg => rfl); (case hr => first | (go_simp; done) | (go_simp; rfl)); intro gb328 hg w19 hbox hb; have BK328 := Aside0.mk (hbox); have GW328 := Aside0.mk (gs (w := w) hg (bl HB.out)); have GE328 := Aside0.mk (gs (w := w) hg (bl HB.out)); replace HB := Aside0.mk (below_step (bl HB.out) hb); clear hb hbox hg; obtain ⟨hcz20_0, hcz20_1, hcz20_2, hfz20_0, hfz20_1, hfz20_2⟩ := cz3 BK328.out))
    go_ret
    exact ⟨er0, bl HB.out⟩
  ·rw [if_neg c11] at H
   have c11b0 : (a0_0 == 2) = false := beq_eq_false_iff_ne.mpr c11
   have c11b1 : (a0_0 != 2) = true := bne_iff_ne.mpr c11
   by_cases c21 : a0_0 = 3
   ·rw [if_pos c21] at H
    have c21b0 : (a0_0 == 3) = true := beq_iff_eq.mpr c21
    have c21b1 : (a0_0 != 3) = false := bne_eq_false_iff_eq.mpr c21
    clear c21
    by_cases c22 : a0_2.toList = ([] : List UInt8)
    ·rw [if_pos c22] at H
     have c22b0 : (a0_2.toList == ([] : List UInt8)) = true := beq_iff_eq.mpr c22
     have c22b1 : (a0_2.toList != ([] : List UInt8)) = false := bne_eq_false_iff_eq.mpr c22
     clear c22
     by_cases c23 : a0_1 = 0
     ·rw [if_pos c23] at H
      have c23b0 : (a0_1 == 0) = true := beq_iff_eq.mpr c23
      have c23b1 : (a0_1 != 0) = false := bne_eq_false_iff_eq.mpr c23
      clear c23
      obtain rfl := Option.some.inj H
      go_enter Tryd.func45, Tryd.ntmps45
      go_wp2_with (first | ((with_reducible refine gate_dst (N := 1) rfl ?_); (try (refine gate_guard (by rfl) ?_; dsimp only)); refine box_event ?hg (N := 1) ?hd (cs := #[.int .i64 a0_0, .int .i64 a0_1, .string a0_2]) (t := 33) ?hr ?_; (case hd => rfl); (case hg => rfl); (case hr => first | (go_simp; done) | (go_simp; rfl)); intro gb328 hg w24 hbox hb; have BK328 := Aside0.mk (hbox); have GW328 := Aside0.mk (gs (w := w) hg (bl HB.out)); have GE328 := Aside0.mk (gs (w := w) hg (bl HB.out)); replace HB := Aside0.mk (below_step (bl HB.out) hb); clear hb hbox hg; obtain ⟨hcz25_0, hcz25_1, hcz25_2, hfz25_0, hfz25_1, hfz25_2⟩ := cz3 BK328.out))
      go_ret
      exact ⟨er0, bl HB.out⟩
     ·rw [if_neg c23] at H
      have c23b0 : (a0_1 == 0) = false := beq_eq_false_iff_ne.mpr c23
      have c23b1 : (a0_1 != 0) = true := bne_iff_ne.mpr c23
      obtain rfl := Option.some.inj H
      go_enter Tryd.func45, Tryd.ntmps45
      go_wp2_with (first | ((with_reducible refine gate_dst (N := 1) rfl ?_); (try (refine gate_guard (by rfl) ?_; dsimp only)); refine box_event ?hg (N := 1) ?hd (cs := #[.int .i64 a0_0, .int .i64 a0_1, .string a0_2]) (t := 33) ?hr ?_; (case hd => rfl); (case hg => rfl); (case hr => first | (go_simp; done) | (go_simp; rfl)); intro gb328 hg w26 hbox hb; have BK328 := Aside0.mk (hbox); have GW328 := Aside0.mk (gs (w := w) hg (bl HB.out)); have GE328 := Aside0.mk (gs (w := w) hg (bl HB.out)); replace HB := Aside0.mk (below_step (bl HB.out) hb); clear hb hbox hg; obtain ⟨hcz27_0, hcz27_1, hcz27_2, hfz27_0, hfz27_1, hfz27_2⟩ := cz3 BK328.out))
      go_ret
      exact ⟨er0, bl HB.out⟩
    ·rw [if_neg c22] at H
     have c22b0 : (a0_2.toList == ([] : List UInt8)) = false := beq_eq_false_iff_ne.mpr c22
     have c22b1 : (a0_2.toList != ([] : List UInt8)) = true := bne_iff_ne.mpr c22
     obtain rfl := Option.some.inj H
     go_enter Tryd.func45, Tryd.ntmps45
     go_wp2_with (first | ((with_reducible refine gate_dst (N := 1) rfl ?_); (try (refine gate_guard (by rfl) ?_; dsimp only)); refine box_event ?hg (N := 1) ?hd (cs := #[.int .i64 a0_0, .int .i64 a0_1, .string a0_2]) (t := 33) ?hr ?_; (case hd => rfl); (case hg => rfl); (case hr => first | (go_simp; done) | (go_simp; rfl)); intro gb328 hg w28 hbox hb; have BK328 := Aside0.mk (hbox); have GW328 := Aside0.mk (gs (w := w) hg (bl HB.out)); have GE328 := Aside0.mk (gs (w := w) hg (bl HB.out)); replace HB := Aside0.mk (below_step (bl HB.out) hb); clear hb hbox hg; obtain ⟨hcz29_0, hcz29_1, hcz29_2, hfz29_0, hfz29_1, hfz29_2⟩ := cz3 BK328.out))
     go_ret
     exact ⟨er0, bl HB.out⟩
   ·rw [if_neg c21] at H
    have c21b0 : (a0_0 == 3) = false := beq_eq_false_iff_ne.mpr c21
    have c21b1 : (a0_0 != 3) = true := bne_iff_ne.mpr c21
    obtain rfl := Option.some.inj H
    go_enter Tryd.func45, Tryd.ntmps45
    go_wp2_with (first | ((with_reducible refine gate_dst (N := 1) rfl ?_); (try (refine gate_guard (by rfl) ?_; dsimp only)); refine box_event ?hg (N := 1) ?hd (cs := #[.int .i64 a0_0, .int .i64 a0_1, .string a0_2]) (t := 33) ?hr ?_; (case hd => rfl); (case hg => rfl); (case hr => first | (go_simp; done) | (go_simp; rfl)); intro gb328 hg w30 hbox hb; have BK328 := Aside0.mk (hbox); have GW328 := Aside0.mk (gs (w := w) hg (bl HB.out)); have GE328 := Aside0.mk (gs (w := w) hg (bl HB.out)); replace HB := Aside0.mk (below_step (bl HB.out) hb); clear hb hbox hg; obtain ⟨hcz31_0, hcz31_1, hcz31_2, hfz31_0, hfz31_1, hfz31_2⟩ := cz3 BK328.out))
    go_ret
    exact ⟨er0, bl HB.out⟩

end Go.Proofs.YtbeljekpknpadaaDoor.PPayU
