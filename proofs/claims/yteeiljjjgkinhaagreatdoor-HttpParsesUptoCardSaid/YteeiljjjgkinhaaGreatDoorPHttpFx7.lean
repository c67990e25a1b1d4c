-- Written by a program of this session on top of the print: some functions by hand.
import Derived.Test.YteeiljjjgkinhaaGreatDoorPHttpFx0
namespace Go.Proofs.YteeiljjjgkinhaaGreatDoor.PHttpF
open Go.RowKit Go.Proofs.YteeiljjjgkinhaaGreatDoorW.PrintWords Go.Proofs.YteeiljjjgkinhaaGreatDoorW.PrintLast Go.Proofs.YteeiljjjgkinhaaGreatDoorW.PrintMore
attribute [local go_sem] max2_int min2_int max_two min_two max_three min_three max_four min_four   -- for this text's walks alone
set_option linter.unusedVariables false
set_option linter.unusedSimpArgs false

-- NOT PRINTED: function 99 (strconv_ParseUint)

-- NOT PRINTED: function 82 (strconv_ParseInt)

-- NOT PRINTED: function 63 (strconv_Atoi_63)

-- NOT PRINTED: function 100 (stringslite_Clone)

-- NOT PRINTED: function 83 (strconv_syntaxError)

-- NOT PRINTED: function 84 (strconv_rangeError)

/-! ### strconv_Itoa_25: function 25 -/
def strconv_Itoa_25.f (a0 : Int) : Option ByteArray := if -9223372036854775808 ≤ a0 ∧ a0 ≤ 9223372036854775807 then some (⟨(Lib.itoa a0).toArray⟩) else none
theorem strconv_Itoa_25.calls (a0 : Int) (r : ByteArray) (w : World) (hU : LaidU w) (h : strconv_Itoa_25.f a0 = some r) :
  Calls Tryz.prog 25 #[.int .i64 a0] w fun e w' => e = .returned (.string r) ∧ Below w.heap.size w w' := by
 unfold strconv_Itoa_25.f at h
 split at h
 ·rename_i hs
  obtain rfl := Option.some.inj h
  refine (Tryz.strconv_Itoa a0 hs.1 hs.2 w hU.2.1).mono fun e w' ⟨h1, k, os, h2⟩ => ⟨h1, ?_⟩
  subst h2
  exact (pw_below_drewN (Below.refl _ w) k).trans ⟨rfl, rfl, rfl, by simp [Sort.grow, World.drewN], fun i hi => by simp [Sort.grow, World.drewN, Array.getElem?_append, hi]⟩
 ·cases h

-- NOT PRINTED: function 101 (errors_New)

-- NOT PRINTED: function 85 (strconv_baseError)

-- NOT PRINTED: function 86 (strconv_bitSizeError)

-- NOT PRINTED: function 64 (strconv_toError)

/-! ### strconv_Atoi_36: function 36 -/
def strconv_Atoi_36.f (a0 : ByteArray) : Option (Int × Option Int) := if a0.size ≤ 281474976710656 then (match Lib.atoiAll a0.data.toList with | .ok v => some (v, none) | .range => some (Lib.atoiSat a0.data.toList, some 1) | _ => none) else none
theorem strconv_Atoi_36.callsN (a0 : ByteArray) (r1 : Int) (w : World) (hU : LaidU w) (h : strconv_Atoi_36.f a0 = some (r1, none)) :
  Calls Tryz.prog 36 #[.string a0] w fun e w' => e = .returned (.tuple #[.int .i64 r1, errW none]) ∧ Below w.heap.size w w' := by
 unfold strconv_Atoi_36.f at h
 split at h
 ·rename_i hs
  split at h
  ·rename_i v hv
   cases Option.some.inj h
   refine (Tryz.strconv_Atoi_ok a0 (by omega) _ hv w).mono fun e w' ⟨h1, h2⟩ => ⟨h1, ?_⟩
   rcases h2 with rfl | ⟨t, rfl⟩
   ·exact Below.refl _ _
   ·exact bytes_below (Below.refl _ w) (Nat.le_refl _) _ _
  ·cases h
  ·cases h
 ·cases h
theorem strconv_Atoi_36.callsR (a0 : ByteArray) (r1 q : Int) (w : World) (hU : LaidU w) (h : strconv_Atoi_36.f a0 = some (r1, some q)) :
  Calls Tryz.prog 36 #[.string a0] w fun e w' => ∃ (tp : TypeId) (pe : Value), e = .returned (.tuple #[.int .i64 r1, .iface tp pe]) ∧ Below w.heap.size w w' := by
 unfold strconv_Atoi_36.f at h
 split at h
 ·rename_i hs
  split at h
  ·cases h
  ·rename_i hv
   cases Option.some.inj h
   obtain ⟨te, pe, hc⟩ := hU.2.2
   exact (Any.strconv_Atoi_range Tryz.laysC172 a0 hs hv (.iface te pe) w hc (Or.inr ⟨te, pe, rfl⟩)).mono fun e w' ⟨N, he, _, _, hb⟩ => ⟨_, _, he, hb⟩
  ·cases h
 ·cases h

/-! ### http_length: function 19 -/
mutual
def http_length.l0 : Nat → ByteArray → Int → Option (Int × Int)
 | 0, _, _ => none
 | k + 1, x0, x4 => if x4 < (x0.size : Int) then (if 0 ≤ x4 then (if (bt x0 x4) < 48 then (some (0, 40)) else (if (bt x0 x4) > 57 then (some (0, 40)) else (http_length.l0 k x0 (wrap64 (x4 + 1))))) else (none)) else (if x0.toList = ([] : List UInt8) then (http_length.j1 k x0 true) else (if (x0.size : Int) > 1 then (if 0 < (x0.size : Int) then (http_length.j1 k x0 ((bt x0 0) == 48)) else (none)) else (http_length.j1 k x0 false)))
def http_length.j1 : Nat → ByteArray → Bool → Option (Int × Int)
 | 0, _, _ => none
 | k + 1, x0, x34 => if x34 = true then (some (0, 40)) else ((strconv_Atoi_36.f x0).bind fun bt192 => (if bt192.2.isNone = true then (if bt192.1 > 262144 then (some (0, 41)) else (some (bt192.1, 0))) else (some (0, 41))))
end
def http_length.f (k : Nat) (a0 : ByteArray) : Option (Int × Int) := http_length.l0 k a0 0
theorem http_length.mono_l : ∀ k, (∀ y0 y1, LeO (http_length.l0 k y0 y1) (http_length.l0 (k + 1) y0 y1)) ∧ (∀ y0 y1, LeO (http_length.j1 k y0 y1) (http_length.j1 (k + 1) y0 y1))
 | 0 => ⟨fun _ _ r h => by simp [http_length.l0] at h, fun _ _ r h => by simp [http_length.j1] at h⟩
 | k + 1 => by
  obtain ⟨ih0, ih1⟩ := http_length.mono_l k
  refine ⟨?_, ?_⟩
  all_goals intros
  all_goals first | unfold http_length.l0 | unfold http_length.j1
  all_goals repeat' first
   | (with_reducible exact ih0 _ _)
   | (with_reducible exact ih1 _ _)
   | (with_reducible exact LeO.refl _)
   | (with_reducible exact LeO.none _)
   | (with_reducible refine LeO.ite ?_ ?_)
   | (with_reducible refine LeO.bind ?_ (fun _ => ?_))
   | exact ih0 _ _
   | exact ih1 _ _
   | exact LeO.none _
   | refine LeO.ite ?_ ?_
   | refine LeO.bind ?_ (fun _ => ?_)
theorem http_length.mono : ∀ a0 k, LeO (http_length.f k a0) (http_length.f (k + 1) a0) := by
 intro a0 k
 obtain ⟨ih0, ih1⟩ := http_length.mono_l k
 unfold http_length.f
 repeat' first
   | (with_reducible exact ih0 _ _)
   | (with_reducible exact ih1 _ _)
   | (with_reducible exact LeO.refl _)
   | (with_reducible exact LeO.none _)
   | (with_reducible refine LeO.ite ?_ ?_)
   | (with_reducible refine LeO.bind ?_ (fun _ => ?_))
   | exact ih0 _ _
   | exact ih1 _ _
   | exact LeO.none _
   | refine LeO.ite ?_ ?_
   | refine LeO.bind ?_ (fun _ => ?_)
set_option maxHeartbeats 8000000 in
set_option maxRecDepth 100000 in
theorem http_length.calls (k : Nat) (a0 : ByteArray) (r1 : Int) (r2 : Int) (w : World) (hU : LaidU w) (h : http_length.f k a0 = some (r1, r2)) :
  Calls Tryz.prog 19 #[.string a0] w fun e w' => e = .returned (.tuple #[.int .i64 r1, .int .i64 r2]) ∧ Below w.heap.size w w' := by
 have hu59 := Tryz.underlying59
 have hu101 := Tryz.underlying101
 have HU := Aside0.mk hU
 clear hU
 have HB := Aside0.mk (Below.refl w.heap.size w)
 have H : (http_length.l0 k a0 0) = some (r1, r2) := h
 clear h
 have H' := Aside0.mk H
 clear H
 go_enter Tryz.func19, Tryz.ntmps19
 go_wp2
 go_loopg [4] k (fun kq v4 w' => ∃ (x4_1 : Int), v4 = .int .i64 x4_1 ∧ Aside0 (http_length.l0 kq a0 x4_1 = some (r1, r2)) ∧ Aside0 (kq ≤ k) ∧ Aside0 (Below w.heap.size w w'))
 case atStart => exact ⟨(0), hsr, H', ⟨Nat.le_refl _⟩, ⟨bl HB.out⟩⟩
 case round =>
  clear H'
  try clear c1
  obtain ⟨x4_1, rfl, HA, HK1, HB⟩ := hrel
  cases gk with
  | zero => exact absurd HA.out (by simp [http_length.l0])
  | succ k1 =>
   have H := HA.out
   clear HA
   simp only [http_length.l0] at H
   by_cases c2 : x4_1 < (a0.size : Int)
   ·rw [if_pos c2] at H
    have c2b0 : decide (x4_1 < (a0.size : Int)) = true := decide_eq_true c2
    clear c2
    by_cases c3 : 0 ≤ x4_1
    ·rw [if_pos c3] at H
     have c3b0 : decide (0 ≤ x4_1) = true := decide_eq_true c3
     clear c3
     by_cases c5 : (bt a0 x4_1) < 48
     ·rw [if_pos c5] at H
      have c5b0 : decide ((bt a0 x4_1) < 48) = true := decide_eq_true c5
      clear c5
      simp only [Option.some.injEq, Prod.mk.injEq] at H
      obtain ⟨rfl, rfl⟩ := H
      have p4 : 0 ≤ (x4_1 : Int) := of_decide_eq_true ha
      have q4 : x4_1 < (a0.size : Int) := of_decide_eq_true ha
      have hx4 := bt_at a0 x4_1
      replace p4 := eq_true p4
      replace q4 := eq_true q4
      go_wp2
      go_ret2
      exact ⟨er0, bl HB.out⟩
     ·rw [if_neg c5] at H
      have c5b0 : decide ((bt a0 x4_1) < 48) = false := decide_eq_false c5
      clear c5
      by_cases c7 : (bt a0 x4_1) > 57
      ·rw [if_pos c7] at H
       have c7b0 : decide (57 < (bt a0 x4_1)) = true := decide_eq_true c7
       clear c7
       simp only [Option.some.injEq, Prod.mk.injEq] at H
       obtain ⟨rfl, rfl⟩ := H
       have p4 : 0 ≤ (x4_1 : Int) := of_decide_eq_true ha
       have q4 : x4_1 < (a0.size : Int) := of_decide_eq_true ha
       have hx4 := bt_at a0 x4_1
       replace p4 := eq_true p4
       replace q4 := eq_true q4
       have p6 : 0 ≤ (x4_1 : Int) := of_decide_eq_true ha
       have q6 : x4_1 < (a0.size : Int) := of_decide_eq_true ha
       have hx6 := bt_at a0 x4_1
       replace p6 := eq_true p6
       replace q6 := eq_true q6
       go_wp2
       go_ret2
       exact ⟨er0, bl HB.out⟩
      ·rw [if_neg c7] at H
       have c7b0 : decide (57 < (bt a0 x4_1)) = false := decide_eq_false c7
       clear c7
       have H' := Aside0.mk H
       clear H
       have p4 : 0 ≤ (x4_1 : Int) := of_decide_eq_true ha
       have q4 : x4_1 < (a0.size : Int) := of_decide_eq_true ha
       have hx4 := bt_at a0 x4_1
       replace p4 := eq_true p4
       replace q4 := eq_true q4
       have p6 : 0 ≤ (x4_1 : Int) := of_decide_eq_true ha
       have q6 : x4_1 < (a0.size : Int) := of_decide_eq_true ha
       have hx6 := bt_at a0 x4_1
       replace p6 := eq_true p6
       replace q6 := eq_true q6
       go_wp2
       go_roundg k1
       case measure => have := HK1.out; omega
       case rel => exact ⟨(wrap64 (x4_1 + 1)), hsr, H', ⟨by have := HK1.out; omega⟩, ⟨bl HB.out⟩⟩
    ·rw [if_neg c3] at H
     exact absurd H (by simp)
   ·rw [if_neg c2] at H
    have c2b0 : decide (x4_1 < (a0.size : Int)) = false := decide_eq_false c2
    clear c2
    have HC8 := Aside0.mk H
    clear H
    go_upto_region 6 with (fail)
    go_cut [34] (fun v34 wc => ∃ (kq : Nat) (x34_7 : Bool), v34 = .bool x34_7 ∧ Aside0 (http_length.j1 kq a0 x34_7 = some (r1, r2)) ∧ Aside0 (kq ≤ k1) ∧ Aside0 (Below w.heap.size w wc))
    case first =>
     have H := HC8.out
     clear HC8
     by_cases c9 : a0.toList = ([] : List UInt8)
     ·rw [if_pos c9] at H
      have c9b0 : (a0.toList == ([] : List UInt8)) = true := beq_iff_eq.mpr c9
      have c9b1 : (a0.toList != ([] : List UInt8)) = false := bne_eq_false_iff_eq.mpr c9
      clear c9
      (first | rw [c9b0] | (simp only [i64_w, i32_w]; rw [c9b0]) | skip)
      have H' := Aside0.mk H
      clear H
      go_wp2
      go_meet
      case rel => exact ⟨_, (true), hsr, H', ⟨by have := HK1.out; first | omega | exact Nat.le_refl _⟩, ⟨bl HB.out⟩⟩
     ·rw [if_neg c9] at H
      have c9b0 : (a0.toList == ([] : List UInt8)) = false := beq_eq_false_iff_ne.mpr c9
      have c9b1 : (a0.toList != ([] : List UInt8)) = true := bne_iff_ne.mpr c9
      (first | rw [c9b0] | (simp only [i64_w, i32_w]; rw [c9b0]) | skip)
      by_cases c10 : (a0.size : Int) > 1
      ·rw [if_pos c10] at H
       have c10b0 : decide (1 < (a0.size : Int)) = true := decide_eq_true c10
       have c10b1 : decide (1 < a0.size) = true := decide_eq_true (by omega)
       clear c10
       by_cases c11 : 0 < (a0.size : Int)
       ·rw [if_pos c11] at H
        have c11b0 : decide (0 < (a0.size : Int)) = true := decide_eq_true c11
        have c11b1 : decide (0 < a0.size) = true := decide_eq_true (by omega)
        clear c11
        have H' := Aside0.mk H
        clear H
        have p12 : 0 ≤ (0 : Int) := (by omega)
        have q12 : 0 < a0.size := (by have : (0 : Int) < (a0.size : Int) := of_decide_eq_true ha; omega)
        have hx12 : ∀ h : 0 < a0.size, ((a0[0]'h).toNat : Int) = bt a0 0 := bt_at a0 0
        clear p12
        have qi12 : (0 < (a0.size : Int)) = True := eq_true (of_decide_eq_true ha)
        replace q12 := eq_true q12
        go_wp2
        go_meet
        case rel => exact ⟨_, (((bt a0 0) == 48)), hsr, H', ⟨by have := HK1.out; first | omega | exact Nat.le_refl _⟩, ⟨bl HB.out⟩⟩
       ·rw [if_neg c11] at H
        exact absurd H (by simp)
      ·rw [if_neg c10] at H
       have c10b0 : decide (1 < (a0.size : Int)) = false := decide_eq_false c10
       have c10b1 : decide (1 < a0.size) = false := decide_eq_false (by omega)
       clear c10
       have H' := Aside0.mk H
       clear H
       go_wp2
       go_meet
       case rel => exact ⟨_, (false), hsr, H', ⟨by have := HK1.out; first | omega | exact Nat.le_refl _⟩, ⟨bl HB.out⟩⟩
    case rest =>
     clear HC8
     try clear c1
     try clear p1
     try clear q1
     try clear hx1
     try clear qi1
     try clear c2
     try clear c2b0
     try clear p2
     try clear c3
     try clear c3b0
     try clear p4
     try clear q4
     try clear hx4
     try clear c5
     try clear c5b0
     try clear p6
     try clear q6
     try clear hx6
     try clear c7
     try clear c7b0
     try clear c9
     try clear c9b0
     try clear c9b1
     try clear c10
     try clear c10b0
     try clear c10b1
     try clear c11
     try clear c11b0
     try clear c11b1
     try clear p12
     try clear q12
     try clear hx12
     try clear qi12
     try clear p12
     try clear p4
     try clear p6
     try clear q12
     try clear q4
     try clear q6
     obtain ⟨kq, x34_7, rfl, HA, HJ7, HB⟩ := hcut
     cases kq with
     | zero => exact absurd HA.out (by simp [http_length.j1])
     | succ kj7 =>
      have H := HA.out
      clear HA
      simp only [http_length.j1] at H
      by_cases c13 : x34_7 = true
      ·subst c13
       have H1 : (some (0, 40)) = some (r1, r2) := by rw [if_pos rfl] at H; exact H
       clear H
       have H := H1
       clear H1
       simp only [Option.some.injEq, Prod.mk.injEq] at H
       obtain ⟨rfl, rfl⟩ := H
       go_wp2
       go_ret2
       exact ⟨er0, bl HB.out⟩
      ·replace c13 := Bool.eq_false_iff.mpr c13
       subst c13
       have H1 : ((strconv_Atoi_36.f a0).bind fun bt192 => (if bt192.2.isNone = true then (if bt192.1 > 262144 then (some (0, 41)) else (some (bt192.1, 0))) else (some (0, 41)))) = some (r1, r2) := by rw [if_neg (show ¬ (false = true) by decide)] at H; exact H
       clear H
       have H := H1
       clear H1
       replace H := Option.bind_eq_some_iff.mp H
       obtain ⟨⟨t192, t193⟩, A140, H⟩ := H
       replace H : (if t193.isNone = true then (if t192 > 262144 then (some (0, 41)) else (some (t192, 0))) else (some (0, 41))) = some (r1, r2) := H
       have A14 := Aside0.mk A140
       clear A140
       rcases t193 with _ | q194
       ·have H1 : (if t192 > 262144 then (some (0, 41)) else (some (t192, 0))) = some (r1, r2) := by rw [if_pos (show (none : Option Int).isNone = true by rfl)] at H; exact H
        clear H
        have H := H1
        clear H1
        try simp only [errW_none, errW_some]
        by_cases c15 : t192 > 262144
        ·rw [if_pos c15] at H
         have c15b0 : decide (262144 < t192) = true := decide_eq_true c15
         clear c15
         simp only [Option.some.injEq, Prod.mk.injEq] at H
         obtain ⟨rfl, rfl⟩ := H
         go_wp2_with (first | ((with_reducible refine gate_callee (f := 36) rfl ?_); refine goesL_ (some 37) rfl rfl Tryz.func36 kr rfl #[.string a0] rfl ga ?_; (with_reducible refine (strconv_Atoi_36.callsN a0 t192 _ ?side1 A14.out).mono ?_); (case side1 => exact LaidU.below HU.out (bl HB.out)); rintro e w16 ⟨rfl, hb⟩; refine ⟨_, rfl, ?_⟩; replace HB := Aside0.mk (below_step (bl HB.out) hb); (try clear hb); (try clear hb2); (try clear hk); (try clear hi); (try simp only [errW_none, errW_some])))
         go_ret2
         exact ⟨er0, bl HB.out⟩
        ·rw [if_neg c15] at H
         have c15b0 : decide (262144 < t192) = false := decide_eq_false c15
         clear c15
         simp only [Option.some.injEq, Prod.mk.injEq] at H
         obtain ⟨rfl, rfl⟩ := H
         go_wp2_with (first | ((with_reducible refine gate_callee (f := 36) rfl ?_); refine goesL_ (some 37) rfl rfl Tryz.func36 kr rfl #[.string a0] rfl ga ?_; (with_reducible refine (strconv_Atoi_36.callsN a0 t192 _ ?side1 A14.out).mono ?_); (case side1 => exact LaidU.below HU.out (bl HB.out)); rintro e w17 ⟨rfl, hb⟩; refine ⟨_, rfl, ?_⟩; replace HB := Aside0.mk (below_step (bl HB.out) hb); (try clear hb); (try clear hb2); (try clear hk); (try clear hi); (try simp only [errW_none, errW_some])))
         go_ret2
         exact ⟨er0, bl HB.out⟩
       ·have H1 : (some (0, 41)) = some (r1, r2) := by rw [if_neg (show ¬ (some q194).isNone = true by simp)] at H; exact H
        clear H
        have H := H1
        clear H1
        try simp only [errW_none, errW_some]
        simp only [Option.some.injEq, Prod.mk.injEq] at H
        obtain ⟨rfl, rfl⟩ := H
        go_wp2_with (first | ((with_reducible refine gate_callee (f := 36) rfl ?_); refine goesL_ (some 37) rfl rfl Tryz.func36 kr rfl #[.string a0] rfl ga ?_; (with_reducible refine (strconv_Atoi_36.callsR a0 t192 q194 _ ?side1 A14.out).mono ?_); (case side1 => exact LaidU.below HU.out (bl HB.out)); rintro e w18 ⟨tp, pe, rfl, hb⟩; refine ⟨_, rfl, ?_⟩; replace HB := Aside0.mk (below_step (bl HB.out) hb); (try clear hb); (try clear hb2); (try clear hk); (try clear hi); (try simp only [errW_none, errW_some])))
        go_ret2
        exact ⟨er0, bl HB.out⟩

end Go.Proofs.YteeiljjjgkinhaaGreatDoor.PHttpF
