-- Written by a program of this session on top of the print: some functions by hand.
import Derived.Test.YtbeljekpknpadaaDoorPPayUx0
namespace Go.Proofs.YtbeljekpknpadaaDoor.PPayU
open Go.RowKit Go.Proofs.YtbeljekpknpadaaDoorW.PrintWords Go.Proofs.YtbeljekpknpadaaDoorW.PrintLast Go.Proofs.YtbeljekpknpadaaDoorW.PrintMore
attribute [local go_sem] max2_int min2_int max_two min_two max_three min_three max_four min_four   -- for this text's walks alone
set_option linter.unusedVariables false
set_option linter.unusedSimpArgs false

/-! ### payload_name: function 69 -/
/-- may this letter stand at this place of a name? -/
def nameOk (i : Nat) (c : Nat) : Bool := c == 95 || (decide (97 ≤ c) && decide (c ≤ 122)) || (decide (65 ≤ c) && decide (c ≤ 90)) || (decide (0 < i) && decide (48 ≤ c) && decide (c ≤ 57))
def nameFrom : Nat → List UInt8 → Bool
 | _, [] => true
 | i, c :: l => nameOk i c.toNat && nameFrom (i + 1) l
def nameB (s : ByteArray) : Bool := nameFrom 0 s.data.toList && (decide (1 ≤ s.size) && decide (s.size ≤ 32))
def payload_name.f (a0 : ByteArray) : Option Bool := if a0.size ≤ 9223372036854775807 then some (nameB a0) else none
theorem nameFrom_drop (s : ByteArray) (i : Nat) (h : i < s.size) : ∃ x : Nat, x < 256 ∧ (s.data.toList.getD i 0).toNat = x ∧ nameFrom i (s.data.toList.drop i) = (nameOk i x && nameFrom (i + 1) (s.data.toList.drop (i + 1))) := by
 have hl : i < s.data.toList.length := by simpa using h
 refine ⟨_, (s.data.toList.getD i 0).toNat_lt, rfl, ?_⟩
 rw [List.drop_eq_getElem_cons hl, nameFrom, List.getD_eq_getElem?_getD, List.getElem?_eq_getElem hl]
 rfl
set_option maxHeartbeats 3200000 in
set_option maxRecDepth 100000 in
theorem payload_name.calls (a0 : ByteArray) (r : Bool) (w : World) (h : payload_name.f a0 = some r) :
  Calls Tryd.prog 69 #[.string a0] w fun e w' => e = .returned (.bool r) ∧ Below w.heap.size w w' := by
 have hsz : a0.size ≤ 9223372036854775807 ∧ Aside0 (r = nameB a0) := by
  unfold payload_name.f at h
  split at h
  ·rename_i hs
   exact ⟨hs, ⟨(Option.some.inj h).symm⟩⟩
  ·cases h
 obtain ⟨hs, HR⟩ := hsz
 clear h
 have kb := fun W => print_bytes (P := Tryd.prog) 9 66 5 Tryd.underlying9 Tryd.underlying66 Tryd.underlying5 a0 W
 go_enter Tryd.func69, Tryd.ntmps69
 go_wp2
 have HB := Aside0.mk (bytes_below (Below.refl w.heap.size w) (Nat.le_refl _) 5 a0)
 have HC := Aside0.mk (fun j (hj : j < a0.size) => Lib.bytesWorld_cell w 5 a0 j hj)
 generalize Lib.bytesWorld w 5 a0 = w1 at HB HC ⊢
 clear kb
 go_loop [8] (fun v8 => ∃ i : Nat, i ≤ a0.size ∧ v8 = .int .i64 i ∧ Aside0 (r = (nameFrom i (a0.data.toList.drop i) && (decide (1 ≤ a0.size) && decide (a0.size ≤ 32))))) (fun v8 => a0.size - (intOf v8).toNat)
 case atStart => exact ⟨0, by omega, rfl, HR⟩
 case round =>
  clear HR
  obtain ⟨i, hi, rfl, HR⟩ := hrel
  by_cases hlt : i < a0.size
  ·have hd : decide ((i : Int) < (a0.size : Int)) = true := by simp; omega
   have hc := HC.out i hlt
   obtain ⟨x, hx, hxe, hn⟩ := nameFrom_drop a0 i hlt
   rw [hxe] at hc
   clear hxe
   have HN := Aside0.mk hn
   clear hn
   by_cases b1 : x = 95
   ·have g1 : ((x : Int) == 95) = true := by simp; omega
    have hok : nameOk i x = true := by simp [nameOk]; omega
    go_wp2
    go_round
    case measure => simp [intOf]; omega
    case rel => exact ⟨i + 1, by omega, by go_num, ⟨by rw [HR.out, HN.out, hok, Bool.true_and]⟩⟩
   ·by_cases b2 : 97 ≤ x
    ·by_cases b3 : x ≤ 122
     ·have g1 : ((x : Int) == 95) = false := by simp; omega
      have g2 : decide ((x : Int) ≥ 97) = true := by simp; omega
      have g3 : decide ((x : Int) ≤ 122) = true := by simp; omega
      have hok : nameOk i x = true := by simp [nameOk]; omega
      go_wp2
      go_round
      case measure => simp [intOf]; omega
      case rel => exact ⟨i + 1, by omega, by go_num, ⟨by rw [HR.out, HN.out, hok, Bool.true_and]⟩⟩
     ·by_cases b4 : 65 ≤ x
      ·by_cases b5 : x ≤ 90
       ·have g1 : ((x : Int) == 95) = false := by simp; omega
        have g2 : decide ((x : Int) ≥ 97) = true := by simp; omega
        have g3 : decide ((x : Int) ≤ 122) = false := by simp; omega
        have g4 : decide ((x : Int) ≥ 65) = true := by simp; omega
        have g5 : decide ((x : Int) ≤ 90) = true := by simp; omega
        have hok : nameOk i x = true := by simp [nameOk]; omega
        go_wp2
        go_round
        case measure => simp [intOf]; omega
        case rel => exact ⟨i + 1, by omega, by go_num, ⟨by rw [HR.out, HN.out, hok, Bool.true_and]⟩⟩
       ·by_cases b6 : 0 < i
        ·by_cases b7 : 48 ≤ x
         ·by_cases b8 : x ≤ 57
          ·have g1 : ((x : Int) == 95) = false := by simp; omega
           have g2 : decide ((x : Int) ≥ 97) = true := by simp; omega
           have g3 : decide ((x : Int) ≤ 122) = false := by simp; omega
           have g4 : decide ((x : Int) ≥ 65) = true := by simp; omega
           have g5 : decide ((x : Int) ≤ 90) = false := by simp; omega
           have g6 : decide ((i : Int) > 0) = true := by simp; omega
           have g7 : decide ((x : Int) ≥ 48) = true := by simp; omega
           have g8 : decide ((x : Int) ≤ 57) = true := by simp; omega
           have hok : nameOk i x = true := by simp [nameOk]; omega
           go_wp2
           go_round
           case measure => simp [intOf]; omega
           case rel => exact ⟨i + 1, by omega, by go_num, ⟨by rw [HR.out, HN.out, hok, Bool.true_and]⟩⟩
          ·have g1 : ((x : Int) == 95) = false := by simp; omega
           have g2 : decide ((x : Int) ≥ 97) = true := by simp; omega
           have g3 : decide ((x : Int) ≤ 122) = false := by simp; omega
           have g4 : decide ((x : Int) ≥ 65) = true := by simp; omega
           have g5 : decide ((x : Int) ≤ 90) = false := by simp; omega
           have g6 : decide ((i : Int) > 0) = true := by simp; omega
           have g7 : decide ((x : Int) ≥ 48) = true := by simp; omega
           have g8 : decide ((x : Int) ≤ 57) = false := by simp; omega
           have hok : nameOk i x = false := by simp [nameOk]; omega
           go_wp2
           go_ret
           have hr : r = false := by rw [HR.out, HN.out, hok, Bool.false_and, Bool.false_and]
           rw [hr]
           exact ⟨rfl, HB.out⟩
         ·have g1 : ((x : Int) == 95) = false := by simp; omega
          have g2 : decide ((x : Int) ≥ 97) = true := by simp; omega
          have g3 : decide ((x : Int) ≤ 122) = false := by simp; omega
          have g4 : decide ((x : Int) ≥ 65) = true := by simp; omega
          have g5 : decide ((x : Int) ≤ 90) = false := by simp; omega
          have g6 : decide ((i : Int) > 0) = true := by simp; omega
          have g7 : decide ((x : Int) ≥ 48) = false := by simp; omega
          have hok : nameOk i x = false := by simp [nameOk]; omega
          go_wp2
          go_ret
          have hr : r = false := by rw [HR.out, HN.out, hok, Bool.false_and, Bool.false_and]
          rw [hr]
          exact ⟨rfl, HB.out⟩
        ·have g1 : ((x : Int) == 95) = false := by simp; omega
         have g2 : decide ((x : Int) ≥ 97) = true := by simp; omega
         have g3 : decide ((x : Int) ≤ 122) = false := by simp; omega
         have g4 : decide ((x : Int) ≥ 65) = true := by simp; omega
         have g5 : decide ((x : Int) ≤ 90) = false := by simp; omega
         have g6 : decide ((i : Int) > 0) = false := by simp; omega
         have hok : nameOk i x = false := by simp [nameOk]; omega
         go_wp2
         go_ret
         have hr : r = false := by rw [HR.out, HN.out, hok, Bool.false_and, Bool.false_and]
         rw [hr]
         exact ⟨rfl, HB.out⟩
      ·by_cases b6 : 0 < i
       ·by_cases b7 : 48 ≤ x
        ·by_cases b8 : x ≤ 57
         ·have g1 : ((x : Int) == 95) = false := by simp; omega
          have g2 : decide ((x : Int) ≥ 97) = true := by simp; omega
          have g3 : decide ((x : Int) ≤ 122) = false := by simp; omega
          have g4 : decide ((x : Int) ≥ 65) = false := by simp; omega
          have g6 : decide ((i : Int) > 0) = true := by simp; omega
          have g7 : decide ((x : Int) ≥ 48) = true := by simp; omega
          have g8 : decide ((x : Int) ≤ 57) = true := by simp; omega
          have hok : nameOk i x = true := by simp [nameOk]; omega
          go_wp2
          go_round
          case measure => simp [intOf]; omega
          case rel => exact ⟨i + 1, by omega, by go_num, ⟨by rw [HR.out, HN.out, hok, Bool.true_and]⟩⟩
         ·have g1 : ((x : Int) == 95) = false := by simp; omega
          have g2 : decide ((x : Int) ≥ 97) = true := by simp; omega
          have g3 : decide ((x : Int) ≤ 122) = false := by simp; omega
          have g4 : decide ((x : Int) ≥ 65) = false := by simp; omega
          have g6 : decide ((i : Int) > 0) = true := by simp; omega
          have g7 : decide ((x : Int) ≥ 48) = true := by simp; omega
          have g8 : decide ((x : Int) ≤ 57) = false := by simp; omega
          have hok : nameOk i x = false := by simp [nameOk]; omega
          go_wp2
          go_ret
          have hr : r = false := by rw [HR.out, HN.out, hok, Bool.false_and, Bool.false_and]
          rw [hr]
          exact ⟨rfl, HB.out⟩
        ·have g1 : ((x : Int) == 95) = false := by simp; omega
         have g2 : decide ((x : Int) ≥ 97) = true := by simp; omega
         have g3 : decide ((x : Int) ≤ 122) = false := by simp; omega
         have g4 : decide ((x : Int) ≥ 65) = false := by simp; omega
         have g6 : decide ((i : Int) > 0) = true := by simp; omega
         have g7 : decide ((x : Int) ≥ 48) = false := by simp; omega
         have hok : nameOk i x = false := by simp [nameOk]; omega
         go_wp2
         go_ret
         have hr : r = false := by rw [HR.out, HN.out, hok, Bool.false_and, Bool.false_and]
         rw [hr]
         exact ⟨rfl, HB.out⟩
       ·have g1 : ((x : Int) == 95) = false := by simp; omega
        have g2 : decide ((x : Int) ≥ 97) = true := by simp; omega
        have g3 : decide ((x : Int) ≤ 122) = false := by simp; omega
        have g4 : decide ((x : Int) ≥ 65) = false := by simp; omega
        have g6 : decide ((i : Int) > 0) = false := by simp; omega
        have hok : nameOk i x = false := by simp [nameOk]; omega
        go_wp2
        go_ret
        have hr : r = false := by rw [HR.out, HN.out, hok, Bool.false_and, Bool.false_and]
        rw [hr]
        exact ⟨rfl, HB.out⟩
    ·by_cases b4 : 65 ≤ x
     ·by_cases b5 : x ≤ 90
      ·have g1 : ((x : Int) == 95) = false := by simp; omega
       have g2 : decide ((x : Int) ≥ 97) = false := by simp; omega
       have g4 : decide ((x : Int) ≥ 65) = true := by simp; omega
       have g5 : decide ((x : Int) ≤ 90) = true := by simp; omega
       have hok : nameOk i x = true := by simp [nameOk]; omega
       go_wp2
       go_round
       case measure => simp [intOf]; omega
       case rel => exact ⟨i + 1, by omega, by go_num, ⟨by rw [HR.out, HN.out, hok, Bool.true_and]⟩⟩
      ·by_cases b6 : 0 < i
       ·by_cases b7 : 48 ≤ x
        ·by_cases b8 : x ≤ 57
         ·have g1 : ((x : Int) == 95) = false := by simp; omega
          have g2 : decide ((x : Int) ≥ 97) = false := by simp; omega
          have g4 : decide ((x : Int) ≥ 65) = true := by simp; omega
          have g5 : decide ((x : Int) ≤ 90) = false := by simp; omega
          have g6 : decide ((i : Int) > 0) = true := by simp; omega
          have g7 : decide ((x : Int) ≥ 48) = true := by simp; omega
          have g8 : decide ((x : Int) ≤ 57) = true := by simp; omega
          have hok : nameOk i x = true := by simp [nameOk]; omega
          go_wp2
          go_round
          case measure => simp [intOf]; omega
          case rel => exact ⟨i + 1, by omega, by go_num, ⟨by rw [HR.out, HN.out, hok, Bool.true_and]⟩⟩
         ·have g1 : ((x : Int) == 95) = false := by simp; omega
          have g2 : decide ((x : Int) ≥ 97) = false := by simp; omega
          have g4 : decide ((x : Int) ≥ 65) = true := by simp; omega
          have g5 : decide ((x : Int) ≤ 90) = false := by simp; omega
          have g6 : decide ((i : Int) > 0) = true := by simp; omega
          have g7 : decide ((x : Int) ≥ 48) = true := by simp; omega
          have g8 : decide ((x : Int) ≤ 57) = false := by simp; omega
          have hok : nameOk i x = false := by simp [nameOk]; omega
          go_wp2
          go_ret
          have hr : r = false := by rw [HR.out, HN.out, hok, Bool.false_and, Bool.false_and]
          rw [hr]
          exact ⟨rfl, HB.out⟩
        ·have g1 : ((x : Int) == 95) = false := by simp; omega
         have g2 : decide ((x : Int) ≥ 97) = false := by simp; omega
         have g4 : decide ((x : Int) ≥ 65) = true := by simp; omega
         have g5 : decide ((x : Int) ≤ 90) = false := by simp; omega
         have g6 : decide ((i : Int) > 0) = true := by simp; omega
         have g7 : decide ((x : Int) ≥ 48) = false := by simp; omega
         have hok : nameOk i x = false := by simp [nameOk]; omega
         go_wp2
         go_ret
         have hr : r = false := by rw [HR.out, HN.out, hok, Bool.false_and, Bool.false_and]
         rw [hr]
         exact ⟨rfl, HB.out⟩
       ·have g1 : ((x : Int) == 95) = false := by simp; omega
        have g2 : decide ((x : Int) ≥ 97) = false := by simp; omega
        have g4 : decide ((x : Int) ≥ 65) = true := by simp; omega
        have g5 : decide ((x : Int) ≤ 90) = false := by simp; omega
        have g6 : decide ((i : Int) > 0) = false := by simp; omega
        have hok : nameOk i x = false := by simp [nameOk]; omega
        go_wp2
        go_ret
        have hr : r = false := by rw [HR.out, HN.out, hok, Bool.false_and, Bool.false_and]
        rw [hr]
        exact ⟨rfl, HB.out⟩
     ·by_cases b6 : 0 < i
      ·by_cases b7 : 48 ≤ x
       ·by_cases b8 : x ≤ 57
        ·have g1 : ((x : Int) == 95) = false := by simp; omega
         have g2 : decide ((x : Int) ≥ 97) = false := by simp; omega
         have g4 : decide ((x : Int) ≥ 65) = false := by simp; omega
         have g6 : decide ((i : Int) > 0) = true := by simp; omega
         have g7 : decide ((x : Int) ≥ 48) = true := by simp; omega
         have g8 : decide ((x : Int) ≤ 57) = true := by simp; omega
         have hok : nameOk i x = true := by simp [nameOk]; omega
         go_wp2
         go_round
         case measure => simp [intOf]; omega
         case rel => exact ⟨i + 1, by omega, by go_num, ⟨by rw [HR.out, HN.out, hok, Bool.true_and]⟩⟩
        ·have g1 : ((x : Int) == 95) = false := by simp; omega
         have g2 : decide ((x : Int) ≥ 97) = false := by simp; omega
         have g4 : decide ((x : Int) ≥ 65) = false := by simp; omega
         have g6 : decide ((i : Int) > 0) = true := by simp; omega
         have g7 : decide ((x : Int) ≥ 48) = true := by simp; omega
         have g8 : decide ((x : Int) ≤ 57) = false := by simp; omega
         have hok : nameOk i x = false := by simp [nameOk]; omega
         go_wp2
         go_ret
         have hr : r = false := by rw [HR.out, HN.out, hok, Bool.false_and, Bool.false_and]
         rw [hr]
         exact ⟨rfl, HB.out⟩
       ·have g1 : ((x : Int) == 95) = false := by simp; omega
        have g2 : decide ((x : Int) ≥ 97) = false := by simp; omega
        have g4 : decide ((x : Int) ≥ 65) = false := by simp; omega
        have g6 : decide ((i : Int) > 0) = true := by simp; omega
        have g7 : decide ((x : Int) ≥ 48) = false := by simp; omega
        have hok : nameOk i x = false := by simp [nameOk]; omega
        go_wp2
        go_ret
        have hr : r = false := by rw [HR.out, HN.out, hok, Bool.false_and, Bool.false_and]
        rw [hr]
        exact ⟨rfl, HB.out⟩
      ·have g1 : ((x : Int) == 95) = false := by simp; omega
       have g2 : decide ((x : Int) ≥ 97) = false := by simp; omega
       have g4 : decide ((x : Int) ≥ 65) = false := by simp; omega
       have g6 : decide ((i : Int) > 0) = false := by simp; omega
       have hok : nameOk i x = false := by simp [nameOk]; omega
       go_wp2
       go_ret
       have hr : r = false := by rw [HR.out, HN.out, hok, Bool.false_and, Bool.false_and]
       rw [hr]
       exact ⟨rfl, HB.out⟩
  ·obtain rfl : i = a0.size := by omega
   have hd : decide ((a0.size : Int) < (a0.size : Int)) = false := by simp
   have hl : nameFrom a0.size (a0.data.toList.drop a0.size) = true := by
    rw [List.drop_eq_nil_of_le (by simp)]
    rfl
   rw [hl, Bool.true_and] at HR
   by_cases m1 : 1 ≤ a0.size
   ·have n1 : decide ((a0.size : Int) ≥ 1) = true := by simp; omega
    by_cases m2 : a0.size ≤ 32
    ·have n2 : decide ((a0.size : Int) ≤ 32) = true := by simp; omega
     go_wp2
     go_ret
     exact ⟨by rw [HR.out]; simp [m1, m2], HB.out⟩
    ·have n2 : decide ((a0.size : Int) ≤ 32) = false := by simp; omega
     go_wp2
     go_ret
     exact ⟨by rw [HR.out]; simp [m1, m2], HB.out⟩
   ·have n1 : decide ((a0.size : Int) ≥ 1) = false := by simp; omega
    go_wp2
    go_ret
    exact ⟨by rw [HR.out]; simp [m1], HB.out⟩

/-! ### payload_rising: function 46 -/
def payload_rising.l0 : Nat → List ByteArray → List ByteArray → Int → Int → Option (Bool)
 | 0, _, _, _, _ => none
 | k + 1, x0, x5, x6, x7 => if x7 < x6 then (if 0 ≤ x7 then (if x7 < (x5.length : Int) then ((payload_name.f (rdOf ByteArray.empty x5 x7)).bind fun t126 => (if t126 = true then (if x7 > 0 then (if 0 ≤ (wrap64 (x7 - 1)) then (if (wrap64 (x7 - 1)) < (x0.length : Int) then (if ((Op.bytesLess ((rdOf ByteArray.empty x0 (wrap64 (x7 - 1))).toList) ((rdOf ByteArray.empty x5 x7).toList)) = true) then (payload_rising.l0 k x0 x5 x6 (wrap64 (x7 + 1))) else (some false)) else (none)) else (none)) else (payload_rising.l0 k x0 x5 x6 (wrap64 (x7 + 1)))) else (some false))) else (none)) else (none)) else (some true)
def payload_rising.f (k : Nat) (l0 : List ByteArray) : Option (Bool) := payload_rising.l0 k l0 l0 (l0.length : Int) 0
theorem payload_rising.mono_l : ∀ k, (∀ y0 y1 y2 y3, LeO (payload_rising.l0 k y0 y1 y2 y3) (payload_rising.l0 (k + 1) y0 y1 y2 y3))
 | 0 => fun _ _ _ _ r h => by simp [payload_rising.l0] at h
 | k + 1 => by
  have ih0 := payload_rising.mono_l k
  ·intro y0 y1 y2 y3
   unfold payload_rising.l0
   repeat' first
   | (with_reducible exact ih0 _ _ _ _)
   | (with_reducible exact LeO.refl _)
   | (with_reducible exact LeO.none _)
   | (with_reducible refine LeO.ite ?_ ?_)
   | (with_reducible refine LeO.bind ?_ (fun _ => ?_))
   | exact ih0 _ _ _ _
   | exact LeO.none _
   | refine LeO.ite ?_ ?_
   | refine LeO.bind ?_ (fun _ => ?_)
theorem payload_rising.mono : ∀ a0 k, LeO (payload_rising.f k a0) (payload_rising.f (k + 1) a0) := by
 intro a0 k
 have ih0 := payload_rising.mono_l k
 unfold payload_rising.f
 repeat' first
   | (with_reducible exact ih0 _ _ _ _)
   | (with_reducible exact LeO.refl _)
   | (with_reducible exact LeO.none _)
   | (with_reducible refine LeO.ite ?_ ?_)
   | (with_reducible refine LeO.bind ?_ (fun _ => ?_))
   | exact ih0 _ _ _ _
   | exact LeO.none _
   | refine LeO.ite ?_ ?_
   | refine LeO.bind ?_ (fun _ => ?_)
set_option maxHeartbeats 8000000 in
set_option maxRecDepth 100000 in
theorem payload_rising.calls (k : Nat) (A0 : Option Addr) (c0 : Nat) (l0 : List ByteArray) (r : Bool) (w : World) (hr0 : Kd.C Kd.string w A0 l0.length l0) (hc0 : l0.length ≤ c0) (h : payload_rising.f k l0 = some r) :
  Calls Tryd.prog 46 #[.slice A0 l0.length c0] w fun e w' => e = .returned (.bool r) ∧ Below w.heap.size w w' := by
 have HR0 := Aside0.mk hr0
 have HC0 := Aside0.mk hc0
 clear hr0 hc0
 have HB := Aside0.mk (Below.refl w.heap.size w)
 have H : (payload_rising.l0 k l0 l0 (l0.length : Int) 0) = some r := h
 clear h
 have H' := Aside0.mk H
 clear H
 go_enter Tryd.func46, Tryd.ntmps46
 go_wp2
 go_loopg [7] k (fun kq v7 w' => ∃ (x7_1 : Int), v7 = .int .i64 x7_1 ∧ Aside0 (payload_rising.l0 kq l0 l0 (l0.length : Int) x7_1 = some r) ∧ Aside0 (kq ≤ k) ∧ Aside0 (Below w.heap.size w w'))
 case atStart => exact ⟨(0), hsr, H', ⟨Nat.le_refl _⟩, ⟨bl HB.out⟩⟩
 case round =>
  clear H'
  obtain ⟨x7_1, rfl, HA, HK1, HB⟩ := hrel
  cases gk with
  | zero => exact absurd HA.out (by simp [payload_rising.l0])
  | succ k1 =>
   have H := HA.out
   clear HA
   simp only [payload_rising.l0] at H
   by_cases c2 : x7_1 < (l0.length : Int)
   ·rw [if_pos c2] at H
    have c2b0 : decide (x7_1 < (l0.length : Int)) = true := decide_eq_true c2
    clear c2
    by_cases c3 : 0 ≤ x7_1
    ·rw [if_pos c3] at H
     have c3b0 : decide (0 ≤ x7_1) = true := decide_eq_true c3
     clear c3
     by_cases c4 : x7_1 < (l0.length : Int)
     ·rw [if_pos c4] at H
      have c4b0 : decide (x7_1 < (l0.length : Int)) = true := decide_eq_true c4
      clear c4
      replace H := Option.bind_eq_some_iff.mp H
      obtain ⟨t126, A50, H⟩ := H
      replace H : (if t126 = true then (if x7_1 > 0 then (if 0 ≤ (wrap64 (x7_1 - 1)) then (if (wrap64 (x7_1 - 1)) < (l0.length : Int) then (if ((Op.bytesLess ((rdOf ByteArray.empty l0 (wrap64 (x7_1 - 1))).toList) ((rdOf ByteArray.empty l0 x7_1).toList)) = true) then (payload_rising.l0 k1 l0 l0 (l0.length : Int) (wrap64 (x7_1 + 1))) else (some false)) else (none)) else (none)) else (payload_rising.l0 k1 l0 l0 (l0.length : Int) (wrap64 (x7_1 + 1)))) else (some false)) = some r := H
      have A5 := Aside0.mk A50
      clear A50
      by_cases c6 : t126 = true
      ·subst c6
       have H1 : (if x7_1 > 0 then (if 0 ≤ (wrap64 (x7_1 - 1)) then (if (wrap64 (x7_1 - 1)) < (l0.length : Int) then (if ((Op.bytesLess ((rdOf ByteArray.empty l0 (wrap64 (x7_1 - 1))).toList) ((rdOf ByteArray.empty l0 x7_1).toList)) = true) then (payload_rising.l0 k1 l0 l0 (l0.length : Int) (wrap64 (x7_1 + 1))) else (some false)) else (none)) else (none)) else (payload_rising.l0 k1 l0 l0 (l0.length : Int) (wrap64 (x7_1 + 1)))) = some r := by rw [if_pos rfl] at H; exact H
       clear H
       have H := H1
       clear H1
       by_cases c7 : x7_1 > 0
       ·rw [if_pos c7] at H
        have c7b0 : decide (0 < x7_1) = true := decide_eq_true c7
        clear c7
        obtain ⟨ji8, hji8⟩ : ∃ j_ : Int, (wrap64 (x7_1 - 1)) = j_ := ⟨_, rfl⟩
        replace H : (if 0 ≤ (ji8) then (if (ji8) < (l0.length : Int) then (if ((Op.bytesLess ((rdOf ByteArray.empty l0 (ji8)).toList) ((rdOf ByteArray.empty l0 x7_1).toList)) = true) then (payload_rising.l0 k1 l0 l0 (l0.length : Int) (wrap64 (x7_1 + 1))) else (some false)) else (none)) else (none)) = some r := by first | (rw [hji8] at H; exact H) | (simp only [hji8] at H ⊢; exact H)
        (try rw [hji8] at A5)
        have hji8w : (IntKind.i64.wrap (x7_1 - 1)) = ji8 := (i64_w _).trans hji8
        by_cases c9 : 0 ≤ (ji8)
        ·rw [if_pos c9] at H
         have c9b0 : decide (0 ≤ (ji8)) = true := decide_eq_true c9
         clear c9
         by_cases c10 : (ji8) < (l0.length : Int)
         ·rw [if_pos c10] at H
          have c10b0 : decide ((ji8) < (l0.length : Int)) = true := decide_eq_true c10
          clear c10
          by_cases c11 : ((Op.bytesLess ((rdOf ByteArray.empty l0 (ji8)).toList) ((rdOf ByteArray.empty l0 x7_1).toList)) = true)
          ·rw [if_pos c11] at H
           have c11b0 : (Op.bytesLess ((rdOf ByteArray.empty l0 (ji8)).toList) ((rdOf ByteArray.empty l0 x7_1).toList)) = true := c11
           clear c11
           have H' := Aside0.mk H
           clear H
           have p125 : 0 ≤ (x7_1 : Int) := of_decide_eq_true ha
           have q125 : x7_1 < (l0.length : Int) := of_decide_eq_true ha
           obtain ⟨ad125, e125, hx125_0⟩ := Kd.at_string HR0.out x7_1 p125 q125
           cases e125
           replace hx125_0 := (HB.out.cell (World.block_lt_of_cell? w _ hx125_0)).trans hx125_0
           replace p125 := eq_true p125
           replace q125 := eq_true q125
           go_wp2_with (first | ((with_reducible refine gate_callee (f := 69) rfl ?_); refine goesL_ (some 13) rfl rfl Tryd.func69 kr rfl #[.string (rdOf ByteArray.empty l0 x7_1)] rfl ga ?_; (with_reducible refine (payload_name.calls (rdOf ByteArray.empty l0 x7_1) true _ A5.out).mono ?_); rintro e w12 ⟨rfl, hb⟩; refine ⟨_, rfl, ?_⟩; replace HB := Aside0.mk (below_step (bl HB.out) hb); (try clear hb); (try clear hb2); (try clear hk); (try clear hi); have p127 : 0 ≤ ((ji8) : Int) := of_decide_eq_true ha; have q127 : (ji8) < (l0.length : Int) := of_decide_eq_true ha; obtain ⟨ad127, e127, hx127_0⟩ := Kd.at_string HR0.out (ji8) p127 q127; obtain rfl : ad125 = ad127 := (by injection e127); replace hx127_0 := (HB.out.cell (World.block_lt_of_cell? w _ hx127_0)).trans hx127_0; replace p127 := eq_true p127; replace q127 := eq_true q127))
           go_roundg k1
           case measure => have := HK1.out; omega
           case rel => exact ⟨(wrap64 (x7_1 + 1)), hsr, H', ⟨by have := HK1.out; omega⟩, ⟨bl HB.out⟩⟩
          ·rw [if_neg c11] at H
           have c11b0 : (Op.bytesLess ((rdOf ByteArray.empty l0 (ji8)).toList) ((rdOf ByteArray.empty l0 x7_1).toList)) = false := by simpa using c11
           clear c11
           obtain rfl := Option.some.inj H
           have p125 : 0 ≤ (x7_1 : Int) := of_decide_eq_true ha
           have q125 : x7_1 < (l0.length : Int) := of_decide_eq_true ha
           obtain ⟨ad125, e125, hx125_0⟩ := Kd.at_string HR0.out x7_1 p125 q125
           cases e125
           replace hx125_0 := (HB.out.cell (World.block_lt_of_cell? w _ hx125_0)).trans hx125_0
           replace p125 := eq_true p125
           replace q125 := eq_true q125
           go_wp2_with (first | ((with_reducible refine gate_callee (f := 69) rfl ?_); refine goesL_ (some 13) rfl rfl Tryd.func69 kr rfl #[.string (rdOf ByteArray.empty l0 x7_1)] rfl ga ?_; (with_reducible refine (payload_name.calls (rdOf ByteArray.empty l0 x7_1) true _ A5.out).mono ?_); rintro e w13 ⟨rfl, hb⟩; refine ⟨_, rfl, ?_⟩; replace HB := Aside0.mk (below_step (bl HB.out) hb); (try clear hb); (try clear hb2); (try clear hk); (try clear hi); have p127 : 0 ≤ ((ji8) : Int) := of_decide_eq_true ha; have q127 : (ji8) < (l0.length : Int) := of_decide_eq_true ha; obtain ⟨ad127, e127, hx127_0⟩ := Kd.at_string HR0.out (ji8) p127 q127; obtain rfl : ad125 = ad127 := (by injection e127); replace hx127_0 := (HB.out.cell (World.block_lt_of_cell? w _ hx127_0)).trans hx127_0; replace p127 := eq_true p127; replace q127 := eq_true q127))
           go_ret
           exact ⟨by first | rfl | (simp [errW_none, errW_some] <;> rfl) | (simp only [← hji8]; first | rfl | (simp [errW_none, errW_some] <;> rfl)) | (simp [*, errW_none, errW_some] <;> rfl), bl HB.out⟩
         ·rw [if_neg c10] at H
          exact absurd H (by simp)
        ·rw [if_neg c9] at H
         exact absurd H (by simp)
       ·rw [if_neg c7] at H
        have c7b0 : decide (0 < x7_1) = false := decide_eq_false c7
        clear c7
        have H' := Aside0.mk H
        clear H
        have p125 : 0 ≤ (x7_1 : Int) := of_decide_eq_true ha
        have q125 : x7_1 < (l0.length : Int) := of_decide_eq_true ha
        obtain ⟨ad125, e125, hx125_0⟩ := Kd.at_string HR0.out x7_1 p125 q125
        cases e125
        replace hx125_0 := (HB.out.cell (World.block_lt_of_cell? w _ hx125_0)).trans hx125_0
        replace p125 := eq_true p125
        replace q125 := eq_true q125
        go_wp2_with (first | ((with_reducible refine gate_callee (f := 69) rfl ?_); refine goesL_ (some 13) rfl rfl Tryd.func69 kr rfl #[.string (rdOf ByteArray.empty l0 x7_1)] rfl ga ?_; (with_reducible refine (payload_name.calls (rdOf ByteArray.empty l0 x7_1) true _ A5.out).mono ?_); rintro e w14 ⟨rfl, hb⟩; refine ⟨_, rfl, ?_⟩; replace HB := Aside0.mk (below_step (bl HB.out) hb); (try clear hb); (try clear hb2); (try clear hk); (try clear hi)))
        go_roundg k1
        case measure => have := HK1.out; omega
        case rel => exact ⟨(wrap64 (x7_1 + 1)), hsr, H', ⟨by have := HK1.out; omega⟩, ⟨bl HB.out⟩⟩
      ·replace c6 := Bool.eq_false_iff.mpr c6
       subst c6
       have H1 : (some false) = some r := by rw [if_neg (show ¬ (false = true) by decide)] at H; exact H
       clear H
       have H := H1
       clear H1
       obtain rfl := Option.some.inj H
       have p125 : 0 ≤ (x7_1 : Int) := of_decide_eq_true ha
       have q125 : x7_1 < (l0.length : Int) := of_decide_eq_true ha
       obtain ⟨ad125, e125, hx125_0⟩ := Kd.at_string HR0.out x7_1 p125 q125
       cases e125
       replace hx125_0 := (HB.out.cell (World.block_lt_of_cell? w _ hx125_0)).trans hx125_0
       replace p125 := eq_true p125
       replace q125 := eq_true q125
       go_wp2_with (first | ((with_reducible refine gate_callee (f := 69) rfl ?_); refine goesL_ (some 13) rfl rfl Tryd.func69 kr rfl #[.string (rdOf ByteArray.empty l0 x7_1)] rfl ga ?_; (with_reducible refine (payload_name.calls (rdOf ByteArray.empty l0 x7_1) false _ A5.out).mono ?_); rintro e w15 ⟨rfl, hb⟩; refine ⟨_, rfl, ?_⟩; replace HB := Aside0.mk (below_step (bl HB.out) hb); (try clear hb); (try clear hb2); (try clear hk); (try clear hi)))
       go_ret
       exact ⟨er0, bl HB.out⟩
     ·rw [if_neg c4] at H
      exact absurd H (by simp)
    ·rw [if_neg c3] at H
     exact absurd H (by simp)
   ·rw [if_neg c2] at H
    have c2b0 : decide (x7_1 < (l0.length : Int)) = false := decide_eq_false c2
    clear c2
    obtain rfl := Option.some.inj H
    go_wp2
    go_ret
    exact ⟨er0, bl HB.out⟩

/-! ### payload_shape_1: function 72 -/
def payload_shape_1.f (a0_0 : ByteArray) (l0_1 : List Int) : Option (ByteArray) := some a0_0
set_option maxHeartbeats 8000000 in
set_option maxRecDepth 100000 in
theorem payload_shape_1.calls (a0_0 : ByteArray) (A0_1 : Option Addr) (c0_1 : Nat) (l0_1 : List Int) (r : ByteArray) (w : World) (hr0_1 : Kd.C (Kd.int .i64) w A0_1 l0_1.length l0_1) (hc0_1 : l0_1.length ≤ c0_1) (h : payload_shape_1.f a0_0 l0_1 = some r) :
  Calls Tryd.prog 72 #[.agg #[.string a0_0, .slice A0_1 l0_1.length c0_1]] w fun e w' => e = .returned (.string r) ∧ Below w.heap.size w w' := by
 have hu59 := Tryd.underlying59
 have HR0_1 := Aside0.mk hr0_1
 have HC0_1 := Aside0.mk hc0_1
 clear hr0_1 hc0_1
 have HB := Aside0.mk (Below.refl w.heap.size w)
 have H : (some a0_0) = some r := h
 clear h
 obtain rfl := Option.some.inj H
 go_enter Tryd.func72, Tryd.ntmps72
 go_wp2_with (first | ((with_reducible refine gate_dst (N := 1) rfl ?_); refine box_event ?hg (N := 1) ?hd (cs := #[.string a0_0, .slice A0_1 l0_1.length c0_1]) (t := 59) ?hr ?_; (case hd => rfl); (case hg => rfl); (case hr => first | (go_simp; done) | (go_simp; rfl)); intro gb128 hg w2 hbox hb; have BK128 := Aside0.mk (hbox); have GW128 := Aside0.mk (gs (w := w) hg (bl HB.out)); have GE128 := Aside0.mk (gs (w := w) hg (bl HB.out)); replace HB := Aside0.mk (below_step (bl HB.out) hb); clear hb hbox hg; obtain ⟨hcz3_0, hcz3_1, hfz3_0, hfz3_1⟩ := cz2 BK128.out))
 go_ret
 exact ⟨er0, bl HB.out⟩

/-! ### api_Vec: function 71 -/
def api_Vec.l0 : Nat → List ByteArray → List (S59) → Int → Int → Option (List ByteArray)
 | 0, _, _, _, _ => none
 | k + 1, x5, x8, x9, x10 => if x10 < x9 then (if 0 ≤ x10 then (if x10 < (x8.length : Int) then ((payload_shape_1.f ((rd_T59 x8 x10).f0) ((rd_T59 x8 x10).f1)).bind fun t131 => (if x5.length < 8796093022208 then (api_Vec.l0 k (x5 ++ [t131]) x8 x9 (wrap64 (x10 + 1))) else (none))) else (none)) else (none)) else (some x5)
def api_Vec.f (k : Nat) (l0 : List (S59)) (a1 : Nat) : Option (List ByteArray) := if a1 = 72 then (api_Vec.l0 k ([] : List ByteArray) l0 (l0.length : Int) 0) else (none)
theorem api_Vec.mono_l : ∀ k, (∀ y0 y1 y2 y3, LeO (api_Vec.l0 k y0 y1 y2 y3) (api_Vec.l0 (k + 1) y0 y1 y2 y3))
 | 0 => fun _ _ _ _ r h => by simp [api_Vec.l0] at h
 | k + 1 => by
  have ih0 := api_Vec.mono_l k
  ·intro y0 y1 y2 y3
   unfold api_Vec.l0
   repeat' first
   | (with_reducible exact ih0 _ _ _ _)
   | (with_reducible exact LeO.refl _)
   | (with_reducible exact LeO.none _)
   | (with_reducible refine LeO.ite ?_ ?_)
   | (with_reducible refine LeO.bind ?_ (fun _ => ?_))
   | exact ih0 _ _ _ _
   | exact LeO.none _
   | refine LeO.ite ?_ ?_
   | refine LeO.bind ?_ (fun _ => ?_)
theorem api_Vec.mono : ∀ a0 a1 k, LeO (api_Vec.f k a0 a1) (api_Vec.f (k + 1) a0 a1) := by
 intro a0 a1 k
 have ih0 := api_Vec.mono_l k
 unfold api_Vec.f
 repeat' first
   | (with_reducible exact ih0 _ _ _ _)
   | (with_reducible exact LeO.refl _)
   | (with_reducible exact LeO.none _)
   | (with_reducible refine LeO.ite ?_ ?_)
   | (with_reducible refine LeO.bind ?_ (fun _ => ?_))
   | exact ih0 _ _ _ _
   | exact LeO.none _
   | refine LeO.ite ?_ ?_
   | refine LeO.bind ?_ (fun _ => ?_)
set_option maxHeartbeats 8000000 in
set_option maxRecDepth 100000 in
theorem api_Vec.calls (k : Nat) (A0 : Option Addr) (c0 : Nat) (l0 : List (S59)) (a1 : Nat) (r : List ByteArray) (w : World) (hr0 : Kd.C k59 w A0 l0.length l0) (hc0 : l0.length ≤ c0) (h : api_Vec.f k l0 a1 = some r) :
  Calls Tryd.prog 71 #[.slice A0 l0.length c0, .func (.func a1) #[] #[]] w fun e w' => ∃ v0_ : Value, e = .returned (v0_) ∧ Kd.R Kd.string 9 w' w.heap.size (fun _ => True) v0_ r ∧ Below w.heap.size w w' := by
 have hu59 := Tryd.underlying59
 have HR0 := Aside0.mk hr0
 have HC0 := Aside0.mk hc0
 clear hr0 hc0
 have HB := Aside0.mk (Below.refl w.heap.size w)
 have H : (if a1 = 72 then (api_Vec.l0 k ([] : List ByteArray) l0 (l0.length : Int) 0) else (none)) = some r := h
 clear h
 by_cases c3 : a1 = 72
 ·rw [if_pos c3] at H
  subst c3
  have H' := Aside0.mk H
  clear H
  go_enter Tryd.func71, Tryd.ntmps71
  go_wp2
  go_loopg [5, 10] k (fun kq v5 v10 w' => ∃ (x5_1 : List ByteArray) (x10_1 : Int), v10 = .int .i64 x10_1 ∧ Aside0 (api_Vec.l0 kq x5_1 l0 (l0.length : Int) x10_1 = some r) ∧ Aside0 (kq ≤ k) ∧ Aside0 (Kd.R Kd.string 9 w' w.heap.size (fun _ => True) v5 x5_1) ∧ Aside0 (Below w.heap.size w w'))
  case atStart => exact ⟨(([] : List ByteArray)), (0), hsr, H', ⟨Nat.le_refl _⟩, ⟨by first | exact Kd.R_nil _ _ _ _ _ | exact Kd.N_nil _ _ _ _ _ | exact Kd.V_nil _ _ _ _ _ | exact Kd.Q_nil _ _ _ _ _ | exact Kd.S_nil _ _ _ _ _⟩, ⟨bl HB.out⟩⟩
  case round =>
   clear H'
   try clear p2
   try clear c3
   obtain ⟨x5_1, x10_1, rfl, HA, HK1, HO_5, HB⟩ := hrel
   cases gk with
   | zero => exact absurd HA.out (by simp [api_Vec.l0])
   | succ k1 =>
    have H := HA.out
    clear HA
    simp only [api_Vec.l0] at H
    by_cases c4 : x10_1 < (l0.length : Int)
    ·rw [if_pos c4] at H
     have c4b0 : decide (x10_1 < (l0.length : Int)) = true := decide_eq_true c4
     clear c4
     by_cases c5 : 0 ≤ x10_1
     ·rw [if_pos c5] at H
      have c5b0 : decide (0 ≤ x10_1) = true := decide_eq_true c5
      clear c5
      by_cases c6 : x10_1 < (l0.length : Int)
      ·rw [if_pos c6] at H
       have c6b0 : decide (x10_1 < (l0.length : Int)) = true := decide_eq_true c6
       clear c6
       replace H := Option.bind_eq_some_iff.mp H
       obtain ⟨t131, A70, H⟩ := H
       replace H : (if x5_1.length < 8796093022208 then (api_Vec.l0 k1 (x5_1 ++ [t131]) l0 (l0.length : Int) (wrap64 (x10_1 + 1))) else (none)) = some r := H
       have A7 := Aside0.mk A70
       clear A70
       by_cases c8 : x5_1.length < 8796093022208
       ·rw [if_pos c8] at H
        have LMc8 := Aside0.mk c8
        clear c8
        obtain ⟨y132, hy132⟩ : ∃ y_ : List ByteArray, y_ = (x5_1 ++ [t131]) := ⟨_, rfl⟩
        replace H : (api_Vec.l0 k1 y132 l0 (l0.length : Int) (wrap64 (x10_1 + 1))) = some r := by first | (rw [hy132]; with_reducible exact H) | (have H2_ := (Option.bind_some _ _).symm.trans H; rw [hy132]; with_reducible exact H2_) | (have H2_ := (Option.bind_some _ _).symm.trans H; with_reducible exact H2_) | with_reducible exact H | (rw [hy132]; exact H) | exact H
        have Ny132 := Aside0.mk hy132
        clear hy132
        have H' := Aside0.mk H
        clear H
        have p129 : 0 ≤ (x10_1 : Int) := of_decide_eq_true ha
        have q129 : x10_1 < (l0.length : Int) := of_decide_eq_true ha
        obtain ⟨ad129, A129_1, c129_1, e129, hx129_0, hx129_1, hl129_1, hi129_1⟩ := at_T59 HR0.out x10_1 p129 q129
        cases e129
        replace hx129_0 := (HB.out.cell (World.block_lt_of_cell? w _ hx129_0)).trans hx129_0
        replace hx129_1 := (HB.out.cell (World.block_lt_of_cell? w _ hx129_1)).trans hx129_1
        have HR129_1 := Aside0.mk hi129_1
        have HC129_1 := Aside0.mk hl129_1
        clear hi129_1 hl129_1
        replace p129 := eq_true p129
        replace q129 := eq_true q129
        go_wp2_with (first | ((with_reducible refine gate_dst (N := 7) rfl ?_); refine box_event ?hg (N := 7) ?hd (cs := #[.string (⟨#[]⟩ : ByteArray), .slice none 0 0]) (t := 59) ?hr ?_; (case hd => rfl); (case hg => rfl); (case hr => first | (go_simp; done) | (go_simp; rfl)); intro gb130 hg w9 hbox hb; replace HO_5 := Aside0.mk (Kd.R_below (pR HO_5.out) hb); have BK130 := Aside0.mk (hbox); have GW130 := Aside0.mk (gs (w := w) hg (bl HB.out)); have GE130 := Aside0.mk (gs (w := w) hg (bl HB.out)); replace HB := Aside0.mk (below_step (bl HB.out) hb); clear hb hbox hg; obtain ⟨hcz10_0, hcz10_1, hfz10_0, hfz10_1⟩ := cz2 BK130.out) | (go_at_call 72; (with_reducible refine (payload_shape_1.calls ((rd_T59 l0 x10_1).f0) _ _ ((rd_T59 l0 x10_1).f1) t131 _ ?side1 ?side2 A7.out).mono ?_); (case side1 => exact Kd.C_below HR129_1.out (bl HB.out)); (case side2 => exact HC129_1.out); rintro e w11 ⟨rfl, hb⟩; replace HO_5 := Aside0.mk (Kd.R_below (by (with_reducible repeat (first | apply Kd.R_alloc | apply Kd.R_drewN | apply Kd.R_drew)); exact (Kd.R_mono (Kd.R_far (p := ⟨gb130, 1, none⟩) (Kd.R_far (p := ⟨gb130, 0, none⟩) (Kd.R_types HO_5.out BK130.out (by decide)) (fun _ hk => hk.2) (.string ((rd_T59 l0 x10_1).f0))) (fun _ hk => hk.2) (.slice A129_1 ((rd_T59 l0 x10_1).f1).length c129_1)) (fun _ h_ => h_.1))) hb); replace BK130 := Aside0.mk (blk_below (g := gb130) (o := .cells #[.string ((rd_T59 l0 x10_1).f0), .slice A129_1 ((rd_T59 l0 x10_1).f1).length c129_1] 59 (0, 0)) (by refine pk ?_; refine blk_put (cs := #[.string ((rd_T59 l0 x10_1).f0), .slice none 0 0]) ?_ 1 _ rfl; refine pk ?_; refine blk_put (cs := #[.string (⟨#[]⟩ : ByteArray), .slice none 0 0]) ?_ 0 _ rfl; exact pk BK130.out) hb); replace HB := Aside0.mk (below_step (bl HB.out) hb); (try clear hb); (try clear hb2); (try clear hk); (try clear hi)) | ((with_reducible refine gate_builtin (b := .append) (xs := #[.tmp 14, .tmp 18]) rfl ?_); at_builtin; refine Kd.R_append Kd.string (w0 := w) w.heap.size rfl (.tmp 14) (.tmp 18) 35 9 (.string ⟨#[]⟩) 16 rfl Tryd.underlying35 info9 rfl (by decide) (by omega) u5 x5_1 t131 [.string t131] (fun _ => True) (fun _ => False) rfl rfl ?aP (fun _ hk => hk.elim) ?aF ?aO ?aB ?aS ?aL ?_; (case aP => exact rfl); (case aB => exact (bl HB.out)); (case aF => exact (fun _ _ => trivial)); (case aO => exact (pR HO_5.out)); (case aS => exact (below_size (bl HB.out))); (case aL => have := LMc8.out; omega); intro v133 w12 ho hb hg hat; rw [← Ny132.out] at ho; replace BK130 := Aside0.mk (blk_grown (g := gb130) (o := .cells #[.string ((rd_T59 l0 x10_1).f0), .slice A129_1 ((rd_T59 l0 x10_1).f1).length c129_1] 59 (0, 0)) (pk BK130.out) hg (Kd.R_ne HO_5.out BK130.out (by decide))); replace HB := Aside0.mk (hb); have HO134 := Aside0.mk (ho); clear HO_5; clear ho hb hg hat))
        go_roundg k1
        case measure => have := HK1.out; omega
        case rel => exact ⟨(y132), (wrap64 (x10_1 + 1)), hsr, H', ⟨by have := HK1.out; omega⟩, ⟨pR HO134.out⟩, ⟨bl HB.out⟩⟩
       ·rw [if_neg c8] at H
        exact absurd H (by simp)
      ·rw [if_neg c6] at H
       exact absurd H (by simp)
     ·rw [if_neg c5] at H
      exact absurd H (by simp)
    ·rw [if_neg c4] at H
     have c4b0 : decide (x10_1 < (l0.length : Int)) = false := decide_eq_false c4
     clear c4
     obtain rfl := Option.some.inj H
     go_wp2
     go_ret
     exact ⟨_, er0, pR HO_5.out, bl HB.out⟩
 ·rw [if_neg c3] at H
  exact absurd H (by simp)

/-! ### payload_shape_2: function 74 -/
def payload_shape_2.f (a0_0 : ByteArray) (a0_1 : Int) (a0_2 : Int) (a0_3 : ByteArray) : Option (ByteArray) := some a0_0
set_option maxHeartbeats 8000000 in
set_option maxRecDepth 100000 in
theorem payload_shape_2.calls (a0_0 : ByteArray) (a0_1 : Int) (a0_2 : Int) (a0_3 : ByteArray) (r : ByteArray) (w : World) (h : payload_shape_2.f a0_0 a0_1 a0_2 a0_3 = some r) :
  Calls Tryd.prog 74 #[.agg #[.string a0_0, .int .i64 a0_1, .int .i64 a0_2, .string a0_3]] w fun e w' => e = .returned (.string r) ∧ Below w.heap.size w w' := by
 have hu61 := Tryd.underlying61
 have HB := Aside0.mk (Below.refl w.heap.size w)
 have H : (some a0_0) = some r := h
 clear h
 obtain rfl := Option.some.inj H
 go_enter Tryd.func74, Tryd.ntmps74
 go_wp2_with (first | ((with_reducible refine gate_dst (N := 1) rfl ?_); refine box_event ?hg (N := 1) ?hd (cs := #[.string a0_0, .int .i64 a0_1, .int .i64 a0_2, .string a0_3]) (t := 61) ?hr ?_; (case hd => rfl); (case hg => rfl); (case hr => first | (go_simp; done) | (go_simp; rfl)); intro gb135 hg w2 hbox hb; have BK135 := Aside0.mk (hbox); have GW135 := Aside0.mk (gs (w := w) hg (bl HB.out)); have GE135 := Aside0.mk (gs (w := w) hg (bl HB.out)); replace HB := Aside0.mk (below_step (bl HB.out) hb); clear hb hbox hg; obtain ⟨hcz3_0, hcz3_1, hcz3_2, hcz3_3, hfz3_0, hfz3_1, hfz3_2, hfz3_3⟩ := cz4 BK135.out))
 go_ret
 exact ⟨er0, bl HB.out⟩

/-! ### api_Field_73: function 73 -/
def api_Field_73.l0 : Nat → List ByteArray → List (S61) → Int → Int → Option (List ByteArray)
 | 0, _, _, _, _ => none
 | k + 1, x5, x8, x9, x10 => if x10 < x9 then (if 0 ≤ x10 then (if x10 < (x8.length : Int) then ((payload_shape_2.f ((rd_T61 x8 x10).f0) ((rd_T61 x8 x10).f1.f0) ((rd_T61 x8 x10).f1.f1) ((rd_T61 x8 x10).f1.f2)).bind fun t138 => (if x5.length < 8796093022208 then (api_Field_73.l0 k (x5 ++ [t138]) x8 x9 (wrap64 (x10 + 1))) else (none))) else (none)) else (none)) else (some x5)
def api_Field_73.f (k : Nat) (l0 : List (S61)) (a1 : Nat) : Option (List ByteArray) := if a1 = 74 then (api_Field_73.l0 k ([] : List ByteArray) l0 (l0.length : Int) 0) else (none)
theorem api_Field_73.mono_l : ∀ k, (∀ y0 y1 y2 y3, LeO (api_Field_73.l0 k y0 y1 y2 y3) (api_Field_73.l0 (k + 1) y0 y1 y2 y3))
 | 0 => fun _ _ _ _ r h => by simp [api_Field_73.l0] at h
 | k + 1 => by
  have ih0 := api_Field_73.mono_l k
  ·intro y0 y1 y2 y3
   unfold api_Field_73.l0
   repeat' first
   | (with_reducible exact ih0 _ _ _ _)
   | (with_reducible exact LeO.refl _)
   | (with_reducible exact LeO.none _)
   | (with_reducible refine LeO.ite ?_ ?_)
   | (with_reducible refine LeO.bind ?_ (fun _ => ?_))
   | exact ih0 _ _ _ _
   | exact LeO.none _
   | refine LeO.ite ?_ ?_
   | refine LeO.bind ?_ (fun _ => ?_)
theorem api_Field_73.mono : ∀ a0 a1 k, LeO (api_Field_73.f k a0 a1) (api_Field_73.f (k + 1) a0 a1) := by
 intro a0 a1 k
 have ih0 := api_Field_73.mono_l k
 unfold api_Field_73.f
 repeat' first
   | (with_reducible exact ih0 _ _ _ _)
   | (with_reducible exact LeO.refl _)
   | (with_reducible exact LeO.none _)
   | (with_reducible refine LeO.ite ?_ ?_)
   | (with_reducible refine LeO.bind ?_ (fun _ => ?_))
   | exact ih0 _ _ _ _
   | exact LeO.none _
   | refine LeO.ite ?_ ?_
   | refine LeO.bind ?_ (fun _ => ?_)
set_option maxHeartbeats 8000000 in
set_option maxRecDepth 100000 in
theorem api_Field_73.calls (k : Nat) (A0 : Option Addr) (c0 : Nat) (l0 : List (S61)) (a1 : Nat) (r : List ByteArray) (w : World) (hr0 : Kd.C k61 w A0 l0.length l0) (hc0 : l0.length ≤ c0) (h : api_Field_73.f k l0 a1 = some r) :
  Calls Tryd.prog 73 #[.slice A0 l0.length c0, .func (.func a1) #[] #[]] w fun e w' => ∃ v0_ : Value, e = .returned (v0_) ∧ Kd.R Kd.string 9 w' w.heap.size (fun _ => True) v0_ r ∧ Below w.heap.size w w' := by
 have hu61 := Tryd.underlying61
 have HR0 := Aside0.mk hr0
 have HC0 := Aside0.mk hc0
 clear hr0 hc0
 have HB := Aside0.mk (Below.refl w.heap.size w)
 have H : (if a1 = 74 then (api_Field_73.l0 k ([] : List ByteArray) l0 (l0.length : Int) 0) else (none)) = some r := h
 clear h
 by_cases c3 : a1 = 74
 ·rw [if_pos c3] at H
  subst c3
  have H' := Aside0.mk H
  clear H
  go_enter Tryd.func73, Tryd.ntmps73
  go_wp2
  go_loopg [5, 10] k (fun kq v5 v10 w' => ∃ (x5_1 : List ByteArray) (x10_1 : Int), v10 = .int .i64 x10_1 ∧ Aside0 (api_Field_73.l0 kq x5_1 l0 (l0.length : Int) x10_1 = some r) ∧ Aside0 (kq ≤ k) ∧ Aside0 (Kd.R Kd.string 9 w' w.heap.size (fun _ => True) v5 x5_1) ∧ Aside0 (Below w.heap.size w w'))
  case atStart => exact ⟨(([] : List ByteArray)), (0), hsr, H', ⟨Nat.le_refl _⟩, ⟨by first | exact Kd.R_nil _ _ _ _ _ | exact Kd.N_nil _ _ _ _ _ | exact Kd.V_nil _ _ _ _ _ | exact Kd.Q_nil _ _ _ _ _ | exact Kd.S_nil _ _ _ _ _⟩, ⟨bl HB.out⟩⟩
  case round =>
   clear H'
   try clear p2
   try clear c3
   obtain ⟨x5_1, x10_1, rfl, HA, HK1, HO_5, HB⟩ := hrel
   cases gk with
   | zero => exact absurd HA.out (by simp [api_Field_73.l0])
   | succ k1 =>
    have H := HA.out
    clear HA
    simp only [api_Field_73.l0] at H
    by_cases c4 : x10_1 < (l0.length : Int)
    ·rw [if_pos c4] at H
     have c4b0 : decide (x10_1 < (l0.length : Int)) = true := decide_eq_true c4
     clear c4
     by_cases c5 : 0 ≤ x10_1
     ·rw [if_pos c5] at H
      have c5b0 : decide (0 ≤ x10_1) = true := decide_eq_true c5
      clear c5
      by_cases c6 : x10_1 < (l0.length : Int)
      ·rw [if_pos c6] at H
       have c6b0 : decide (x10_1 < (l0.length : Int)) = true := decide_eq_true c6
       clear c6
       replace H := Option.bind_eq_some_iff.mp H
       obtain ⟨t138, A70, H⟩ := H
       replace H : (if x5_1.length < 8796093022208 then (api_Field_73.l0 k1 (x5_1 ++ [t138]) l0 (l0.length : Int) (wrap64 (x10_1 + 1))) else (none)) = some r := H
       have A7 := Aside0.mk A70
       clear A70
       by_cases c8 : x5_1.length < 8796093022208
       ·rw [if_pos c8] at H
        have LMc8 := Aside0.mk c8
        clear c8
        obtain ⟨y139, hy139⟩ : ∃ y_ : List ByteArray, y_ = (x5_1 ++ [t138]) := ⟨_, rfl⟩
        replace H : (api_Field_73.l0 k1 y139 l0 (l0.length : Int) (wrap64 (x10_1 + 1))) = some r := by first | (rw [hy139]; with_reducible exact H) | (have H2_ := (Option.bind_some _ _).symm.trans H; rw [hy139]; with_reducible exact H2_) | (have H2_ := (Option.bind_some _ _).symm.trans H; with_reducible exact H2_) | with_reducible exact H | (rw [hy139]; exact H) | exact H
        have Ny139 := Aside0.mk hy139
        clear hy139
        have H' := Aside0.mk H
        clear H
        have p136 : 0 ≤ (x10_1 : Int) := of_decide_eq_true ha
        have q136 : x10_1 < (l0.length : Int) := of_decide_eq_true ha
        obtain ⟨ad136, e136, hx136_0, hx136_1, hx136_2, hx136_3⟩ := at_T61 HR0.out x10_1 p136 q136
        cases e136
        replace hx136_0 := (HB.out.cell (World.block_lt_of_cell? w _ hx136_0)).trans hx136_0
        replace hx136_1 := (HB.out.cell (World.block_lt_of_cell? w _ hx136_1)).trans hx136_1
        replace hx136_2 := (HB.out.cell (World.block_lt_of_cell? w _ hx136_2)).trans hx136_2
        replace hx136_3 := (HB.out.cell (World.block_lt_of_cell? w _ hx136_3)).trans hx136_3
        replace p136 := eq_true p136
        replace q136 := eq_true q136
        go_wp2_with (first | ((with_reducible refine gate_dst (N := 7) rfl ?_); refine box_event ?hg (N := 7) ?hd (cs := #[.string (⟨#[]⟩ : ByteArray), .int .i64 0, .int .i64 0, .string (⟨#[]⟩ : ByteArray)]) (t := 61) ?hr ?_; (case hd => rfl); (case hg => rfl); (case hr => first | (go_simp; done) | (go_simp; rfl)); intro gb137 hg w9 hbox hb; replace HO_5 := Aside0.mk (Kd.R_below (pR HO_5.out) hb); have BK137 := Aside0.mk (hbox); have GW137 := Aside0.mk (gs (w := w) hg (bl HB.out)); have GE137 := Aside0.mk (gs (w := w) hg (bl HB.out)); replace HB := Aside0.mk (below_step (bl HB.out) hb); clear hb hbox hg; obtain ⟨hcz10_0, hcz10_1, hcz10_2, hcz10_3, hfz10_0, hfz10_1, hfz10_2, hfz10_3⟩ := cz4 BK137.out) | (go_at_call 74; (with_reducible refine (payload_shape_2.calls ((rd_T61 l0 x10_1).f0) ((rd_T61 l0 x10_1).f1.f0) ((rd_T61 l0 x10_1).f1.f1) ((rd_T61 l0 x10_1).f1.f2) t138 _ A7.out).mono ?_); rintro e w11 ⟨rfl, hb⟩; replace HO_5 := Aside0.mk (Kd.R_below (by (with_reducible repeat (first | apply Kd.R_alloc | apply Kd.R_drewN | apply Kd.R_drew)); exact (Kd.R_mono (Kd.R_far (p := ⟨gb137, 3, none⟩) (Kd.R_far (p := ⟨gb137, 2, none⟩) (Kd.R_far (p := ⟨gb137, 1, none⟩) (Kd.R_far (p := ⟨gb137, 0, none⟩) (Kd.R_types HO_5.out BK137.out (by decide)) (fun _ hk => hk.2) (.string ((rd_T61 l0 x10_1).f0))) (fun _ hk => hk.2) (.int .i64 ((rd_T61 l0 x10_1).f1.f0))) (fun _ hk => hk.2) (.int .i64 ((rd_T61 l0 x10_1).f1.f1))) (fun _ hk => hk.2) (.string ((rd_T61 l0 x10_1).f1.f2))) (fun _ h_ => h_.1))) hb); replace BK137 := Aside0.mk (blk_below (g := gb137) (o := .cells #[.string ((rd_T61 l0 x10_1).f0), .int .i64 ((rd_T61 l0 x10_1).f1.f0), .int .i64 ((rd_T61 l0 x10_1).f1.f1), .string ((rd_T61 l0 x10_1).f1.f2)] 61 (0, 0)) (by refine pk ?_; refine blk_put (cs := #[.string ((rd_T61 l0 x10_1).f0), .int .i64 ((rd_T61 l0 x10_1).f1.f0), .int .i64 ((rd_T61 l0 x10_1).f1.f1), .string (⟨#[]⟩ : ByteArray)]) ?_ 3 _ rfl; refine pk ?_; refine blk_put (cs := #[.string ((rd_T61 l0 x10_1).f0), .int .i64 ((rd_T61 l0 x10_1).f1.f0), .int .i64 0, .string (⟨#[]⟩ : ByteArray)]) ?_ 2 _ rfl; refine pk ?_; refine blk_put (cs := #[.string ((rd_T61 l0 x10_1).f0), .int .i64 0, .int .i64 0, .string (⟨#[]⟩ : ByteArray)]) ?_ 1 _ rfl; refine pk ?_; refine blk_put (cs := #[.string (⟨#[]⟩ : ByteArray), .int .i64 0, .int .i64 0, .string (⟨#[]⟩ : ByteArray)]) ?_ 0 _ rfl; exact pk BK137.out) hb); replace HB := Aside0.mk (below_step (bl HB.out) hb); (try clear hb); (try clear hb2); (try clear hk); (try clear hi)) | ((with_reducible refine gate_builtin (b := .append) (xs := #[.tmp 14, .tmp 18]) rfl ?_); at_builtin; refine Kd.R_append Kd.string (w0 := w) w.heap.size rfl (.tmp 14) (.tmp 18) 35 9 (.string ⟨#[]⟩) 16 rfl Tryd.underlying35 info9 rfl (by decide) (by omega) u5 x5_1 t138 [.string t138] (fun _ => True) (fun _ => False) rfl rfl ?aP (fun _ hk => hk.elim) ?aF ?aO ?aB ?aS ?aL ?_; (case aP => exact rfl); (case aB => exact (bl HB.out)); (case aF => exact (fun _ _ => trivial)); (case aO => exact (pR HO_5.out)); (case aS => exact (below_size (bl HB.out))); (case aL => have := LMc8.out; omega); intro v140 w12 ho hb hg hat; rw [← Ny139.out] at ho; replace BK137 := Aside0.mk (blk_grown (g := gb137) (o := .cells #[.string ((rd_T61 l0 x10_1).f0), .int .i64 ((rd_T61 l0 x10_1).f1.f0), .int .i64 ((rd_T61 l0 x10_1).f1.f1), .string ((rd_T61 l0 x10_1).f1.f2)] 61 (0, 0)) (pk BK137.out) hg (Kd.R_ne HO_5.out BK137.out (by decide))); replace HB := Aside0.mk (hb); have HO141 := Aside0.mk (ho); clear HO_5; clear ho hb hg hat))
        go_roundg k1
        case measure => have := HK1.out; omega
        case rel => exact ⟨(y139), (wrap64 (x10_1 + 1)), hsr, H', ⟨by have := HK1.out; omega⟩, ⟨pR HO141.out⟩, ⟨bl HB.out⟩⟩
       ·rw [if_neg c8] at H
        exact absurd H (by simp)
      ·rw [if_neg c6] at H
       exact absurd H (by simp)
     ·rw [if_neg c5] at H
      exact absurd H (by simp)
    ·rw [if_neg c4] at H
     have c4b0 : decide (x10_1 < (l0.length : Int)) = false := decide_eq_false c4
     clear c4
     obtain rfl := Option.some.inj H
     go_wp2
     go_ret
     exact ⟨_, er0, pR HO_5.out, bl HB.out⟩
 ·rw [if_neg c3] at H
  exact absurd H (by simp)

end Go.Proofs.YtbeljekpknpadaaDoor.PPayU
