-- Written by a program of this session on top of the print: some functions by hand.
import Derived.Test.YtomhgoahhlnjpaaGreatDoorPWalx0
namespace Go.Proofs.YtomhgoahhlnjpaaGreatDoor.PWal
open Go.RowKit Go.Proofs.YtomhgoahhlnjpaaGreatDoorW.PrintWords Go.Proofs.YtomhgoahhlnjpaaGreatDoorW.PrintLast Go.Proofs.YtomhgoahhlnjpaaGreatDoorW.PrintMore
attribute [local go_sem] max2_int min2_int max_two min_two max_three min_three max_four min_four   -- for this text's walks alone
set_option linter.unusedVariables false
set_option linter.unusedSimpArgs false

/-! ### num_Fix: function 49 -/
mutual
def num_Fix.j0 : Nat → Int → Int → Bool → Option (ByteArray × Int)
 | 0, _, _, _ => none
 | k + 1, x0, x1, x24 => if x24 = true then (some ((⟨#[]⟩ : ByteArray), 11)) else (if 0 ≤ x1 then (if (x1 : Int).toNat ≤ 281474976710656 then ((some (List.replicate (x1 : Int).toNat 0 : List Int)).bind fun y101 => (num_Fix.l0 k x0 y101 (y101.length : Int) 0)) else (none)) else (none))
def num_Fix.l0 : Nat → Int → List Int → Int → Int → Option (ByteArray × Int)
 | 0, _, _, _, _ => none
 | k + 1, x0, x6, x28, x29 => if x29 < x28 then (if 0 ≤ (wrap64 (8 * x29)) then (if 0 ≤ x29 then (if x29 < (x6.length : Int) then (num_Fix.l0 k x0 (x6.set (x29 : Int).toNat ((shr .u64 x0 (wrap64 (8 * x29))) % 256)) x28 (wrap64 (x29 + 1))) else (none)) else (none)) else (none)) else (some (strOfNums x6, 0))
end
def num_Fix.f (k : Nat) (a0 : Int) (a1 : Int) : Option (ByteArray × Int) := if a1 < 1 then (num_Fix.j0 k a0 a1 true) else (if a1 > 8 then (num_Fix.j0 k a0 a1 true) else (if a1 < 8 then (if 0 ≤ (wrap64 (8 * a1)) then (num_Fix.j0 k a0 a1 ((shr .u64 a0 (wrap64 (8 * a1))) != 0)) else (none)) else (num_Fix.j0 k a0 a1 false)))
theorem num_Fix.mono_l : ∀ k, (∀ y0 y1 y2, LeO (num_Fix.j0 k y0 y1 y2) (num_Fix.j0 (k + 1) y0 y1 y2)) ∧ (∀ y0 y1 y2 y3, LeO (num_Fix.l0 k y0 y1 y2 y3) (num_Fix.l0 (k + 1) y0 y1 y2 y3))
 | 0 => ⟨fun _ _ _ r h => by simp [num_Fix.j0] at h, fun _ _ _ _ r h => by simp [num_Fix.l0] at h⟩
 | k + 1 => by
  obtain ⟨ih0, ih1⟩ := num_Fix.mono_l k
  refine ⟨?_, ?_⟩
  ·intro y0 y1 y2
   unfold num_Fix.j0
   repeat' first
   | (with_reducible exact ih0 _ _ _)
   | (with_reducible exact ih1 _ _ _ _)
   | (with_reducible exact LeO.refl _)
   | (with_reducible exact LeO.none _)
   | (with_reducible refine LeO.ite ?_ ?_)
   | (with_reducible refine LeO.bind ?_ (fun _ => ?_))
   | exact ih0 _ _ _
   | exact ih1 _ _ _ _
   | exact LeO.none _
   | refine LeO.ite ?_ ?_
   | refine LeO.bind ?_ (fun _ => ?_)
  ·intro y0 y1 y2 y3
   unfold num_Fix.l0
   repeat' first
   | (with_reducible exact ih0 _ _ _)
   | (with_reducible exact ih1 _ _ _ _)
   | (with_reducible exact LeO.refl _)
   | (with_reducible exact LeO.none _)
   | (with_reducible refine LeO.ite ?_ ?_)
   | (with_reducible refine LeO.bind ?_ (fun _ => ?_))
   | exact ih0 _ _ _
   | exact ih1 _ _ _ _
   | exact LeO.none _
   | refine LeO.ite ?_ ?_
   | refine LeO.bind ?_ (fun _ => ?_)
theorem num_Fix.mono : ∀ a0 a1 k, LeO (num_Fix.f k a0 a1) (num_Fix.f (k + 1) a0 a1) := by
 intro a0 a1 k
 obtain ⟨ih0, ih1⟩ := num_Fix.mono_l k
 unfold num_Fix.f
 repeat' first
   | (with_reducible exact ih0 _ _ _)
   | (with_reducible exact ih1 _ _ _ _)
   | (with_reducible exact LeO.refl _)
   | (with_reducible exact LeO.none _)
   | (with_reducible refine LeO.ite ?_ ?_)
   | (with_reducible refine LeO.bind ?_ (fun _ => ?_))
   | exact ih0 _ _ _
   | exact ih1 _ _ _ _
   | exact LeO.none _
   | refine LeO.ite ?_ ?_
   | refine LeO.bind ?_ (fun _ => ?_)
set_option maxHeartbeats 8000000 in
set_option maxRecDepth 100000 in
theorem num_Fix.calls (k : Nat) (a0 : Int) (a1 : Int) (r1 : ByteArray) (r2 : Int) (w : World) (h : num_Fix.f k a0 a1 = some (r1, r2)) :
  Calls Tryz.prog 49 #[.int .u64 a0, .int .i64 a1] w fun e w' => e = .returned (.tuple #[.string r1, .int .i64 r2]) ∧ Below w.heap.size w w' := by
 have HB := Aside0.mk (Below.refl w.heap.size w)
 have H : (if a1 < 1 then (num_Fix.j0 k a0 a1 true) else (if a1 > 8 then (num_Fix.j0 k a0 a1 true) else (if a1 < 8 then (if 0 ≤ (wrap64 (8 * a1)) then (num_Fix.j0 k a0 a1 ((shr .u64 a0 (wrap64 (8 * a1))) != 0)) else (none)) else (num_Fix.j0 k a0 a1 false)))) = some (r1, r2) := h
 clear h
 have HC3 := Aside0.mk H
 clear H
 go_enter Tryz.func49, Tryz.ntmps49
 go_upto_region 1 with (fail)
 go_cut [24] (fun v24 wc => ∃ (kq : Nat) (x24_2 : Bool), v24 = .bool x24_2 ∧ Aside0 (num_Fix.j0 kq a0 a1 x24_2 = some (r1, r2)) ∧ Aside0 (kq ≤ k) ∧ Aside0 (Below w.heap.size w wc))
 case first =>
  have H := HC3.out
  clear HC3
  by_cases c4 : a1 < 1
  ·rw [if_pos c4] at H
   have c4b0 : decide (a1 < 1) = true := decide_eq_true c4
   clear c4
   (first | rw [c4b0] | (simp only [i64_w, i32_w]; rw [c4b0]) | skip)
   have H' := Aside0.mk H
   clear H
   go_wp2
   go_meet
   case rel => exact ⟨_, (true), (by first | rfl | (simp; done) | (simp [*]; done)), H', ⟨by first | omega | exact Nat.le_refl _⟩, ⟨by repeat (first | (with_reducible first | exact HB.out | apply below_alloc | apply pw_below_drewN | apply below_drew1) | exact HB.out)⟩⟩
  ·rw [if_neg c4] at H
   have c4b0 : decide (a1 < 1) = false := decide_eq_false c4
   clear c4
   (first | rw [c4b0] | (simp only [i64_w, i32_w]; rw [c4b0]) | skip)
   by_cases c5 : a1 > 8
   ·rw [if_pos c5] at H
    have c5b0 : decide (8 < a1) = true := decide_eq_true c5
    clear c5
    have H' := Aside0.mk H
    clear H
    go_wp2
    go_meet
    case rel => exact ⟨_, (true), (by first | rfl | (simp; done) | (simp [*]; done)), H', ⟨by first | omega | exact Nat.le_refl _⟩, ⟨by repeat (first | (with_reducible first | exact HB.out | apply below_alloc | apply pw_below_drewN | apply below_drew1) | exact HB.out)⟩⟩
   ·rw [if_neg c5] at H
    have c5b0 : decide (8 < a1) = false := decide_eq_false c5
    clear c5
    by_cases c6 : a1 < 8
    ·rw [if_pos c6] at H
     have c6b0 : decide (a1 < 8) = true := decide_eq_true c6
     clear c6
     obtain ⟨ji7, hji7⟩ : ∃ j_ : Int, (wrap64 (8 * a1)) = j_ := ⟨_, rfl⟩
     replace H : (if 0 ≤ (ji7) then (num_Fix.j0 k a0 a1 ((shr .u64 a0 (ji7)) != 0)) else (none)) = some (r1, r2) := by first | (rw [hji7] at H; exact H) | (simp only [hji7] at H ⊢; exact H)
     have hji7w : (IntKind.i64.wrap (8 * a1)) = ji7 := (i64_w _).trans hji7
     by_cases c8 : 0 ≤ (ji7)
     ·rw [if_pos c8] at H
      have c8b0 := eq_true c8
      have c8b1 : decide (0 ≤ (ji7)) = true := decide_eq_true c8
      clear c8
      obtain ⟨ji9, hji9⟩ : ∃ j_ : Int, (shr .u64 a0 (ji7)) = j_ := ⟨_, rfl⟩
      replace H : (num_Fix.j0 k a0 a1 ((ji9) != 0)) = some (r1, r2) := by first | (rw [hji9] at H; exact H) | (simp only [hji9] at H ⊢; exact H)
      have hji9_ : (a0 / 2 ^ min (ji7).toNat 64) = ji9 := hji9
      have hji9z : (ji7) ≤ 64 → (a0 / 2 ^ (ji7).toNat) = ji9 := shr_small hji9
      have H' := Aside0.mk H
      clear H
      go_wp2
      go_meet
      case rel => exact ⟨_, (((ji9) != 0)), (by first | rfl | (simp; done) | (simp only [← hji9] <;> (first | rfl | simp)) | (simp [*]; done)), H', ⟨by first | omega | exact Nat.le_refl _⟩, ⟨by repeat (first | (with_reducible first | exact HB.out | apply below_alloc | apply pw_below_drewN | apply below_drew1) | exact HB.out)⟩⟩
     ·rw [if_neg c8] at H
      exact absurd H (by simp)
    ·rw [if_neg c6] at H
     have c6b0 : decide (a1 < 8) = false := decide_eq_false c6
     clear c6
     have H' := Aside0.mk H
     clear H
     go_wp2
     go_meet
     case rel => exact ⟨_, (false), (by first | rfl | (simp; done) | (simp [*]; done)), H', ⟨by first | omega | exact Nat.le_refl _⟩, ⟨by repeat (first | (with_reducible first | exact HB.out | apply below_alloc | apply pw_below_drewN | apply below_drew1) | exact HB.out)⟩⟩
 case rest =>
  clear HC3
  try clear p2
  try clear c4
  try clear c4b0
  try clear c5
  try clear c5b0
  try clear c6
  try clear c6b0
  try clear p6
  try clear c8
  try clear c8b0
  try clear c8b1
  obtain ⟨kq, x24_2, rfl, HA, HJ2, HB⟩ := hcut
  cases kq with
  | zero => exact absurd HA.out (by simp [num_Fix.j0])
  | succ kj2 =>
   have H := HA.out
   clear HA
   simp only [num_Fix.j0] at H
   by_cases c10 : x24_2 = true
   ·subst c10
    have H1 : (some ((⟨#[]⟩ : ByteArray), 11)) = some (r1, r2) := by rw [if_pos rfl] at H; exact H
    clear H
    have H := H1
    clear H1
    simp only [Option.some.injEq, Prod.mk.injEq] at H
    obtain ⟨rfl, rfl⟩ := H
    go_wp2
    go_ret2
    exact ⟨by first | rfl | (simp [errW_none, errW_some] <;> rfl) | (simp [*, errW_none, errW_some] <;> rfl), by repeat (first | (with_reducible first | exact HB.out | apply below_alloc | apply pw_below_drewN | apply below_drew1) | exact HB.out)⟩
   ·replace c10 := Bool.eq_false_iff.mpr c10
    subst c10
    have H1 : (if 0 ≤ a1 then (if (a1 : Int).toNat ≤ 281474976710656 then ((some (List.replicate (a1 : Int).toNat 0 : List Int)).bind fun y101 => (num_Fix.l0 kj2 a0 y101 (y101.length : Int) 0)) else (none)) else (none)) = some (r1, r2) := by rw [if_neg (show ¬ (false = true) by decide)] at H; exact H
    clear H
    have H := H1
    clear H1
    by_cases c11 : 0 ≤ a1
    ·rw [if_pos c11] at H
     have c11b0 := eq_true c11
     have c11b1 : decide (0 ≤ a1) = true := decide_eq_true c11
     clear c11
     by_cases c12 : (a1 : Int).toNat ≤ 281474976710656
     ·rw [if_pos c12] at H
      have c12b0 := eq_true c12
      have c12b1 : decide ((a1 : Int).toNat ≤ 281474976710656) = true := decide_eq_true c12
      clear c12
      obtain ⟨y101, hy101⟩ : ∃ y_ : List Int, y_ = (List.replicate (a1 : Int).toNat 0) := ⟨_, rfl⟩
      replace H : (num_Fix.l0 kj2 a0 y101 (y101.length : Int) 0) = some (r1, r2) := by first | (rw [hy101]; with_reducible exact H) | (have H2_ := (Option.bind_some _ _).symm.trans H; rw [hy101]; with_reducible exact H2_) | (have H2_ := (Option.bind_some _ _).symm.trans H; with_reducible exact H2_) | with_reducible exact H | (rw [hy101]; exact H) | exact H
      have Ny101 := Aside0.mk hy101
      clear hy101
      have H' := Aside0.mk H
      clear H
      go_wp2_with (first | ((with_reducible refine gate_dst (N := 26) rfl ?_); refine Kd.R_make (Kd.int .u8) _ 5 rfl (N := 26) rfl 140 _ _ rfl a1 rfl rfl Tryz.underlying140 (.int .u8 0) 1 info5 rfl (by decide) (by omega) 0 (ok := fun _ => True) (okp := fun _ => True) rfl (fun _ hk => hk) trivial (of_decide_eq_true (by first | (with_reducible assumption) | assumption)) (Nat.le_trans (Nat.mul_le_mul_right _ (of_decide_eq_true (by first | (with_reducible assumption) | assumption) : a1.toNat ≤ 281474976710656)) (by omega)) (Below.refl _ _) (Nat.le_refl _) ?_; intro v102 w13 ho14 hb hg_ hnew_; clear hg_ hnew_; (first | rw [← Ny101.out] at ho14 | (simp only [Int.reduceToNat] at ho14; rw [← Ny101.out] at ho14)); have n0_ := Aside0.mk (Kd.R_lower ho14 (below_size (by repeat (first | (with_reducible first | exact HB.out | apply below_alloc | apply pw_below_drewN | apply below_drew1) | exact HB.out)))); have n1_ := Aside0.mk (below_step (by repeat (first | (with_reducible first | exact HB.out | apply below_alloc | apply pw_below_drewN | apply below_drew1) | exact HB.out)) hb); clear HB; have HO103 := n0_; have HB := n1_; clear n0_ n1_; clear hb ho14; obtain ⟨Ao15, co15, eo15⟩ := Kd.R_slice HO103.out; subst eo15))
      go_loopg [29] kj2 (fun kq v29 w' => ∃ (x6_2 : List Int) (x29_2 : Int), v29 = .int .i64 x29_2 ∧ Aside0 (num_Fix.l0 kq a0 x6_2 (y101.length : Int) x29_2 = some (r1, r2)) ∧ Aside0 (kq ≤ kj2) ∧ Aside0 (Kd.R (Kd.int .u8) 5 w' w.heap.size (fun _ => True) (.slice Ao15 y101.length co15) x6_2) ∧ Aside0 (Below w.heap.size w w'))
      case atStart => exact ⟨(y101), (0), (by first | rfl | (simp; done) | (simp [*]; done)), H', ⟨Nat.le_refl _⟩, ⟨by (with_reducible repeat (first | apply Kd.R_alloc | apply Kd.R_drewN | apply Kd.R_drew)); exact HO103.out⟩, ⟨by repeat (first | (with_reducible first | exact HB.out | apply below_alloc | apply pw_below_drewN | apply below_drew1) | exact HB.out)⟩⟩
      case round =>
       clear H'
       try clear c1
       try clear p2
       try clear c4
       try clear c4b0
       try clear c5
       try clear c5b0
       try clear c6
       try clear c6b0
       try clear p6
       try clear c8
       try clear c8b0
       try clear c8b1
       try clear c10
       try clear c11
       try clear c11b0
       try clear c11b1
       try clear c12
       try clear c12b0
       try clear c12b1
       try clear p2
       try clear p6
       obtain ⟨x6_2, x29_2, rfl, HA, HK2, HO_6, HB⟩ := hrel
       have hl6_2 := (Kd.R_reads' HO_6.out).1
       rw [hl6_2] at HO_6
       (try simp only [hl6_2])
       cases gk with
       | zero => exact absurd HA.out (by simp [num_Fix.l0])
       | succ k2 =>
        have H := HA.out
        clear HA
        simp only [num_Fix.l0] at H
        by_cases c16 : x29_2 < (y101.length : Int)
        ·rw [if_pos c16] at H
         have c16b0 : decide (x29_2 < (y101.length : Int)) = true := decide_eq_true c16
         (try (have c16y0 := c16b0; simp only [hl6_2] at c16y0))
         clear c16
         obtain ⟨ji17, hji17⟩ : ∃ j_ : Int, (wrap64 (8 * x29_2)) = j_ := ⟨_, rfl⟩
         replace H : (if 0 ≤ (ji17) then (if 0 ≤ x29_2 then (if x29_2 < (x6_2.length : Int) then (num_Fix.l0 k2 a0 (x6_2.set (x29_2 : Int).toNat ((shr .u64 a0 (ji17)) % 256)) (y101.length : Int) (wrap64 (x29_2 + 1))) else (none)) else (none)) else (none)) = some (r1, r2) := by first | (rw [hji17] at H; exact H) | (simp only [hji17] at H ⊢; exact H)
         have hji17w : (IntKind.i64.wrap (8 * x29_2)) = ji17 := (i64_w _).trans hji17
         by_cases c18 : 0 ≤ (ji17)
         ·rw [if_pos c18] at H
          have c18b0 := eq_true c18
          have c18b1 : decide (0 ≤ (ji17)) = true := decide_eq_true c18
          clear c18
          obtain ⟨ji19, hji19⟩ : ∃ j_ : Int, (shr .u64 a0 (ji17)) = j_ := ⟨_, rfl⟩
          replace H : (if 0 ≤ x29_2 then (if x29_2 < (x6_2.length : Int) then (num_Fix.l0 k2 a0 (x6_2.set (x29_2 : Int).toNat ((ji19) % 256)) (y101.length : Int) (wrap64 (x29_2 + 1))) else (none)) else (none)) = some (r1, r2) := by first | (rw [hji19] at H; exact H) | (simp only [hji19] at H ⊢; exact H)
          have hji19_ : (a0 / 2 ^ min (ji17).toNat 64) = ji19 := hji19
          have hji19z : (ji17) ≤ 64 → (a0 / 2 ^ (ji17).toNat) = ji19 := shr_small hji19
          by_cases c20 : 0 ≤ x29_2
          ·rw [if_pos c20] at H
           have c20b0 : decide (0 ≤ x29_2) = true := decide_eq_true c20
           (try (have c20y0 := c20b0; simp only [hl6_2] at c20y0))
           clear c20
           by_cases c21 : x29_2 < (x6_2.length : Int)
           ·rw [if_pos c21] at H
            have c21b0 : decide (x29_2 < (x6_2.length : Int)) = true := decide_eq_true c21
            (try (have c21y0 := c21b0; simp only [hl6_2] at c21y0))
            clear c21
            obtain ⟨y104, hy104⟩ : ∃ y_ : List Int, y_ = (x6_2.set (x29_2 : Int).toNat ((ji19) % 256)) := ⟨_, rfl⟩
            replace H : (num_Fix.l0 k2 a0 y104 (y101.length : Int) (wrap64 (x29_2 + 1))) = some (r1, r2) := by first | (rw [hy104]; with_reducible exact H) | (have H2_ := (Option.bind_some _ _).symm.trans H; rw [hy104]; with_reducible exact H2_) | (have H2_ := (Option.bind_some _ _).symm.trans H; with_reducible exact H2_) | with_reducible exact H | (rw [hy104]; exact H) | exact H
            have Ny104 := Aside0.mk hy104
            clear hy104
            have H' := Aside0.mk H
            clear H
            have p22 : 0 ≤ (x29_2 : Int) := of_decide_eq_true (by first | (with_reducible assumption) | assumption)
            have q22 : (x29_2 : Int) < ((x6_2.length : Int) : Int) := of_decide_eq_true (by first | (with_reducible assumption) | assumption)
            obtain ⟨go22, co22, eo22, gb22, gl22, cl22, HG22⟩ := Kd.R_form HO_6.out (by omega)
            (first | cases eo22 | (injection eo22 with ea_ en_ ec_; (first | subst ea_ | (injection ea_ with ea_; subst ea_)); subst ec_; clear en_))
            have GB22 := Aside0.mk gb22
            have GG22 := Aside0.mk HG22
            clear gb22 gl22 HG22
            obtain ⟨hx22_0, hf22_0⟩ := Kd.R_celln 0 HO_6.out (x29_2 : Int) p22 q22
            replace p22 := eq_true p22
            replace q22 := eq_true q22
            have HP23 := Kd.R_putg HO_6.out (x29_2 : Int) ((ji19) % 256)
            go_wp2_with (first | ((with_reducible refine gate_store (t := 5) (p := 39) rfl ?_); refine store_event (t := 5) (p := 39) (v := ?vo_w24) (w1 := (wr.setCell ⟨go22, (x29_2 : Int).toNat, none⟩ (.int .u8 ((ji19) % 256)))) ?hg ?ho ?hn ?hr ?_; (case ho => rfl); (case hg => rfl); (case hn => rfl); (case hr => first | (go_simp; done) | (go_simp; rfl)); intro w24 hw; have hg : wr.grownBy w24 (some go22) := (by rw [hw]; exact HP23.2); have hp_ : Kd.R (Kd.int .u8) 5 w24 w.heap.size (fun _ => True) (.slice (some ⟨go22, 0, none⟩) x6_2.length co15) y104 := (by rw [hw, Ny104.out]; exact HP23.1); clear HP23; have n0_ := Aside0.mk (hp_); have n1_ := Aside0.mk ((by rw [hw]; exact below_set (HB.out) GB22.out : Below w.heap.size w w24)); clear HO_6; clear HB; have HO_6 := n0_; have HB := n1_; clear n0_ n1_; clear hg hw hp_))
            (try simp only [← hl6_2])
            go_roundg k2
            case measure => have := HJ2.out; have := HK2.out; omega
            case rel => exact ⟨(y104), (wrap64 (x29_2 + 1)), (by first | rfl | (simp; done) | (simp [*]; done)), H', ⟨by have := HJ2.out; have := HK2.out; omega⟩, ⟨by (try simp only [hl6_2]); (with_reducible repeat (first | apply Kd.R_alloc | apply Kd.R_drewN | apply Kd.R_drew)); exact HO_6.out⟩, ⟨by repeat (first | (with_reducible first | exact HB.out | apply below_alloc | apply pw_below_drewN | apply below_drew1) | exact HB.out)⟩⟩
           ·rw [if_neg c21] at H
            exact absurd H (by simp)
          ·rw [if_neg c20] at H
           exact absurd H (by simp)
         ·rw [if_neg c18] at H
          exact absurd H (by simp)
        ·rw [if_neg c16] at H
         have c16b0 : decide (x29_2 < (y101.length : Int)) = false := decide_eq_false c16
         (try (have c16y0 := c16b0; simp only [hl6_2] at c16y0))
         clear c16
         simp only [Option.some.injEq, Prod.mk.injEq] at H
         obtain ⟨rfl, rfl⟩ := H
         have hcv25 := own_string (P := Tryz.prog) Tryz.underlying140 Tryz.underlying5 Tryz.underlying9 (Kd.own_of_R HO_6.out)
         go_wp2
         go_ret2
         exact ⟨by first | rfl | (simp [errW_none, errW_some] <;> rfl) | (simp [*, errW_none, errW_some] <;> rfl), by repeat (first | (with_reducible first | exact HB.out | apply below_alloc | apply pw_below_drewN | apply below_drew1) | exact HB.out)⟩
     ·rw [if_neg c12] at H
      exact absurd H (by simp)
    ·rw [if_neg c11] at H
     exact absurd H (by simp)

/-! ### wal_fix: function 28 -/
def wal_fix.f (k : Nat) (a0 : Int) (a1 : Int) : Option (ByteArray) := (num_Fix.f k (IntKind.u64.wrap (a0)) a1).bind fun bt105 => (some bt105.1)
theorem wal_fix.mono : ∀ a0 a1 k, LeO (wal_fix.f k a0 a1) (wal_fix.f (k + 1) a0 a1) := by
 intro a0 a1 k
 unfold wal_fix.f
 repeat' first
   | (with_reducible exact num_Fix.mono _ _ _)
   | (with_reducible exact LeO.refl _)
   | (with_reducible exact LeO.none _)
   | (with_reducible refine LeO.ite ?_ ?_)
   | (with_reducible refine LeO.bind ?_ (fun _ => ?_))
   | exact num_Fix.mono _ _ _
   | exact LeO.none _
   | refine LeO.ite ?_ ?_
   | refine LeO.bind ?_ (fun _ => ?_)
set_option maxHeartbeats 8000000 in
set_option maxRecDepth 100000 in
theorem wal_fix.calls (k : Nat) (a0 : Int) (a1 : Int) (r : ByteArray) (w : World) (h : wal_fix.f k a0 a1 = some r) :
  Calls Tryz.prog 28 #[.int .i64 a0, .int .i64 a1] w fun e w' => e = .returned (.string r) ∧ Below w.heap.size w w' := by
 have HB := Aside0.mk (Below.refl w.heap.size w)
 have H : ((num_Fix.f k (IntKind.u64.wrap (a0)) a1).bind fun bt105 => (some bt105.1)) = some r := h
 clear h
 replace H := Option.bind_eq_some_iff.mp H
 obtain ⟨⟨t105, t106⟩, A30, H⟩ := H
 replace H : (some t105) = some r := H
 have A3 := Aside0.mk A30
 clear A30
 obtain rfl := Option.some.inj H
 go_enter Tryz.func28, Tryz.ntmps28
 go_wp2_with (first | ((with_reducible refine gate_callee (f := 49) rfl ?_); refine goesL_ (some 11) rfl rfl Tryz.func49 (by kernel_rfl) rfl #[.int .u64 (IntKind.u64.wrap (a0)), .int .i64 a1] rfl (by (try simp only [List.map_toArray, List.map_cons, List.map_nil]); first | done | rfl | (simp only [List.length_drop, List.length_take]; rfl) | (go_simp; done) | (go_simp; rfl) | (go_simp; simp only [IntKind.wrap_u64]; omega) | (go_simp; simp only [IntKind.wrap_u32]; omega) | (go_simp; simp only [IntKind.wrap_u8]; omega) | (go_simp; unfold wrap64; omega)) ?_; (with_reducible refine (num_Fix.calls k (IntKind.u64.wrap (a0)) a1 t105 t106 _ A3.out).mono ?_); rintro e w4 ⟨rfl, hb⟩; refine ⟨_, rfl, ?_⟩; have n0_ := Aside0.mk (below_step (by repeat (first | (with_reducible first | exact HB.out | apply below_alloc | apply pw_below_drewN | apply below_drew1) | exact HB.out)) hb); clear HB; have HB := n0_; clear n0_; (try clear hb); (try clear hb2); (try clear hk); (try clear hi)))
 go_ret
 exact ⟨by first | rfl | (simp [errW_none, errW_some] <;> rfl) | (simp [*, errW_none, errW_some] <;> rfl), by repeat (first | (with_reducible first | exact HB.out | apply below_alloc | apply pw_below_drewN | apply below_drew1) | exact HB.out)⟩

/-! ### num_Sum: function 50 -/
def crcStep (c : Nat) : Nat := (c / 2) ^^^ (3988292384 * (c % 2))
def crcIter : Nat → Nat → Nat
 | 0, c => c
 | t + 1, c => crcStep (crcIter t c)
def crcByte (c x : Nat) : Nat := crcIter 8 ((c % 256) ^^^ x) ^^^ (c / 256)
def crcFold (l : List UInt8) : Nat := l.foldl (fun c x => crcByte c x.toNat) 4294967295
theorem crcStep_lt {c : Nat} (h : c < 4294967296) : crcStep c < 4294967296 := by
 unfold crcStep
 have h1 : 3988292384 * (c % 2) < 2 ^ 32 := by
  have : c % 2 < 2 := Nat.mod_lt _ (by omega)
  omega
 exact Nat.xor_lt_two_pow (n := 32) (by omega) h1
theorem crcIter_lt {c : Nat} (h : c < 4294967296) : ∀ t, crcIter t c < 4294967296
 | 0 => h
 | t + 1 => crcStep_lt (crcIter_lt h t)
theorem u32_bits_xor (a b : Nat) (ha : a < 4294967296) (hb : b < 4294967296) : bits .xor .u32 (a : Int) (b : Int) = ((a ^^^ b : Nat) : Int) := by
 have hx : a ^^^ b < 2 ^ 32 := Nat.xor_lt_two_pow (by omega) (by omega)
 show IntKind.u32.wrap ((BitVec.ofInt 32 (a : Int) ^^^ BitVec.ofInt 32 (b : Int)).toNat : Int) = _
 rw [BitVec.toNat_xor, BitVec.ofInt_natCast, BitVec.ofInt_natCast, BitVec.toNat_ofNat, BitVec.toNat_ofNat, Nat.mod_eq_of_lt (by omega), Nat.mod_eq_of_lt (by omega)]
 rw [IntKind.wrap_u32]
 omega
theorem u8_bits_xor (a b : Nat) (ha : a < 256) (hb : b < 256) : bits .xor .u8 (a : Int) (b : Int) = ((a ^^^ b : Nat) : Int) := by
 have hx : a ^^^ b < 2 ^ 8 := Nat.xor_lt_two_pow (by omega) (by omega)
 show IntKind.u8.wrap ((BitVec.ofInt 8 (a : Int) ^^^ BitVec.ofInt 8 (b : Int)).toNat : Int) = _
 rw [BitVec.toNat_xor, BitVec.ofInt_natCast, BitVec.ofInt_natCast, BitVec.toNat_ofNat, BitVec.toNat_ofNat, Nat.mod_eq_of_lt (by omega), Nat.mod_eq_of_lt (by omega)]
 rw [IntKind.wrap_u8]
 omega
theorem u32_bits_and1 (a : Nat) (ha : a < 4294967296) : bits .and .u32 (a : Int) 1 = ((a % 2 : Nat) : Int) := by
 show IntKind.u32.wrap ((BitVec.ofInt 32 (a : Int) &&& BitVec.ofInt 32 ((1 : Nat) : Int)).toNat : Int) = _
 rw [BitVec.toNat_and, BitVec.ofInt_natCast, BitVec.ofInt_natCast, BitVec.toNat_ofNat, BitVec.toNat_ofNat, Nat.mod_eq_of_lt (by omega), Nat.mod_eq_of_lt (by omega), Nat.and_one_is_mod]
 rw [IntKind.wrap_u32]
 omega
theorem step_spell (c : Nat) (h : c < 4294967296) : bits .xor .u32 ((c : Int) / 2) (3988292384 * bits .and .u32 (c : Int) 1 % 4294967296) = ((crcStep c : Nat) : Int) := by
 rw [u32_bits_and1 c h]
 have e1 : ((c : Int) / 2) = ((c / 2 : Nat) : Int) := by omega
 have e2 : (3988292384 * ((c % 2 : Nat) : Int) % 4294967296) = ((3988292384 * (c % 2) : Nat) : Int) := by omega
 rw [e1, e2, u32_bits_xor _ _ (by omega) (by omega)]
 rfl
def TabUpTo (i : Nat) (T : Array Value) : Prop := T.size = 256 ∧ (∀ j, j < 256 → ∃ v, T[j]? = some v) ∧ ∀ j, j < i → T[j]? = some (.int .u32 (crcIter 8 j : Nat))
theorem tab_cell {w : World} {b : Nat} {T : Array Value} (h : w.heap[b]? = some (.cells T 141 (0, 0))) (j : Nat) : w.cell? ⟨b, j, none⟩ = T[j]? := cell_of_row w b j T 141 (0, 0) h
theorem tab_frozen {w : World} {b : Nat} {T : Array Value} (h : w.heap[b]? = some (.cells T 141 (0, 0))) (j : Nat) : w.frozen? ⟨b, j, none⟩ = false := by simp [World.frozen?, h]
theorem tab_set {i : Nat} {T : Array Value} (h : TabUpTo i T) (hi : i < 256) : TabUpTo (i + 1) (T.setIfInBounds i (.int .u32 (crcIter 8 i : Nat))) := by
 refine ⟨by simp [h.1], fun j hj => ?_, fun j hj => ?_⟩
 ·obtain ⟨v, hv⟩ := h.2.1 j hj
  by_cases e : i = j
  ·subst e; exact ⟨_, by rw [Array.getElem?_setIfInBounds_self_of_lt (by rw [h.1]; omega)]⟩
  ·exact ⟨v, by rw [Array.getElem?_setIfInBounds_ne e]; exact hv⟩
 ·by_cases e : i = j
  ·subst e; rw [Array.getElem?_setIfInBounds_self_of_lt (by rw [h.1]; omega)]
  ·rw [Array.getElem?_setIfInBounds_ne e]; exact h.2.2 j (by omega)
theorem tab_set_heap {w : World} {b : Nat} {T : Array Value} (h : w.heap[b]? = some (.cells T 141 (0, 0))) (i : Nat) (v : Value) : (w.setCell ⟨b, i, none⟩ v).heap[b]? = some (.cells (T.setIfInBounds i v) 141 (0, 0)) := by
 simp [World.setCell, Array.getElem?_modify, h]
theorem tab_start (w : World) : (w.alloc (.cells Tryz.zeroCells141 141)).heap[w.heap.size]? = some (.cells Tryz.zeroCells141 141 (0, 0)) := heap_alloc_new w _
theorem zero_size : Tryz.zeroCells141.size = 256 := by kernel_rfl
theorem tab_zero : TabUpTo 0 Tryz.zeroCells141 := by
 refine ⟨zero_size, fun j hj => ⟨_, Array.getElem?_eq_getElem (by rw [zero_size]; exact hj)⟩, fun j hj => by omega⟩
def num_Sum.f (a0 : ByteArray) : Option Int := if a0.size ≤ 9223372036854775807 then some ((4294967295 ^^^ crcFold a0.data.toList : Nat) : Int) else none
theorem crcByte_lt {c x : Nat} (hc : c < 4294967296) (hx : x < 256) : crcByte c x < 4294967296 := by
 unfold crcByte
 have h1 : (c % 256) ^^^ x < 2 ^ 8 := Nat.xor_lt_two_pow (by omega) (by omega)
 have h2 : crcIter 8 ((c % 256) ^^^ x) < 4294967296 := crcIter_lt (by omega) 8
 exact Nat.xor_lt_two_pow (n := 32) (by omega) (by omega)
theorem crcFold_snoc (l : List UInt8) (x : UInt8) : crcFold (l ++ [x]) = crcByte (crcFold l) x.toNat := by
 simp [crcFold]
theorem crcFoldl_lt : ∀ (l : List UInt8) (c : Nat), c < 4294967296 → l.foldl (fun c x => crcByte c x.toNat) c < 4294967296
 | [], _, h => h
 | x :: l, c, h => crcFoldl_lt l _ (crcByte_lt h x.toNat_lt)
theorem crcFold_lt (l : List UInt8) : crcFold l < 4294967296 := crcFoldl_lt l _ (by omega)
theorem byte_at {a0 : ByteArray} {n b : Nat} {w1 : World} (h : w1.cell? ⟨b, n, none⟩ = some (.int .u8 (a0.data.toList.getD n 0).toNat)) (hn : n < a0.size) :
  ∃ x : Nat, x < 256 ∧ w1.cell? ⟨b, n, none⟩ = some (.int .u8 x) ∧ crcFold (a0.data.toList.take (n + 1)) = crcByte (crcFold (a0.data.toList.take n)) x := by
 have hl : n < a0.data.toList.length := by simpa using hn
 refine ⟨_, (a0.data.toList.getD n 0).toNat_lt, h, ?_⟩
 rw [List.take_succ_eq_append_getElem hl, crcFold_snoc, List.getD_eq_getElem?_getD, List.getElem?_eq_getElem hl]
 rfl
theorem tab_look {w : World} {b : Nat} {T : Array Value} (h : w.heap[b]? = some (.cells T 141 (0, 0))) (hT : TabUpTo 256 T) (c x : Nat) (_hc : c < 4294967296) (hx : x < 256) :
  w.cell? ⟨b, (bits .xor .u8 ((c : Int) % 256) (x : Int)).toNat, none⟩ = some (.int .u32 (crcIter 8 ((c % 256) ^^^ x) : Nat)) := by
 have e : ((c : Int) % 256) = ((c % 256 : Nat) : Int) := by omega
 rw [e, u8_bits_xor _ _ (by omega) hx, Int.toNat_natCast, tab_cell h]
 exact hT.2.2 _ (Nat.xor_lt_two_pow (n := 8) (by omega) (by omega))
theorem byte_spell (c x : Nat) (hc : c < 4294967296) (hx : x < 256) : bits .xor .u32 ((crcIter 8 ((c % 256) ^^^ x) : Nat) : Int) ((c : Int) / 256) = ((crcByte c x : Nat) : Int) := by
 have h1 : (c % 256) ^^^ x < 2 ^ 8 := Nat.xor_lt_two_pow (by omega) (by omega)
 have h2 : crcIter 8 ((c % 256) ^^^ x) < 4294967296 := crcIter_lt (by omega) 8
 have e : ((c : Int) / 256) = ((c / 256 : Nat) : Int) := by omega
 rw [e, u32_bits_xor _ _ h2 (by omega)]
 rfl
theorem look_in (c x : Nat) (hx : x < 256) : 0 ≤ bits .xor .u8 ((c : Int) % 256) (x : Int) ∧ bits .xor .u8 ((c : Int) % 256) (x : Int) < 256 := by
 have e : ((c : Int) % 256) = ((c % 256 : Nat) : Int) := by omega
 have h1 : (c % 256) ^^^ x < 2 ^ 8 := Nat.xor_lt_two_pow (by omega) (by omega)
 rw [e, u8_bits_xor _ _ (by omega) hx]
 omega
theorem not_spell (c : Nat) (hc : c < 4294967296) : bits .xor .u32 IntKind.u32.max (c : Int) = ((4294967295 ^^^ c : Nat) : Int) := by
 rw [show IntKind.u32.max = ((4294967295 : Nat) : Int) from rfl, u32_bits_xor _ _ (by omega) hc]
theorem sum_open {a0 : ByteArray} {r : Int} (h : num_Sum.f a0 = some r) : a0.size ≤ 9223372036854775807 ∧ r = ((4294967295 ^^^ crcFold a0.data.toList : Nat) : Int) := by
 unfold num_Sum.f at h
 split at h
 ·rename_i hs
  exact ⟨hs, (Option.some.inj h).symm⟩
 ·cases h
set_option maxHeartbeats 800000 in
set_option maxRecDepth 100000 in
theorem num_Sum.calls (a0 : ByteArray) (r : Int) (w : World) (h : num_Sum.f a0 = some r) :
  Calls Tryz.prog 50 #[.string a0] w fun e w' => e = .returned (.int .u32 r) ∧ Below w.heap.size w w' := by
 obtain ⟨hsz, hr⟩ := sum_open h
 clear h
 have HR := Aside0.mk hr
 clear hr
 have kb := fun W => print_bytes (P := Tryz.prog) 9 140 5 Tryz.underlying9 Tryz.underlying140 Tryz.underlying5 a0 W
 go_enter Tryz.func50, Tryz.ntmps50
 go_wp2
 go_loopw [9] (fun v9 w' => ∃ (i : Nat) (T : Array Value), i ≤ 256 ∧ v9 = .int .i64 i ∧ Aside0 (w'.heap[w.heap.size]? = some (.cells T 141 (0, 0))) ∧ Aside0 (TabUpTo i T) ∧ Aside0 (Below w.heap.size w w')) (fun v9 _ => (256 - intOf v9).toNat)
 case atStart => exact ⟨0, _, by omega, rfl, ⟨tab_start w⟩, ⟨tab_zero⟩, ⟨(Below.refl _ _).alloc (Nat.le_refl _) _⟩⟩
 case round =>
  obtain ⟨i, T, hi, rfl, HT, HU, HB⟩ := hrel
  by_cases hlt : i < 256
  ·have hd : decide ((i : Int) < 256) = true := by simp; omega
   go_wp2
   go_loopw [5, 14] (fun v5 v14 w' => ∃ (t : Nat), t ≤ 8 ∧ v14 = .int .i64 t ∧ v5 = .int .u32 (crcIter t i : Nat) ∧ Aside0 (w'.heap[w.heap.size]? = some (.cells T 141 (0, 0)))  ∧ Aside0 (Below w.heap.size w w')) (fun _ v14 _ => (8 - intOf v14).toNat)
   case atStart => 
    exact ⟨0, by omega, rfl, rfl, HT, HB⟩
   case round =>
    obtain ⟨t, ht, rfl, rfl, HT2, HB2⟩ := hrel
    have HS := Aside0.mk (step_spell (crcIter t i) (crcIter_lt (by omega) t))
    by_cases htt : t < 8
    ·go_wp2
     go_roundw
     case measure => simp [intOf]; omega
     case rel => 
      exact ⟨t + 1, by omega, by go_num, congrArg (Value.int .u32) HS.out, HT2, HB2⟩
    ·obtain ⟨u, hu⟩ := HU.out.2.1 i hlt
     have hcell := (tab_cell HT2.out i).trans hu
     have hfz := tab_frozen HT2.out i
     clear hu
     obtain rfl : t = 8 := by omega
     go_wp2
     go_roundw
     case measure => simp [intOf]; omega
     case rel => 
      exact ⟨i + 1, _, by omega, by go_num, ⟨tab_set_heap HT2.out i _⟩, ⟨tab_set HU.out hlt⟩, ⟨HB2.out.setCell (by simp) _⟩⟩
  ·obtain rfl : i = 256 := by omega
   have hd : decide (((256 : Nat) : Int) < 256) = false := by simp
   go_wp2
   have HT2 := Aside0.mk ((Lib.bytesWorld_at_old wr 5 a0 w.heap.size (Array.getElem?_eq_some_iff.1 HT.out).1).trans HT.out)
   have HB2 := Aside0.mk (bytes_below HB.out HB.out.size 5 a0)
   have HC := Aside0.mk (fun j (hj : j < a0.size) => Lib.bytesWorld_cell wr 5 a0 j hj)
   clear HT HB
   generalize Lib.bytesWorld wr 5 a0 = w1 at HT2 HB2 HC ⊢
   go_loop [6, 30] (fun v6 v30 => ∃ (n : Nat), n ≤ a0.size ∧ v30 = .int .i64 n ∧ v6 = .int .u32 (crcFold (a0.data.toList.take n) : Nat)) (fun _ v30 => (a0.size - intOf v30).toNat)
   case atStart => exact ⟨0, by omega, rfl, rfl⟩
   case round =>
    obtain ⟨n, hn, rfl, rfl⟩ := hrel
    by_cases hlt : n < a0.size
    ·have hd2 : decide ((n : Int) < (a0.size : Int)) = true := by simp; omega
     obtain ⟨x, hx, hc0, hs0⟩ := byte_at (HC.out n hlt) hlt
     have HS := Aside0.mk hs0
     have hcl := crcFold_lt (a0.data.toList.take n)
     generalize crcFold (a0.data.toList.take n) = c at HS hcl ⊢
     have hc := hc0
     clear hc0 hs0
     have hcell := tab_look HT2.out HU.out c x hcl hx
     obtain ⟨hb0, hb1⟩ := look_in c x hx
     have HF := Aside0.mk (byte_spell c x hcl hx)
     go_wp2
     go_round
     case measure => simp [intOf]; omega
     case rel => exact ⟨n + 1, by omega, by go_num, by rw [HS.out]; exact congrArg (Value.int .u32) HF.out⟩
    ·have hd2 : decide ((n : Int) < (a0.size : Int)) = false := by simp; omega
     obtain rfl : n = a0.size := by omega
     have hcl := crcFold_lt (a0.data.toList.take a0.size)
     have HF := Aside0.mk (not_spell _ hcl)
     go_wp2
     go_ret
     refine ⟨?_, HB2.out⟩
     rw [HR.out]
     have ht : a0.data.toList.take a0.size = a0.data.toList := List.take_of_length_le (by simp)
     rw [ht] at HF ⊢
     exact congrArg (fun z => Ending.returned (Value.int .u32 z)) HF.out

/-! ### wal_sum: function 29 -/
def wal_sum.f (k : Nat) (a0 : ByteArray) : Option (ByteArray) := (num_Sum.f a0).bind fun t107 => ((wal_fix.f k (wrap64 (t107)) 4).bind fun t108 => (some t108))
theorem wal_sum.mono : ∀ a0 k, LeO (wal_sum.f k a0) (wal_sum.f (k + 1) a0) := by
 intro a0 k
 unfold wal_sum.f
 repeat' first
   | (with_reducible exact wal_fix.mono _ _ _)
   | (with_reducible exact LeO.refl _)
   | (with_reducible exact LeO.none _)
   | (with_reducible refine LeO.ite ?_ ?_)
   | (with_reducible refine LeO.bind ?_ (fun _ => ?_))
   | exact wal_fix.mono _ _ _
   | exact LeO.none _
   | refine LeO.ite ?_ ?_
   | refine LeO.bind ?_ (fun _ => ?_)
set_option maxHeartbeats 8000000 in
set_option maxRecDepth 100000 in
theorem wal_sum.calls (k : Nat) (a0 : ByteArray) (r : ByteArray) (w : World) (h : wal_sum.f k a0 = some r) :
  Calls Tryz.prog 29 #[.string a0] w fun e w' => e = .returned (.string r) ∧ Below w.heap.size w w' := by
 have HB := Aside0.mk (Below.refl w.heap.size w)
 have H : ((num_Sum.f a0).bind fun t107 => ((wal_fix.f k (wrap64 (t107)) 4).bind fun t108 => (some t108))) = some r := h
 clear h
 replace H := Option.bind_eq_some_iff.mp H
 obtain ⟨t107, A20, H⟩ := H
 replace H : ((wal_fix.f k (wrap64 (t107)) 4).bind fun t108 => (some t108)) = some r := H
 have A2 := Aside0.mk A20
 clear A20
 replace H := Option.bind_eq_some_iff.mp H
 obtain ⟨t108, A30, H⟩ := H
 replace H : (some t108) = some r := H
 have A3 := Aside0.mk A30
 clear A30
 obtain rfl := Option.some.inj H
 go_enter Tryz.func29, Tryz.ntmps29
 go_wp2_with (first | ((with_reducible refine gate_callee (f := 50) rfl ?_); refine goesL_ (some 4) rfl rfl Tryz.func50 (by kernel_rfl) rfl #[.string a0] rfl (by (try simp only [List.map_toArray, List.map_cons, List.map_nil]); first | done | rfl | (simp only [List.length_drop, List.length_take]; rfl) | (go_simp; done) | (go_simp; rfl) | (go_simp; simp only [IntKind.wrap_u64]; omega) | (go_simp; simp only [IntKind.wrap_u32]; omega) | (go_simp; simp only [IntKind.wrap_u8]; omega) | (go_simp; unfold wrap64; omega)) ?_; (with_reducible refine (num_Sum.calls a0 t107 _ A2.out).mono ?_); rintro e w4 ⟨rfl, hb⟩; refine ⟨_, rfl, ?_⟩; have n0_ := Aside0.mk (below_step (by repeat (first | (with_reducible first | exact HB.out | apply below_alloc | apply pw_below_drewN | apply below_drew1) | exact HB.out)) hb); clear HB; have HB := n0_; clear n0_; (try clear hb); (try clear hb2); (try clear hk); (try clear hi)) | ((with_reducible refine gate_callee (f := 28) rfl ?_); refine goesL_ (some 6) rfl rfl Tryz.func28 (by kernel_rfl) rfl #[.int .i64 (wrap64 (t107)), .int .i64 4] rfl (by (try simp only [List.map_toArray, List.map_cons, List.map_nil]); first | done | rfl | (simp only [List.length_drop, List.length_take]; rfl) | (go_simp; done) | (go_simp; rfl) | (go_simp; simp only [IntKind.wrap_u64]; omega) | (go_simp; simp only [IntKind.wrap_u32]; omega) | (go_simp; simp only [IntKind.wrap_u8]; omega) | (go_simp; unfold wrap64; omega)) ?_; (with_reducible refine (wal_fix.calls k (wrap64 (t107)) 4 t108 _ A3.out).mono ?_); rintro e w5 ⟨rfl, hb⟩; refine ⟨_, rfl, ?_⟩; have n0_ := Aside0.mk (below_step (by repeat (first | (with_reducible first | exact HB.out | apply below_alloc | apply pw_below_drewN | apply below_drew1) | exact HB.out)) hb); clear HB; have HB := n0_; clear n0_; (try clear hb); (try clear hb2); (try clear hk); (try clear hi)))
 go_ret
 exact ⟨by first | rfl | (simp [errW_none, errW_some] <;> rfl) | (simp [*, errW_none, errW_some] <;> rfl), by repeat (first | (with_reducible first | exact HB.out | apply below_alloc | apply pw_below_drewN | apply below_drew1) | exact HB.out)⟩

end Go.Proofs.YtomhgoahhlnjpaaGreatDoor.PWal
