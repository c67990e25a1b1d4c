-- Written by a program of this session on top of the print: some functions by hand.
import Derived.Test.YteeiljjjgkinhaaGreatDoorPHttpFx0
import Derived.Test.YteeiljjjgkinhaaGreatDoorPHttpFx3
import Derived.Test.YteeiljjjgkinhaaGreatDoorPHttpFx4
namespace Go.Proofs.YteeiljjjgkinhaaGreatDoor.PHttpF
open Go.RowKit Go.Proofs.YteeiljjjgkinhaaGreatDoorW.PrintWords Go.Proofs.YteeiljjjgkinhaaGreatDoorW.PrintLast Go.Proofs.YteeiljjjgkinhaaGreatDoorW.PrintMore
attribute [local go_sem] max2_int min2_int max_two min_two max_three min_three max_four min_four   -- for this text's walks alone
set_option linter.unusedVariables false
set_option linter.unusedSimpArgs false

/-! ### http_field: function 18 -/
def http_field.j0 : Nat → ByteArray → ByteArray → Bool → Option (ByteArray × ByteArray × Bool)
 | 0, _, _, _ => none
 | k + 1, x5, x6, x24 => if x24 = true then (some ((⟨#[]⟩ : ByteArray), (⟨#[]⟩ : ByteArray), false)) else ((strings_ToLower.f x5).bind fun t156 => ((strings_Trim.f x6 (⟨#[32, 9]⟩ : ByteArray)).bind fun t157 => (some (t156, t157, true))))
def http_field.f (k : Nat) (a0 : ByteArray) : Option (ByteArray × ByteArray × Bool) := (strings_Cut.f a0 (⟨#[58]⟩ : ByteArray)).bind fun bt151 => (if bt151.2.2 = true then ((http_name.f k bt151.1).bind fun t154 => (if t154 = true then ((strings_ContainsAny.f bt151.2.1 (⟨#[10, 13, 0]⟩ : ByteArray)).bind fun t155 => (http_field.j0 k bt151.1 bt151.2.1 t155)) else (http_field.j0 k bt151.1 bt151.2.1 true))) else (http_field.j0 k bt151.1 bt151.2.1 true))
theorem http_field.mono_l : ∀ k, (∀ y0 y1 y2, LeO (http_field.j0 k y0 y1 y2) (http_field.j0 (k + 1) y0 y1 y2))
 | 0 => fun _ _ _ r h => by simp [http_field.j0] at h
 | k + 1 => by
  have ih0 := http_field.mono_l k
  ·intro y0 y1 y2
   unfold http_field.j0
   repeat' first
   | (with_reducible exact ih0 _ _ _)
   | (with_reducible exact http_name.mono _ _)
   | (with_reducible exact LeO.refl _)
   | (with_reducible exact LeO.none _)
   | (with_reducible refine LeO.ite ?_ ?_)
   | (with_reducible refine LeO.bind ?_ (fun _ => ?_))
   | exact ih0 _ _ _
   | exact http_name.mono _ _
   | exact LeO.none _
   | refine LeO.ite ?_ ?_
   | refine LeO.bind ?_ (fun _ => ?_)
theorem http_field.mono : ∀ a0 k, LeO (http_field.f k a0) (http_field.f (k + 1) a0) := by
 intro a0 k
 have ih0 := http_field.mono_l k
 unfold http_field.f
 repeat' first
   | (with_reducible exact ih0 _ _ _)
   | (with_reducible exact http_name.mono _ _)
   | (with_reducible exact LeO.refl _)
   | (with_reducible exact LeO.none _)
   | (with_reducible refine LeO.ite ?_ ?_)
   | (with_reducible refine LeO.bind ?_ (fun _ => ?_))
   | exact ih0 _ _ _
   | exact http_name.mono _ _
   | exact LeO.none _
   | refine LeO.ite ?_ ?_
   | refine LeO.bind ?_ (fun _ => ?_)
set_option maxHeartbeats 8000000 in
set_option maxRecDepth 100000 in
theorem http_field.calls (k : Nat) (a0 : ByteArray) (r1 : ByteArray) (r2 : ByteArray) (r3 : Bool) (w : World) (hU : LaidU w) (h : http_field.f k a0 = some (r1, r2, r3)) :
  Calls Tryz.prog 18 #[.string a0] w fun e w' => e = .returned (.tuple #[.string r1, .string r2, .bool r3]) ∧ Below w.heap.size w w' := by
 have HU := Aside0.mk hU
 clear hU
 have HB := Aside0.mk (Below.refl w.heap.size w)
 have H : ((strings_Cut.f a0 (⟨#[58]⟩ : ByteArray)).bind fun bt151 => (if bt151.2.2 = true then ((http_name.f k bt151.1).bind fun t154 => (if t154 = true then ((strings_ContainsAny.f bt151.2.1 (⟨#[10, 13, 0]⟩ : ByteArray)).bind fun t155 => (http_field.j0 k bt151.1 bt151.2.1 t155)) else (http_field.j0 k bt151.1 bt151.2.1 true))) else (http_field.j0 k bt151.1 bt151.2.1 true))) = some (r1, r2, r3) := h
 clear h
 replace H := Option.bind_eq_some_iff.mp H
 obtain ⟨⟨t151, t152, t153⟩, A20, H⟩ := H
 replace H : (if t153 = true then ((http_name.f k t151).bind fun t154 => (if t154 = true then ((strings_ContainsAny.f t152 (⟨#[10, 13, 0]⟩ : ByteArray)).bind fun t155 => (http_field.j0 k t151 t152 t155)) else (http_field.j0 k t151 t152 true))) else (http_field.j0 k t151 t152 true)) = some (r1, r2, r3) := H
 have A2 := Aside0.mk A20
 clear A20
 have HC3 := Aside0.mk H
 clear H
 go_enter Tryz.func18, Tryz.ntmps18
 go_upto_region 2 with (first | ((with_reducible refine gate_callee (f := 31) rfl ?_); refine goesL_ (some 10) rfl rfl Tryz.func31 kr rfl #[.string a0, .string (⟨#[58]⟩ : ByteArray)] rfl ga ?_; (with_reducible refine (strings_Cut.calls a0 (⟨#[58]⟩ : ByteArray) t151 t152 t153 _ ?side1 A2.out).mono ?_); (case side1 => exact LaidU.below HU.out (bl HB.out)); rintro e w4 ⟨rfl, hb⟩; refine ⟨_, rfl, ?_⟩; replace HB := Aside0.mk (below_step (bl HB.out) hb); (try clear hb); (try clear hb2); (try clear hk); (try clear hi)))
 (try simp only [Act.put, List.setIfInBounds_toArray, List.set_cons_zero, List.set_cons_succ])
 go_cut [24] (fun v24 wc => ∃ (kq : Nat) (x24_2 : Bool), v24 = .bool x24_2 ∧ Aside0 (http_field.j0 kq t151 t152 x24_2 = some (r1, r2, r3)) ∧ Aside0 (kq ≤ k) ∧ Aside0 (Below w.heap.size w wc))
 case first =>
  have H := HC3.out
  clear HC3
  by_cases c5 : t153 = true
  ·subst c5
   have H1 : ((http_name.f k t151).bind fun t154 => (if t154 = true then ((strings_ContainsAny.f t152 (⟨#[10, 13, 0]⟩ : ByteArray)).bind fun t155 => (http_field.j0 k t151 t152 t155)) else (http_field.j0 k t151 t152 true))) = some (r1, r2, r3) := by rw [if_pos rfl] at H; exact H
   clear H
   have H := H1
   clear H1
   replace H := Option.bind_eq_some_iff.mp H
   obtain ⟨t154, A60, H⟩ := H
   replace H : (if t154 = true then ((strings_ContainsAny.f t152 (⟨#[10, 13, 0]⟩ : ByteArray)).bind fun t155 => (http_field.j0 k t151 t152 t155)) else (http_field.j0 k t151 t152 true)) = some (r1, r2, r3) := H
   have A6 := Aside0.mk A60
   clear A60
   by_cases c7 : t154 = true
   ·subst c7
    have H1 : ((strings_ContainsAny.f t152 (⟨#[10, 13, 0]⟩ : ByteArray)).bind fun t155 => (http_field.j0 k t151 t152 t155)) = some (r1, r2, r3) := by rw [if_pos rfl] at H; exact H
    clear H
    have H := H1
    clear H1
    replace H := Option.bind_eq_some_iff.mp H
    obtain ⟨t155, A80, H⟩ := H
    replace H : (http_field.j0 k t151 t152 t155) = some (r1, r2, r3) := H
    have A8 := Aside0.mk A80
    clear A80
    have H' := Aside0.mk H
    clear H
    go_wp2_with (first | (go_at_call 32; (with_reducible refine (http_name.calls k t151 true _ A6.out).mono ?_); rintro e w' ⟨rfl, ⟨nd, rfl⟩⟩) | (go_at_call 33; (with_reducible refine (strings_ContainsAny.calls t152 (⟨#[10, 13, 0]⟩ : ByteArray) t155 _ A8.out).mono ?_); rintro e w9 ⟨rfl, hb⟩; replace HB := Aside0.mk (below_step (bl HB.out) hb); (try clear hb); (try clear hb2); (try clear hk); (try clear hi)))
    go_meet
    case rel => exact ⟨_, (t155), hsr, H', ⟨by first | omega | exact Nat.le_refl _⟩, ⟨bl HB.out⟩⟩
   ·replace c7 := Bool.eq_false_iff.mpr c7
    subst c7
    have H1 : (http_field.j0 k t151 t152 true) = some (r1, r2, r3) := by rw [if_neg (show ¬ (false = true) by decide)] at H; exact H
    clear H
    have H := H1
    clear H1
    have H' := Aside0.mk H
    clear H
    go_wp2_with (first | (go_at_call 32; (with_reducible refine (http_name.calls k t151 false _ A6.out).mono ?_); rintro e w' ⟨rfl, ⟨nd, rfl⟩⟩))
    go_meet
    case rel => exact ⟨_, (true), hsr, H', ⟨by first | omega | exact Nat.le_refl _⟩, ⟨bl HB.out⟩⟩
  ·replace c5 := Bool.eq_false_iff.mpr c5
   subst c5
   have H1 : (http_field.j0 k t151 t152 true) = some (r1, r2, r3) := by rw [if_neg (show ¬ (false = true) by decide)] at H; exact H
   clear H
   have H := H1
   clear H1
   have H' := Aside0.mk H
   clear H
   go_wp2
   go_meet
   case rel => exact ⟨_, (true), hsr, H', ⟨by first | omega | exact Nat.le_refl _⟩, ⟨bl HB.out⟩⟩
 case rest =>
  clear HC3
  try clear c1
  try clear p2
  try clear c3
  try clear c5
  try clear p6
  try clear c7
  obtain ⟨kq, x24_2, rfl, HA, HJ2, HB⟩ := hcut
  cases kq with
  | zero => exact absurd HA.out (by simp [http_field.j0])
  | succ kj2 =>
   have H := HA.out
   clear HA
   simp only [http_field.j0] at H
   by_cases c10 : x24_2 = true
   ·subst c10
    have H1 : (some ((⟨#[]⟩ : ByteArray), (⟨#[]⟩ : ByteArray), false)) = some (r1, r2, r3) := by rw [if_pos rfl] at H; exact H
    clear H
    have H := H1
    clear H1
    simp only [Option.some.injEq, Prod.mk.injEq] at H
    obtain ⟨rfl, rfl, rfl⟩ := H
    go_wp2
    go_ret3
    exact ⟨er0, bl HB.out⟩
   ·replace c10 := Bool.eq_false_iff.mpr c10
    subst c10
    have H1 : ((strings_ToLower.f t151).bind fun t156 => ((strings_Trim.f t152 (⟨#[32, 9]⟩ : ByteArray)).bind fun t157 => (some (t156, t157, true)))) = some (r1, r2, r3) := by rw [if_neg (show ¬ (false = true) by decide)] at H; exact H
    clear H
    have H := H1
    clear H1
    replace H := Option.bind_eq_some_iff.mp H
    obtain ⟨t156, A110, H⟩ := H
    replace H : ((strings_Trim.f t152 (⟨#[32, 9]⟩ : ByteArray)).bind fun t157 => (some (t156, t157, true))) = some (r1, r2, r3) := H
    have A11 := Aside0.mk A110
    clear A110
    replace H := Option.bind_eq_some_iff.mp H
    obtain ⟨t157, A120, H⟩ := H
    replace H : (some (t156, t157, true)) = some (r1, r2, r3) := H
    have A12 := Aside0.mk A120
    clear A120
    simp only [Option.some.injEq, Prod.mk.injEq] at H
    obtain ⟨rfl, rfl, rfl⟩ := H
    go_wp2_with (first | ((with_reducible refine gate_callee (f := 34) rfl ?_); refine goesL_ (some 26) rfl rfl Tryz.func34 kr rfl #[.string t151] rfl ga ?_; (with_reducible refine (strings_ToLower.calls t151 t156 _ A11.out).mono ?_); rintro e w13 ⟨rfl, hb⟩; refine ⟨_, rfl, ?_⟩; replace HB := Aside0.mk (below_step (bl HB.out) hb); (try clear hb); (try clear hb2); (try clear hk); (try clear hi)) | ((with_reducible refine gate_callee (f := 35) rfl ?_); refine goesL_ (some 28) rfl rfl Tryz.func35 kr rfl #[.string t152, .string (⟨#[32, 9]⟩ : ByteArray)] rfl ga ?_; (with_reducible refine (strings_Trim.calls t152 (⟨#[32, 9]⟩ : ByteArray) t157 _ A12.out).mono ?_); rintro e w14 ⟨rfl, hb⟩; refine ⟨_, rfl, ?_⟩; replace HB := Aside0.mk (below_step (bl HB.out) hb); (try clear hb); (try clear hb2); (try clear hk); (try clear hi)))
    go_ret3
    exact ⟨er0, bl HB.out⟩

end Go.Proofs.YteeiljjjgkinhaaGreatDoor.PHttpF
