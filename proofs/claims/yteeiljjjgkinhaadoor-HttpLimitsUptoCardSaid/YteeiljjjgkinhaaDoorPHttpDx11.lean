-- Written by a program of this session on top of the print: some functions by hand.
import Derived.Test.YteeiljjjgkinhaaDoorPHttpDx0
import Derived.Test.YteeiljjjgkinhaaDoorPHttpDx3
import Derived.Test.YteeiljjjgkinhaaDoorPHttpDx9
import Derived.Test.YteeiljjjgkinhaaDoorPHttpDx10
namespace Go.Proofs.YteeiljjjgkinhaaDoor.PHttpD
open Go.RowKit Go.Proofs.YteeiljjjgkinhaaDoorW.PrintWords Go.Proofs.YteeiljjjgkinhaaDoorW.PrintLast Go.Proofs.YteeiljjjgkinhaaDoorW.PrintMore
attribute [local go_sem] max2_int min2_int max_two min_two max_three min_three max_four min_four   -- for this text's walks alone
set_option linter.unusedVariables false
set_option linter.unusedSimpArgs false

/-! ### lodestarlaw04_HttpLimits: function 5 -/
theorem wl5 (j x : Int) (h1 : 1 ≤ j) (h2 : j ≤ 5000) : wrap64 ((wrap64 ((wrap64 ((wrap64 ((wrap64 (4 + j)) + 11)) + 16)) + x)) + 4) = wrap64 ((wrap64 (4 + j + 11 + 16 + x)) + 4) := by
  have e1 : wrap64 (4 + j) = 4 + j := by unfold wrap64; omega
  rw [e1]
  have e2 : wrap64 (4 + j + 11) = 4 + j + 11 := by unfold wrap64; omega
  rw [e2]
  have e3 : wrap64 (4 + j + 11 + 16) = 4 + j + 11 + 16 := by unfold wrap64; omega
  rw [e3]
mutual
def lodestarlaw04_HttpLimits.l0 : Nat → Int → Int → List Int → Int → Option (Bool)
 | 0, _, _, _, _ => none
 | k + 1, x0, x1, x5, x6 => if x6 < x0 then (if 0 ≤ x6 then (if x6 < (x5.length : Int) then (lodestarlaw04_HttpLimits.l0 k x0 x1 (x5.set (x6 : Int).toNat 47) (wrap64 (x6 + 1))) else (none)) else (none)) else (if 0 ≤ x1 then (if (x1 : Int).toNat ≤ 281474976710656 then ((http_Write.f k (⟨#[71, 69, 84]⟩ : ByteArray) (strOfNums x5) (strOfNums (List.replicate (x1 : Int).toNat 0))).bind fun bt270 => (lodestarlaw04_HttpLimits.l1 k x0 x1 bt270.1 bt270.2 1 x1)) else (none)) else (none))
def lodestarlaw04_HttpLimits.l1 : Nat → Int → Int → ByteArray → Int → Int → Int → Option (Bool)
 | 0, _, _, _, _, _, _ => none
 | k + 1, x0, x1, x8, x9, x10, x11 => if x11 > 9 then (lodestarlaw04_HttpLimits.l1 k x0 x1 x8 x9 (wrap64 (x10 + 1)) (wrap64 (Int.tdiv x11 10))) else (if x1 > 262144 then (lodestarlaw04_HttpLimits.j2 k x1 x8 x9 (wrap64 ((wrap64 ((wrap64 ((wrap64 ((wrap64 (4 + x0)) + 11)) + 16)) + x10)) + 4)) true) else (lodestarlaw04_HttpLimits.j2 k x1 x8 x9 (wrap64 ((wrap64 ((wrap64 ((wrap64 ((wrap64 (4 + x0)) + 11)) + 16)) + x10)) + 4)) (decide ((wrap64 ((wrap64 ((wrap64 ((wrap64 ((wrap64 (4 + x0)) + 11)) + 16)) + x10)) + 4)) > 4096))))
def lodestarlaw04_HttpLimits.j2 : Nat → Int → ByteArray → Int → Int → Bool → Option (Bool)
 | 0, _, _, _, _, _ => none
 | k + 1, x1, x8, x9, x12, x61 => if x61 = true then (if x8.toList = ([] : List UInt8) then (if x9 = 41 then ((lodestarlaw04_sure.f k).bind fun t272 => (some t272)) else (some false)) else (some false)) else ((http_Parse.f k x8).bind fun bt273 => (if x9 = 0 then (if (x8.size : Int) = (wrap64 (x12 + x1)) then (if (bt273.2.2.1.size : Int) = x1 then (if bt273.2.2.2 = 0 then ((lodestarlaw04_sure.f k).bind fun t278 => (some t278)) else (some false)) else (some false)) else (some false)) else (some false)))
end
def lodestarlaw04_HttpLimits.f (k : Nat) (a0 : Int) (a1 : Int) : Option (Bool) := if 0 ≤ (mx 1 (mn a0 5000)) then (if (mx 1 (mn a0 5000) : Int).toNat ≤ 281474976710656 then (lodestarlaw04_HttpLimits.l0 k (mx 1 (mn a0 5000)) (mx 0 (mn a1 262147)) (List.replicate (mx 1 (mn a0 5000) : Int).toNat 0) 0) else (none)) else (none)
theorem lodestarlaw04_HttpLimits.mono_l : ∀ k, (∀ y0 y1 y2 y3, LeO (lodestarlaw04_HttpLimits.l0 k y0 y1 y2 y3) (lodestarlaw04_HttpLimits.l0 (k + 1) y0 y1 y2 y3)) ∧ (∀ y0 y1 y2 y3 y4 y5, LeO (lodestarlaw04_HttpLimits.l1 k y0 y1 y2 y3 y4 y5) (lodestarlaw04_HttpLimits.l1 (k + 1) y0 y1 y2 y3 y4 y5)) ∧ (∀ y0 y1 y2 y3 y4, LeO (lodestarlaw04_HttpLimits.j2 k y0 y1 y2 y3 y4) (lodestarlaw04_HttpLimits.j2 (k + 1) y0 y1 y2 y3 y4))
 | 0 => ⟨fun _ _ _ _ r h => by simp [lodestarlaw04_HttpLimits.l0] at h, fun _ _ _ _ _ _ r h => by simp [lodestarlaw04_HttpLimits.l1] at h, fun _ _ _ _ _ r h => by simp [lodestarlaw04_HttpLimits.j2] at h⟩
 | k + 1 => by
  obtain ⟨ih0, ih1, ih2⟩ := lodestarlaw04_HttpLimits.mono_l k
  refine ⟨?_, ?_, ?_⟩
  all_goals intros
  all_goals first | unfold lodestarlaw04_HttpLimits.l0 | unfold lodestarlaw04_HttpLimits.l1 | unfold lodestarlaw04_HttpLimits.j2
  all_goals repeat' first
   | (with_reducible exact ih0 _ _ _ _)
   | (with_reducible exact ih1 _ _ _ _ _ _)
   | (with_reducible exact ih2 _ _ _ _ _)
   | (with_reducible exact http_Parse.mono _ _)
   | (with_reducible exact http_Write.mono _ _ _ _)
   | (with_reducible exact lodestarlaw04_sure.mono _)
   | (with_reducible exact LeO.refl _)
   | (with_reducible exact LeO.none _)
   | (with_reducible refine LeO.ite ?_ ?_)
   | (with_reducible refine LeO.bind ?_ (fun _ => ?_))
   | exact ih0 _ _ _ _
   | exact ih1 _ _ _ _ _ _
   | exact ih2 _ _ _ _ _
   | exact http_Parse.mono _ _
   | exact http_Write.mono _ _ _ _
   | exact lodestarlaw04_sure.mono _
   | exact LeO.none _
   | refine LeO.ite ?_ ?_
   | refine LeO.bind ?_ (fun _ => ?_)
theorem lodestarlaw04_HttpLimits.mono : ∀ a0 a1 k, LeO (lodestarlaw04_HttpLimits.f k a0 a1) (lodestarlaw04_HttpLimits.f (k + 1) a0 a1) := by
 intro a0 a1 k
 obtain ⟨ih0, ih1, ih2⟩ := lodestarlaw04_HttpLimits.mono_l k
 unfold lodestarlaw04_HttpLimits.f
 repeat' first
   | (with_reducible exact ih0 _ _ _ _)
   | (with_reducible exact ih1 _ _ _ _ _ _)
   | (with_reducible exact ih2 _ _ _ _ _)
   | (with_reducible exact http_Parse.mono _ _)
   | (with_reducible exact http_Write.mono _ _ _ _)
   | (with_reducible exact lodestarlaw04_sure.mono _)
   | (with_reducible exact LeO.refl _)
   | (with_reducible exact LeO.none _)
   | (with_reducible refine LeO.ite ?_ ?_)
   | (with_reducible refine LeO.bind ?_ (fun _ => ?_))
   | exact ih0 _ _ _ _
   | exact ih1 _ _ _ _ _ _
   | exact ih2 _ _ _ _ _
   | exact http_Parse.mono _ _
   | exact http_Write.mono _ _ _ _
   | exact lodestarlaw04_sure.mono _
   | exact LeO.none _
   | refine LeO.ite ?_ ?_
   | refine LeO.bind ?_ (fun _ => ?_)
set_option maxHeartbeats 8000000 in
set_option maxRecDepth 100000 in
theorem lodestarlaw04_HttpLimits.calls (k : Nat) (a0 : Int) (a1 : Int) (w : World) (hU : LaidU w) (h : lodestarlaw04_HttpLimits.f k a0 a1 = some true) :
  Calls Tryd.prog 5 #[.int .i64 a0, .int .i64 a1] w fun e w' => e = .returned (.bool true) ∧ Below w.heap.size w w' := by
 have hu23 := Tryd.underlying23
 have HU := Aside0.mk hU
 clear hU
 have HB := Aside0.mk (Below.refl w.heap.size w)
 have H : (if 0 ≤ (mx 1 (mn a0 5000)) then (if (mx 1 (mn a0 5000) : Int).toNat ≤ 281474976710656 then (lodestarlaw04_HttpLimits.l0 k (mx 1 (mn a0 5000)) (mx 0 (mn a1 262147)) (List.replicate (mx 1 (mn a0 5000) : Int).toNat 0) 0) else (none)) else (none)) = some true := h
 clear h
 obtain ⟨ji3, hji3⟩ : ∃ j_ : Int, (mn a0 5000) = j_ := ⟨_, rfl⟩
 replace H : (if 0 ≤ (mx 1 (ji3)) then (if (mx 1 (ji3) : Int).toNat ≤ 281474976710656 then (lodestarlaw04_HttpLimits.l0 k (mx 1 (ji3)) (mx 0 (mn a1 262147)) (List.replicate (mx 1 (ji3) : Int).toNat 0) 0) else (none)) else (none)) = some true := by first | (rw [hji3] at H; exact H) | (simp only [hji3] at H ⊢; exact H)
 (try (have hji3h : ji3 ≤ 5000 := by (rw [← hji3]; unfold mn; (repeat' split) <;> omega)))
 (try (have hji3g : ji3 ≤ 64 := by omega))
 have hji3_ : (if 5000 < a0 then 5000 else a0) = ji3 := hji3
 obtain ⟨ji4, hji4⟩ : ∃ j_ : Int, (mx 1 (ji3)) = j_ := ⟨_, rfl⟩
 replace H : (if 0 ≤ (ji4) then (if (ji4 : Int).toNat ≤ 281474976710656 then (lodestarlaw04_HttpLimits.l0 k ji4 (mx 0 (mn a1 262147)) (List.replicate (ji4 : Int).toNat 0) 0) else (none)) else (none)) = some true := by first | (rw [hji4] at H; exact H) | (simp only [hji4] at H ⊢; exact H)
 have hji4_ : (if 1 < (ji3) then (ji3) else 1) = ji4 := hji4
 obtain ⟨ji5, hji5⟩ : ∃ j_ : Int, (mn a1 262147) = j_ := ⟨_, rfl⟩
 replace H : (if 0 ≤ (ji4) then (if (ji4 : Int).toNat ≤ 281474976710656 then (lodestarlaw04_HttpLimits.l0 k ji4 (mx 0 (ji5)) (List.replicate (ji4 : Int).toNat 0) 0) else (none)) else (none)) = some true := by first | (rw [hji5] at H; exact H) | (simp only [hji5] at H ⊢; exact H)
 (try (have hji5h : ji5 ≤ 262147 := by (rw [← hji5]; unfold mn; (repeat' split) <;> omega)))
 (try (have hji5g : ji5 ≤ 64 := by omega))
 have hji5_ : (if 262147 < a1 then 262147 else a1) = ji5 := hji5
 obtain ⟨ji6, hji6⟩ : ∃ j_ : Int, (mx 0 (ji5)) = j_ := ⟨_, rfl⟩
 replace H : (if 0 ≤ (ji4) then (if (ji4 : Int).toNat ≤ 281474976710656 then (lodestarlaw04_HttpLimits.l0 k ji4 ji6 (List.replicate (ji4 : Int).toNat 0) 0) else (none)) else (none)) = some true := by first | (rw [hji6] at H; exact H) | (simp only [hji6] at H ⊢; exact H)
 have hji6_ : (if 0 < (ji5) then (ji5) else 0) = ji6 := hji6
 by_cases c7 : 0 ≤ (ji4)
 ·rw [if_pos c7] at H
  have c7b0 := eq_true c7
  have c7b1 : decide (0 ≤ (ji4)) = true := decide_eq_true c7
  clear c7
  by_cases c8 : (ji4 : Int).toNat ≤ 281474976710656
  ·rw [if_pos c8] at H
   have c8b0 := eq_true c8
   have c8b1 : decide ((ji4 : Int).toNat ≤ 281474976710656) = true := decide_eq_true c8
   clear c8
   obtain ⟨y263, hy263⟩ : ∃ y_ : List Int, y_ = (List.replicate (ji4 : Int).toNat 0) := ⟨_, rfl⟩
   replace H : (lodestarlaw04_HttpLimits.l0 k ji4 ji6 y263 0) = some true := by first | (rw [hy263]; with_reducible exact H) | (have H2_ := (Option.bind_some _ _).symm.trans H; rw [hy263]; with_reducible exact H2_) | (have H2_ := (Option.bind_some _ _).symm.trans H; with_reducible exact H2_) | with_reducible exact H | (rw [hy263]; exact H) | exact H
   have Ny263 := Aside0.mk hy263
   clear hy263
   have H' := Aside0.mk H
   clear H
   go_enter Tryd.func5, Tryd.ntmps5
   go_wp2_with (first | ((with_reducible refine gate_dst (N := 22) rfl ?_); (try (refine gate_guard (by rfl) ?_; dsimp only)); refine Kd.R_make (Kd.int .u8) _ 5 rfl (N := 22) rfl 33 _ _ rfl ji4 rfl rfl Tryd.underlying33 (.int .u8 0) 1 info5 rfl (by decide) (by omega) 0 (ok := fun _ => True) (okp := fun _ => True) rfl (fun _ hk => hk) trivial (of_decide_eq_true ha) (Nat.le_trans (Nat.mul_le_mul_right _ (of_decide_eq_true ha : ji4.toNat ≤ 281474976710656)) (by omega)) (Below.refl _ _) (Nat.le_refl _) ?_; intro v264 w9 ho10 hb hg_ hnew_; clear hg_ hnew_; (first | rw [← Ny263.out] at ho10 | (simp only [Int.reduceToNat] at ho10; rw [← Ny263.out] at ho10)); have HO265 := Aside0.mk (Kd.R_lower ho10 (below_size (bl HB.out))); replace HB := Aside0.mk (below_step (bl HB.out) hb); clear hb ho10))
   go_loopg [6] k (fun kq v6 w' => ∃ (x5_1 : List Int) (x6_1 : Int), v6 = .int .i64 x6_1 ∧ Aside0 (lodestarlaw04_HttpLimits.l0 kq ji4 ji6 x5_1 x6_1 = some true) ∧ Aside0 (kq ≤ k) ∧ Aside0 (Kd.R (Kd.int .u8) 5 w' w.heap.size (fun _ => True) v264 x5_1) ∧ Aside0 (Below w.heap.size w w'))
   case atStart => exact ⟨(y263), (0), hsr, H', ⟨Nat.le_refl _⟩, ⟨pR HO265.out⟩, ⟨bl HB.out⟩⟩
   case round =>
    clear H'
    try clear p2
    try clear c5
    try clear c7
    try clear c7b0
    try clear c7b1
    try clear c8
    try clear c8b0
    try clear c8b1
    obtain ⟨x5_1, x6_1, rfl, HA, HK1, HO_5, HB⟩ := hrel
    cases gk with
    | zero => exact absurd HA.out (by simp [lodestarlaw04_HttpLimits.l0])
    | succ k1 =>
     have H := HA.out
     clear HA
     simp only [lodestarlaw04_HttpLimits.l0] at H
     by_cases c11 : x6_1 < ji4
     ·rw [if_pos c11] at H
      have c11b0 : decide (x6_1 < ji4) = true := decide_eq_true c11
      clear c11
      by_cases c12 : 0 ≤ x6_1
      ·rw [if_pos c12] at H
       have c12b0 : decide (0 ≤ x6_1) = true := decide_eq_true c12
       clear c12
       by_cases c13 : x6_1 < (x5_1.length : Int)
       ·rw [if_pos c13] at H
        have c13b0 : decide (x6_1 < (x5_1.length : Int)) = true := decide_eq_true c13
        clear c13
        obtain ⟨y266, hy266⟩ : ∃ y_ : List Int, y_ = (x5_1.set (x6_1 : Int).toNat 47) := ⟨_, rfl⟩
        replace H : (lodestarlaw04_HttpLimits.l0 k1 ji4 ji6 y266 (wrap64 (x6_1 + 1))) = some true := by first | (rw [hy266]; with_reducible exact H) | (have H2_ := (Option.bind_some _ _).symm.trans H; rw [hy266]; with_reducible exact H2_) | (have H2_ := (Option.bind_some _ _).symm.trans H; with_reducible exact H2_) | with_reducible exact H | (rw [hy266]; exact H) | exact H
        have Ny266 := Aside0.mk hy266
        clear hy266
        have H' := Aside0.mk H
        clear H
        have p14 : 0 ≤ (x6_1 : Int) := of_decide_eq_true ha
        have q14 : (x6_1 : Int) < ((x5_1.length : Int) : Int) := of_decide_eq_true ha
        obtain ⟨go14, co14, eo14, gb14, gl14, cl14, HG14⟩ := Kd.R_form HO_5.out (by omega)
        (first | cases eo14 | (injection eo14 with ea_ en_ ec_; (first | subst ea_ | (injection ea_ with ea_; subst ea_)); subst ec_; clear en_))
        have GB14 := Aside0.mk gb14
        have GG14 := Aside0.mk HG14
        clear gb14 gl14 HG14
        obtain ⟨hx14_0, hf14_0⟩ := Kd.R_celln 0 HO_5.out (x6_1 : Int) p14 q14
        replace p14 := eq_true p14
        replace q14 := eq_true q14
        have HP15 := Kd.R_putg HO_5.out (x6_1 : Int) 47
        go_wp2_with (first | ((with_reducible refine gate_store (t := 5) (p := 30) rfl ?_); refine store_event (t := 5) (p := 30) (v := ?vo_w16) (w1 := (wr.setCell ⟨go14, (x6_1 : Int).toNat, none⟩ (.int .u8 47))) ?hg ?ho ?hn ?hr ?_; (case ho => rfl); (case hg => rfl); (case hn => rfl); (case hr => first | (go_simp; done) | (go_simp; rfl)); intro w16 hw; have hg : wr.grownBy w16 (some go14) := (by rw [hw]; exact HP15.2); have hp_ : Kd.R (Kd.int .u8) 5 w16 w.heap.size (fun _ => True) (.slice (some ⟨go14, 0, none⟩) x5_1.length co14) y266 := (by rw [hw, Ny266.out]; exact HP15.1); clear HP15; replace HO_5 := Aside0.mk (hp_); replace HB := Aside0.mk ((by rw [hw]; exact below_set (HB.out) GB14.out : Below w.heap.size w w16)); clear hg hw hp_))
        go_roundg k1
        case measure => have := HK1.out; omega
        case rel => exact ⟨(y266), (wrap64 (x6_1 + 1)), hsr, H', ⟨by have := HK1.out; omega⟩, ⟨pR HO_5.out⟩, ⟨bl HB.out⟩⟩
       ·rw [if_neg c13] at H
        exact absurd H (by simp)
      ·rw [if_neg c12] at H
       exact absurd H (by simp)
     ·rw [if_neg c11] at H
      have c11b0 : decide (x6_1 < ji4) = false := decide_eq_false c11
      clear c11
      by_cases c17 : 0 ≤ ji6
      ·rw [if_pos c17] at H
       have c17b0 := eq_true c17
       have c17b1 : decide (0 ≤ ji6) = true := decide_eq_true c17
       clear c17
       by_cases c18 : (ji6 : Int).toNat ≤ 281474976710656
       ·rw [if_pos c18] at H
        have c18b0 := eq_true c18
        have c18b1 : decide ((ji6 : Int).toNat ≤ 281474976710656) = true := decide_eq_true c18
        clear c18
        obtain ⟨y267, hy267⟩ : ∃ y_ : List Int, y_ = (List.replicate (ji6 : Int).toNat 0) := ⟨_, rfl⟩
        replace H : ((http_Write.f k1 (⟨#[71, 69, 84]⟩ : ByteArray) (strOfNums x5_1) (strOfNums y267)).bind fun bt270 => (lodestarlaw04_HttpLimits.l1 k1 ji4 ji6 bt270.1 bt270.2 1 ji6)) = some true := by first | (rw [hy267]; with_reducible exact H) | (have H2_ := (Option.bind_some _ _).symm.trans H; rw [hy267]; with_reducible exact H2_) | (have H2_ := (Option.bind_some _ _).symm.trans H; with_reducible exact H2_) | with_reducible exact H | (rw [hy267]; exact H) | exact H
        have Ny267 := Aside0.mk hy267
        clear hy267
        replace H := Option.bind_eq_some_iff.mp H
        obtain ⟨⟨t270, t271⟩, A190, H⟩ := H
        replace H : (lodestarlaw04_HttpLimits.l1 k1 ji4 ji6 t270 t271 1 ji6) = some true := H
        have A19 := Aside0.mk A190
        clear A190
        have H' := Aside0.mk H
        clear H
        go_wp2_with (first | ((with_reducible refine gate_dst (N := 32) rfl ?_); (try (refine gate_guard (by rfl) ?_; dsimp only)); refine Kd.R_make (Kd.int .u8) _ 5 rfl (N := 32) rfl 33 _ _ rfl ji6 rfl rfl Tryd.underlying33 (.int .u8 0) 1 info5 rfl (by decide) (by omega) 0 (ok := fun _ => True) (okp := fun _ => True) rfl (fun _ hk => hk) trivial (of_decide_eq_true ha) (Nat.le_trans (Nat.mul_le_mul_right _ (of_decide_eq_true ha : ji6.toNat ≤ 281474976710656)) (by omega)) (Below.refl _ _) (Nat.le_refl _) ?_; intro v268 w20 ho21 hb hg_ hnew_; clear hg_ hnew_; (first | rw [← Ny267.out] at ho21 | (simp only [Int.reduceToNat] at ho21; rw [← Ny267.out] at ho21)); have HO269 := Aside0.mk (Kd.R_lower (Kd.R_new' ho21 (Kd.R_lt (pR HO_5.out))) (below_size (bl HB.out))); replace HO_5 := Aside0.mk (Kd.R_elder' (pR HO_5.out) (Kd.R_base ho21) hb); replace HB := Aside0.mk (below_step (bl HB.out) hb); clear hb ho21; have hcv22 := own_string (P := Tryd.prog) Tryd.underlying33 Tryd.underlying5 Tryd.underlying9 (Kd.own_of_R HO_5.out); have hcv23 := own_string (P := Tryd.prog) Tryd.underlying33 Tryd.underlying5 Tryd.underlying9 (Kd.own_of_R HO269.out)) | ((with_reducible refine gate_callee (f := 6) rfl ?_); refine goesL_ (some 39) rfl rfl Tryd.func6 kr rfl #[.agg #[.string (⟨#[71, 69, 84]⟩ : ByteArray), .string (strOfNums x5_1), .string (strOfNums y267)]] rfl ga ?_; (with_reducible refine (http_Write.calls k1 (⟨#[71, 69, 84]⟩ : ByteArray) (strOfNums x5_1) (strOfNums y267) t270 t271 _ ?side1 A19.out).mono ?_); (case side1 => exact LaidU.below HU.out (bl HB.out)); rintro e w24 ⟨rfl, hb⟩; refine ⟨_, rfl, ?_⟩; replace HO_5 := Aside0.mk (Kd.R_below (pR HO_5.out) hb); replace HO269 := Aside0.mk (Kd.R_below (pR HO269.out) hb); replace HB := Aside0.mk (below_step (bl HB.out) hb); (try clear hb); (try clear hb2); (try clear hk); (try clear hi)))
        go_loopg [10, 11] k1 (fun kq v10 v11 w' => ∃ (x10_2 : Int) (x11_2 : Int), v10 = .int .i64 x10_2 ∧ v11 = .int .i64 x11_2 ∧ Aside0 (lodestarlaw04_HttpLimits.l1 kq ji4 ji6 t270 t271 x10_2 x11_2 = some true) ∧ Aside0 (kq ≤ k1) ∧ Aside0 (Below w.heap.size w w'))
        case atStart => exact ⟨(1), (ji6), hsr, (by first | rfl | (simp; done) | (simp only [← hji6] <;> (first | rfl | simp)) | (simp [*]; done)), H', ⟨Nat.le_refl _⟩, ⟨bl HB.out⟩⟩
        case round =>
         clear H'
         try clear c1
         try clear p1
         try clear q1
         try clear hx1
         try clear p2
         try clear hcv2
         try clear c5
         try clear c6
         try clear p6
         try clear c7
         try clear c7b0
         try clear c7b1
         try clear c8
         try clear c8b0
         try clear c8b1
         try clear c11
         try clear c11b0
         try clear c12
         try clear c12b0
         try clear c13
         try clear c13b0
         try clear p14
         try clear q14
         try clear hx14
         try clear hf14
         try clear c17
         try clear c17b0
         try clear c17b1
         try clear c18
         try clear c18b0
         try clear c18b1
         try clear hcv22
         try clear hcv23
         try clear hx14_0
         try clear p14
         try clear p2
         try clear q14
         obtain ⟨x10_2, x11_2, rfl, rfl, HA, HK2, HB⟩ := hrel
         cases gk with
         | zero => exact absurd HA.out (by simp [lodestarlaw04_HttpLimits.l1])
         | succ k2 =>
          have H := HA.out
          clear HA
          simp only [lodestarlaw04_HttpLimits.l1] at H
          by_cases c25 : x11_2 > 9
          ·rw [if_pos c25] at H
           have c25b0 : decide (9 < x11_2) = true := decide_eq_true c25
           clear c25
           have H' := Aside0.mk H
           clear H
           go_wp2
           go_roundg k2
           case measure => have := HK1.out; have := HK2.out; omega
           case rel => exact ⟨(wrap64 (x10_2 + 1)), (wrap64 (Int.tdiv x11_2 10)), hsr, hsr, H', ⟨by have := HK1.out; have := HK2.out; omega⟩, ⟨bl HB.out⟩⟩
          ·rw [if_neg c25] at H
           have c25b0 : decide (9 < x11_2) = false := decide_eq_false c25
           clear c25
           rw [wl5 ji4 x10_2 (by have := hji4_; split at this <;> omega) (by have := hji4_; split at this <;> omega)] at H
           have HC26 := Aside0.mk H
           clear H
           go_upto_region 15 with (fail)
           go_cut [61] (fun v61 wc => ∃ (kq : Nat) (x61_25 : Bool), v61 = .bool x61_25 ∧ Aside0 (lodestarlaw04_HttpLimits.j2 kq ji6 t270 t271 (wrap64 ((wrap64 (4 + ji4 + 11 + 16 + x10_2)) + 4)) x61_25 = some true) ∧ Aside0 (kq ≤ k2) ∧ Aside0 (Below w.heap.size w wc))
           case first =>
            have H := HC26.out
            clear HC26
            by_cases c27 : ji6 > 262144
            ·rw [if_pos c27] at H
             have c27b0 : decide (262144 < ji6) = true := decide_eq_true c27
             clear c27
             (first | rw [c27b0] | (simp only [i64_w, i32_w]; rw [c27b0]) | skip)
             have H' := Aside0.mk H
             clear H
             go_wp2
             go_meet
             case rel => exact ⟨_, (true), hsr, H', ⟨by have := HK1.out; have := HK2.out; first | omega | exact Nat.le_refl _⟩, ⟨bl HB.out⟩⟩
            ·rw [if_neg c27] at H
             have c27b0 : decide (262144 < ji6) = false := decide_eq_false c27
             clear c27
             (first | rw [c27b0] | (simp only [i64_w, i32_w]; rw [c27b0]) | skip)
             have H' := Aside0.mk H
             clear H
             go_wp2
             go_meet
             case rel => exact ⟨_, (decide ((wrap64 ((wrap64 (4 + ji4 + 11 + 16 + x10_2)) + 4)) > 4096)), (by first | rfl | (simp; done) | (simp only [← hji4] <;> (first | rfl | simp)) | (simp [*]; done)), H', ⟨by have := HK1.out; have := HK2.out; first | omega | exact Nat.le_refl _⟩, ⟨bl HB.out⟩⟩
           case rest =>
            clear HC26
            try clear c1
            try clear p1
            try clear q1
            try clear hx1
            try clear c2
            try clear p2
            try clear hcv2
            try clear c5
            try clear c6
            try clear p6
            try clear c7
            try clear c7b0
            try clear c7b1
            try clear c8
            try clear c8b0
            try clear c8b1
            try clear c11
            try clear c11b0
            try clear c12
            try clear c12b0
            try clear c13
            try clear c13b0
            try clear p14
            try clear q14
            try clear hx14
            try clear hf14
            try clear c17
            try clear c17b0
            try clear c17b1
            try clear c18
            try clear c18b0
            try clear c18b1
            try clear hcv22
            try clear hcv23
            try clear c25
            try clear c25b0
            try clear c27
            try clear c27b0
            try clear hx14_0
            try clear p1
            try clear p14
            try clear p2
            try clear p6
            try clear q1
            try clear q14
            obtain ⟨kq, x61_25, rfl, HA, HJ25, HB⟩ := hcut
            cases kq with
            | zero => exact absurd HA.out (by simp [lodestarlaw04_HttpLimits.j2])
            | succ kj25 =>
             have H := HA.out
             clear HA
             simp only [lodestarlaw04_HttpLimits.j2] at H
             by_cases c28 : x61_25 = true
             ·subst c28
              have H1 : (if t270.toList = ([] : List UInt8) then (if t271 = 41 then ((lodestarlaw04_sure.f kj25).bind fun t272 => (some t272)) else (some false)) else (some false)) = some true := by rw [if_pos rfl] at H; exact H
              clear H
              have H := H1
              clear H1
              by_cases c29 : t270.toList = ([] : List UInt8)
              ·rw [if_pos c29] at H
               have c29b0 : (t270.toList == ([] : List UInt8)) = true := beq_iff_eq.mpr c29
               have c29b1 : (t270.toList != ([] : List UInt8)) = false := bne_eq_false_iff_eq.mpr c29
               clear c29
               by_cases c30 : t271 = 41
               ·rw [if_pos c30] at H
                have c30b0 : (t271 == 41) = true := beq_iff_eq.mpr c30
                have c30b1 : (t271 != 41) = false := bne_eq_false_iff_eq.mpr c30
                clear c30
                replace H := Option.bind_eq_some_iff.mp H
                obtain ⟨t272, A310, H⟩ := H
                replace H : (some t272) = some true := H
                have A31 := Aside0.mk A310
                clear A310
                have hE_ := Aside0.mk (Option.some.inj H)
                clear H
                go_wp2_with (first | (go_at_call 7; (with_reducible refine (lodestarlaw04_sure.calls kj25  t272 _ ?side1 A31.out).mono ?_); (case side1 => exact LaidU.below HU.out (bl HB.out)); rintro e w32 ⟨rfl, hb⟩; replace HB := Aside0.mk (below_step (bl HB.out) hb); (try clear hb); (try clear hb2); (try clear hk); (try clear hi)))
                go_ret
                exact ⟨by first | rfl | (simp [errW_none, errW_some] <;> rfl) | (simp only [← hji3, ← hji4, ← hji5, ← hji6]; first | rfl | (simp [errW_none, errW_some] <;> rfl)) | exact congrArg (fun b_ => Ending.returned (.bool b_)) hE_.out | (simp [*, errW_none, errW_some] <;> rfl), bl HB.out⟩
               ·rw [if_neg c30] at H
                have c30b0 : (t271 == 41) = false := beq_eq_false_iff_ne.mpr c30
                have c30b1 : (t271 != 41) = true := bne_iff_ne.mpr c30
                exact absurd (Option.some.inj H) (by simp)
              ·rw [if_neg c29] at H
               have c29b0 : (t270.toList == ([] : List UInt8)) = false := beq_eq_false_iff_ne.mpr c29
               have c29b1 : (t270.toList != ([] : List UInt8)) = true := bne_iff_ne.mpr c29
               exact absurd (Option.some.inj H) (by simp)
             ·replace c28 := Bool.eq_false_iff.mpr c28
              subst c28
              have H1 : ((http_Parse.f kj25 t270).bind fun bt273 => (if t271 = 0 then (if (t270.size : Int) = (wrap64 ((wrap64 ((wrap64 (4 + ji4 + 11 + 16 + x10_2)) + 4)) + ji6)) then (if (bt273.2.2.1.size : Int) = ji6 then (if bt273.2.2.2 = 0 then ((lodestarlaw04_sure.f kj25).bind fun t278 => (some t278)) else (some false)) else (some false)) else (some false)) else (some false))) = some true := by rw [if_neg (show ¬ (false = true) by decide)] at H; exact H
              clear H
              have H := H1
              clear H1
              replace H := Option.bind_eq_some_iff.mp H
              obtain ⟨⟨t273, t274, t275, t276⟩, A330, H⟩ := H
              replace H : (if t271 = 0 then (if (t270.size : Int) = (wrap64 ((wrap64 ((wrap64 (4 + ji4 + 11 + 16 + x10_2)) + 4)) + ji6)) then (if (t275.size : Int) = ji6 then (if t276 = 0 then ((lodestarlaw04_sure.f kj25).bind fun t278 => (some t278)) else (some false)) else (some false)) else (some false)) else (some false)) = some true := H
              have A33 := Aside0.mk A330
              clear A330
              by_cases c34 : t271 = 0
              ·rw [if_pos c34] at H
               have c34b0 : (t271 == 0) = true := beq_iff_eq.mpr c34
               have c34b1 : (t271 != 0) = false := bne_eq_false_iff_eq.mpr c34
               clear c34
               by_cases c35 : (t270.size : Int) = (wrap64 ((wrap64 ((wrap64 (4 + ji4 + 11 + 16 + x10_2)) + 4)) + ji6))
               ·rw [if_pos c35] at H
                have c35b0 : ((t270.size : Int) == (wrap64 ((wrap64 ((wrap64 (4 + ji4 + 11 + 16 + x10_2)) + 4)) + ji6))) = true := beq_iff_eq.mpr c35
                have c35b1 : ((t270.size : Int) != (wrap64 ((wrap64 ((wrap64 (4 + ji4 + 11 + 16 + x10_2)) + 4)) + ji6))) = false := bne_eq_false_iff_eq.mpr c35
                clear c35
                by_cases c36 : (t275.size : Int) = ji6
                ·rw [if_pos c36] at H
                 have c36b0 : ((t275.size : Int) == ji6) = true := beq_iff_eq.mpr c36
                 have c36b1 : ((t275.size : Int) != ji6) = false := bne_eq_false_iff_eq.mpr c36
                 clear c36
                 by_cases c37 : t276 = 0
                 ·rw [if_pos c37] at H
                  have c37b0 : (t276 == 0) = true := beq_iff_eq.mpr c37
                  have c37b1 : (t276 != 0) = false := bne_eq_false_iff_eq.mpr c37
                  clear c37
                  replace H := Option.bind_eq_some_iff.mp H
                  obtain ⟨t278, A380, H⟩ := H
                  replace H : (some t278) = some true := H
                  have A38 := Aside0.mk A380
                  clear A380
                  have hE_ := Aside0.mk (Option.some.inj H)
                  clear H
                  go_wp2_with (first | ((with_reducible refine gate_callee (f := 8) rfl ?_); refine goesL_ (some 73) rfl rfl Tryd.func8 kr rfl #[.string t270] rfl ga ?_; (with_reducible refine (http_Parse.calls kj25 t270 t273 t274 t275 t276 _ ?side1 A33.out).mono ?_); (case side1 => exact LaidU.below HU.out (bl HB.out)); rintro e w39 ⟨rfl, hb⟩; refine ⟨_, rfl, ?_⟩; replace HB := Aside0.mk (below_step (bl HB.out) hb); (try clear hb); (try clear hb2); (try clear hk); (try clear hi)) | ((with_reducible refine gate_dst (N := 13) rfl ?_); (try (refine gate_guard (by rfl) ?_; dsimp only)); refine box_event ?hg (N := 13) ?hd (cs := #[.string (⟨#[]⟩ : ByteArray), .string (⟨#[]⟩ : ByteArray), .string (⟨#[]⟩ : ByteArray)]) (t := 23) ?hr ?_; (case hd => rfl); (case hg => rfl); (case hr => first | (go_simp; done) | (go_simp; rfl)); intro gb277 hg w40 hbox hb; have BK277 := Aside0.mk (hbox); have GW277 := Aside0.mk (gs (w := w) hg (bl HB.out)); have GE277 := Aside0.mk (gs (w := w) hg (bl HB.out)); replace HB := Aside0.mk (below_step (bl HB.out) hb); clear hb hbox hg; obtain ⟨hcz41_0, hcz41_1, hcz41_2, hfz41_0, hfz41_1, hfz41_2⟩ := cz3 BK277.out) | (go_at_call 7; (with_reducible refine (lodestarlaw04_sure.calls kj25  t278 _ ?side1 A38.out).mono ?_); (case side1 => exact LaidU.below HU.out (bl HB.out)); rintro e w42 ⟨rfl, hb⟩; replace BK277 := Aside0.mk (blk_below (g := gb277) (o := .cells #[.string t273, .string t274, .string t275] 23 (0, 0)) (by refine pk ?_; refine blk_put (cs := #[.string t273, .string t274, .string (⟨#[]⟩ : ByteArray)]) ?_ 2 _ rfl; refine pk ?_; refine blk_put (cs := #[.string t273, .string (⟨#[]⟩ : ByteArray), .string (⟨#[]⟩ : ByteArray)]) ?_ 1 _ rfl; refine pk ?_; refine blk_put (cs := #[.string (⟨#[]⟩ : ByteArray), .string (⟨#[]⟩ : ByteArray), .string (⟨#[]⟩ : ByteArray)]) ?_ 0 _ rfl; exact pk BK277.out) hb); replace HB := Aside0.mk (below_step (bl HB.out) hb); (try clear hb); (try clear hb2); (try clear hk); (try clear hi)))
                  go_ret
                  exact ⟨by first | rfl | (simp [errW_none, errW_some] <;> rfl) | (simp only [← hji3, ← hji4, ← hji5, ← hji6]; first | rfl | (simp [errW_none, errW_some] <;> rfl)) | exact congrArg (fun b_ => Ending.returned (.bool b_)) hE_.out | (simp [*, errW_none, errW_some] <;> rfl), bl HB.out⟩
                 ·rw [if_neg c37] at H
                  have c37b0 : (t276 == 0) = false := beq_eq_false_iff_ne.mpr c37
                  have c37b1 : (t276 != 0) = true := bne_iff_ne.mpr c37
                  exact absurd (Option.some.inj H) (by simp)
                ·rw [if_neg c36] at H
                 have c36b0 : ((t275.size : Int) == ji6) = false := beq_eq_false_iff_ne.mpr c36
                 have c36b1 : ((t275.size : Int) != ji6) = true := bne_iff_ne.mpr c36
                 exact absurd (Option.some.inj H) (by simp)
               ·rw [if_neg c35] at H
                have c35b0 : ((t270.size : Int) == (wrap64 ((wrap64 ((wrap64 (4 + ji4 + 11 + 16 + x10_2)) + 4)) + ji6))) = false := beq_eq_false_iff_ne.mpr c35
                have c35b1 : ((t270.size : Int) != (wrap64 ((wrap64 ((wrap64 (4 + ji4 + 11 + 16 + x10_2)) + 4)) + ji6))) = true := bne_iff_ne.mpr c35
                exact absurd (Option.some.inj H) (by simp)
              ·rw [if_neg c34] at H
               have c34b0 : (t271 == 0) = false := beq_eq_false_iff_ne.mpr c34
               have c34b1 : (t271 != 0) = true := bne_iff_ne.mpr c34
               exact absurd (Option.some.inj H) (by simp)
       ·rw [if_neg c18] at H
        exact absurd H (by simp)
      ·rw [if_neg c17] at H
       exact absurd H (by simp)
  ·rw [if_neg c8] at H
   exact absurd H (by simp)
 ·rw [if_neg c7] at H
  exact absurd H (by simp)


end Go.Proofs.YteeiljjjgkinhaaDoor.PHttpD
