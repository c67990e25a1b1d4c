-- Written by a program of this session on top of the print: some functions by hand.
import Derived.Test.YtbeljekpknpadaaDoorPPayUx0
import Derived.Test.YtbeljekpknpadaaDoorPPayUx5
import Derived.Test.YtbeljekpknpadaaDoorPPayUx9
namespace Go.Proofs.YtbeljekpknpadaaDoor.PPayU
open Go.RowKit Go.Proofs.YtbeljekpknpadaaDoorW.PrintWords Go.Proofs.YtbeljekpknpadaaDoorW.PrintLast Go.Proofs.YtbeljekpknpadaaDoorW.PrintMore
attribute [local go_sem] max2_int min2_int max_two min_two max_three min_three max_four min_four   -- for this text's walks alone
set_option linter.unusedVariables false
set_option linter.unusedSimpArgs false

/-! ### payload_CheckSchema: function 22 -/
mutual
def payload_CheckSchema.j0 : Nat → Bool → List (S89) → List (S93) → Option (Int)
 | 0, _, _, _ => none
 | k + 1, x3, x260000, x260001 => payload_CheckSchema.l0 k x3 x260000 (x260000.length : Int) 0 x260000 x260001
def payload_CheckSchema.l0 : Nat → Bool → List (S89) → Int → Int → List (S89) → List (S93) → Option (Int)
 | 0, _, _, _, _, _, _ => none
 | k + 1, x3, x37, x38, x39, x260000, x260001 => if x39 < x38 then (if 0 ≤ x39 then (if x39 < (x37.length : Int) then (if x3 = true then (if ((rd_T89 x37 x39).f1) ≥ 1 then (if ((rd_T89 x37 x39).f1) ≤ 64 then (if ((rd_T89 x37 x39).f2) ≥ 1 then (payload_CheckSchema.l0 k (decide (((rd_T89 x37 x39).f2) ≤ 3)) x37 x38 (wrap64 (x39 + 1)) x260000 x260001) else (payload_CheckSchema.l0 k false x37 x38 (wrap64 (x39 + 1)) x260000 x260001)) else (payload_CheckSchema.l0 k false x37 x38 (wrap64 (x39 + 1)) x260000 x260001)) else (payload_CheckSchema.l0 k false x37 x38 (wrap64 (x39 + 1)) x260000 x260001)) else (payload_CheckSchema.l0 k false x37 x38 (wrap64 (x39 + 1)) x260000 x260001)) else (none)) else (none)) else (payload_CheckSchema.l1 k x3 x260001 (x260001.length : Int) 0)
def payload_CheckSchema.l1 : Nat → Bool → List (S93) → Int → Int → Option (Int)
 | 0, _, _, _, _ => none
 | k + 1, x3, x66, x67, x68 => if x68 < x67 then (if 0 ≤ x68 then (if x68 < (x66.length : Int) then (if x3 = true then (if ((rd_T93 x66 x68).f1) ≥ 1 then (payload_CheckSchema.l1 k (decide (((rd_T93 x66 x68).f1) ≤ 3)) x66 x67 (wrap64 (x68 + 1))) else (payload_CheckSchema.l1 k false x66 x67 (wrap64 (x68 + 1)))) else (payload_CheckSchema.l1 k false x66 x67 (wrap64 (x68 + 1)))) else (none)) else (none)) else (if x3 = true then (some 0) else (some 50))
end
def payload_CheckSchema.f (k : Nat) (l0_0 : List (S89)) (l0_1 : List (S93)) : Option (Int) := if (l0_0.length : Int) ≥ 1 then (if (l0_0.length : Int) ≤ 4 then (if (l0_1.length : Int) ≤ 16 then ((api_VecSpec_47.f k l0_0 48).bind fun t260 => ((payload_rising.f k t260).bind fun t263 => (if t263 = true then ((api_FieldSpec_49.f k l0_1 50).bind fun t264 => ((payload_rising.f k t264).bind fun t267 => (payload_CheckSchema.j0 k t267 l0_0 l0_1))) else (payload_CheckSchema.j0 k false l0_0 l0_1)))) else (payload_CheckSchema.j0 k false l0_0 l0_1)) else (payload_CheckSchema.j0 k false l0_0 l0_1)) else (payload_CheckSchema.j0 k false l0_0 l0_1)
theorem payload_CheckSchema.mono_l : ∀ k, (∀ y0 y1 y2, LeO (payload_CheckSchema.j0 k y0 y1 y2) (payload_CheckSchema.j0 (k + 1) y0 y1 y2)) ∧ (∀ y0 y1 y2 y3 y4 y5, LeO (payload_CheckSchema.l0 k y0 y1 y2 y3 y4 y5) (payload_CheckSchema.l0 (k + 1) y0 y1 y2 y3 y4 y5)) ∧ (∀ y0 y1 y2 y3, LeO (payload_CheckSchema.l1 k y0 y1 y2 y3) (payload_CheckSchema.l1 (k + 1) y0 y1 y2 y3))
 | 0 => ⟨fun _ _ _ r h => by simp [payload_CheckSchema.j0] at h, fun _ _ _ _ _ _ r h => by simp [payload_CheckSchema.l0] at h, fun _ _ _ _ r h => by simp [payload_CheckSchema.l1] at h⟩
 | k + 1 => by
  obtain ⟨ih0, ih1, ih2⟩ := payload_CheckSchema.mono_l k
  refine ⟨?_, ?_, ?_⟩
  all_goals intros
  all_goals first | unfold payload_CheckSchema.j0 | unfold payload_CheckSchema.l0 | unfold payload_CheckSchema.l1
  all_goals repeat' first
   | (with_reducible exact ih0 _ _ _)
   | (with_reducible exact ih1 _ _ _ _ _ _)
   | (with_reducible exact ih2 _ _ _ _)
   | (with_reducible exact api_FieldSpec_49.mono _ _ _)
   | (with_reducible exact api_VecSpec_47.mono _ _ _)
   | (with_reducible exact payload_rising.mono _ _)
   | (with_reducible exact LeO.refl _)
   | (with_reducible exact LeO.none _)
   | (with_reducible refine LeO.ite ?_ ?_)
   | (with_reducible refine LeO.bind ?_ (fun _ => ?_))
   | exact ih0 _ _ _
   | exact ih1 _ _ _ _ _ _
   | exact ih2 _ _ _ _
   | exact api_FieldSpec_49.mono _ _ _
   | exact api_VecSpec_47.mono _ _ _
   | exact payload_rising.mono _ _
   | exact LeO.none _
   | refine LeO.ite ?_ ?_
   | refine LeO.bind ?_ (fun _ => ?_)
theorem payload_CheckSchema.mono : ∀ a0 a1 k, LeO (payload_CheckSchema.f k a0 a1) (payload_CheckSchema.f (k + 1) a0 a1) := by
 intro a0 a1 k
 obtain ⟨ih0, ih1, ih2⟩ := payload_CheckSchema.mono_l k
 unfold payload_CheckSchema.f
 repeat' first
   | (with_reducible exact ih0 _ _ _)
   | (with_reducible exact ih1 _ _ _ _ _ _)
   | (with_reducible exact ih2 _ _ _ _)
   | (with_reducible exact api_FieldSpec_49.mono _ _ _)
   | (with_reducible exact api_VecSpec_47.mono _ _ _)
   | (with_reducible exact payload_rising.mono _ _)
   | (with_reducible exact LeO.refl _)
   | (with_reducible exact LeO.none _)
   | (with_reducible refine LeO.ite ?_ ?_)
   | (with_reducible refine LeO.bind ?_ (fun _ => ?_))
   | exact ih0 _ _ _
   | exact ih1 _ _ _ _ _ _
   | exact ih2 _ _ _ _
   | exact api_FieldSpec_49.mono _ _ _
   | exact api_VecSpec_47.mono _ _ _
   | exact payload_rising.mono _ _
   | exact LeO.none _
   | refine LeO.ite ?_ ?_
   | refine LeO.bind ?_ (fun _ => ?_)
set_option maxHeartbeats 8000000 in
set_option maxRecDepth 100000 in
theorem payload_CheckSchema.calls (k : Nat) (A0_0 : Option Addr) (c0_0 : Nat) (l0_0 : List (S89)) (A0_1 : Option Addr) (c0_1 : Nat) (l0_1 : List (S93)) (r : Int) (w : World) (hr0_0 : Kd.C k89 w A0_0 l0_0.length l0_0) (hc0_0 : l0_0.length ≤ c0_0) (hr0_1 : Kd.C k93 w A0_1 l0_1.length l0_1) (hc0_1 : l0_1.length ≤ c0_1) (h : payload_CheckSchema.f k l0_0 l0_1 = some r) :
  Calls Tryd.prog 22 #[.agg #[.slice A0_0 l0_0.length c0_0, .slice A0_1 l0_1.length c0_1]] w fun e w' => e = .returned (.int .i64 r) ∧ Below w.heap.size w w' := by
 have hu51 := Tryd.underlying51
 have hu89 := Tryd.underlying89
 have hu93 := Tryd.underlying93
 have HR0_0 := Aside0.mk hr0_0
 have HC0_0 := Aside0.mk hc0_0
 clear hr0_0 hc0_0
 have HR0_1 := Aside0.mk hr0_1
 have HC0_1 := Aside0.mk hc0_1
 clear hr0_1 hc0_1
 have HB := Aside0.mk (Below.refl w.heap.size w)
 have H : (if (l0_0.length : Int) ≥ 1 then (if (l0_0.length : Int) ≤ 4 then (if (l0_1.length : Int) ≤ 16 then ((api_VecSpec_47.f k l0_0 48).bind fun t260 => ((payload_rising.f k t260).bind fun t263 => (if t263 = true then ((api_FieldSpec_49.f k l0_1 50).bind fun t264 => ((payload_rising.f k t264).bind fun t267 => (payload_CheckSchema.j0 k t267 l0_0 l0_1))) else (payload_CheckSchema.j0 k false l0_0 l0_1)))) else (payload_CheckSchema.j0 k false l0_0 l0_1)) else (payload_CheckSchema.j0 k false l0_0 l0_1)) else (payload_CheckSchema.j0 k false l0_0 l0_1)) = some r := h
 clear h
 have HC2 := Aside0.mk H
 clear H
 go_enter Tryd.func22, Tryd.ntmps22
 go_upto_region 1 with (first | ((with_reducible refine gate_dst (N := 1) rfl ?_); (try (refine gate_guard (by rfl) ?_; dsimp only)); refine box_event ?hg (N := 1) ?hd (cs := #[.slice A0_0 l0_0.length c0_0, .slice A0_1 l0_1.length c0_1]) (t := 51) ?hr ?_; (case hd => rfl); (case hg => rfl); (case hr => first | (go_simp; done) | (go_simp; rfl)); intro gb259 hg w3 hbox hb; have BK259 := Aside0.mk (hbox); have GW259 := Aside0.mk (gs (w := w) hg (bl HB.out)); have GE259 := Aside0.mk (gs (w := w) hg (bl HB.out)); replace HB := Aside0.mk (below_step (bl HB.out) hb); clear hb hbox hg))
 (try simp only [Act.put, List.setIfInBounds_toArray, List.set_cons_zero, List.set_cons_succ])
 go_cut [3] (fun v3 wc => ∃ (kq : Nat) (x3_1 : Bool), v3 = .bool x3_1 ∧ Aside0 (payload_CheckSchema.j0 kq x3_1 l0_0 l0_1 = some r) ∧ Aside0 (kq ≤ k) ∧ Aside0 (wc.heap[gb259]? = some (.cells #[(.slice A0_0 l0_0.length c0_0), (.slice A0_1 l0_1.length c0_1)] 51 (0, 0))) ∧ Aside0 (Below w.heap.size w wc))
 case first =>
  have H := HC2.out
  clear HC2
  by_cases c4 : (l0_0.length : Int) ≥ 1
  ·rw [if_pos c4] at H
   have c4b0 : decide (1 ≤ (l0_0.length : Int)) = true := decide_eq_true c4
   have c4b1 : decide (1 ≤ l0_0.length) = true := decide_eq_true (by omega)
   clear c4
   (first | rw [c4b0] | (simp only [i64_w, i32_w]; rw [c4b0]) | skip)
   by_cases c5 : (l0_0.length : Int) ≤ 4
   ·rw [if_pos c5] at H
    have c5b0 : decide ((l0_0.length : Int) ≤ 4) = true := decide_eq_true c5
    have c5b1 : decide (l0_0.length ≤ 4) = true := decide_eq_true (by omega)
    clear c5
    by_cases c6 : (l0_1.length : Int) ≤ 16
    ·rw [if_pos c6] at H
     have c6b0 : decide ((l0_1.length : Int) ≤ 16) = true := decide_eq_true c6
     have c6b1 : decide (l0_1.length ≤ 16) = true := decide_eq_true (by omega)
     clear c6
     replace H := Option.bind_eq_some_iff.mp H
     obtain ⟨t260, A70, H⟩ := H
     replace H : ((payload_rising.f k t260).bind fun t263 => (if t263 = true then ((api_FieldSpec_49.f k l0_1 50).bind fun t264 => ((payload_rising.f k t264).bind fun t267 => (payload_CheckSchema.j0 k t267 l0_0 l0_1))) else (payload_CheckSchema.j0 k false l0_0 l0_1))) = some r := H
     have A7 := Aside0.mk A70
     clear A70
     replace H := Option.bind_eq_some_iff.mp H
     obtain ⟨t263, A80, H⟩ := H
     replace H : (if t263 = true then ((api_FieldSpec_49.f k l0_1 50).bind fun t264 => ((payload_rising.f k t264).bind fun t267 => (payload_CheckSchema.j0 k t267 l0_0 l0_1))) else (payload_CheckSchema.j0 k false l0_0 l0_1)) = some r := H
     have A8 := Aside0.mk A80
     clear A80
     by_cases c9 : t263 = true
     ·subst c9
      have H1 : ((api_FieldSpec_49.f k l0_1 50).bind fun t264 => ((payload_rising.f k t264).bind fun t267 => (payload_CheckSchema.j0 k t267 l0_0 l0_1))) = some r := by rw [if_pos rfl] at H; exact H
      clear H
      have H := H1
      clear H1
      replace H := Option.bind_eq_some_iff.mp H
      obtain ⟨t264, A100, H⟩ := H
      replace H : ((payload_rising.f k t264).bind fun t267 => (payload_CheckSchema.j0 k t267 l0_0 l0_1)) = some r := H
      have A10 := Aside0.mk A100
      clear A100
      replace H := Option.bind_eq_some_iff.mp H
      obtain ⟨t267, A110, H⟩ := H
      replace H : (payload_CheckSchema.j0 k t267 l0_0 l0_1) = some r := H
      have A11 := Aside0.mk A110
      clear A110
      have H' := Aside0.mk H
      clear H
      obtain ⟨hcz12_0, hcz12_1, hfz12_0, hfz12_1⟩ := cz2 BK259.out
      go_wp2_with (first | (go_at_call 47; (with_reducible refine (api_VecSpec_47.calls k _ _ l0_0 48 t260 _ ?side1 ?side2 A7.out).mono ?_); (case side1 => repeat (first | exact (Kd.C_below HR0_0.out HB.out) | (with_reducible refine Kd.C_alloc ?_ _) | (with_reducible refine Kd.C_drewN ?_ _) | (with_reducible refine Kd.C_drew ?_))); (case side2 => exact HC0_0.out); rintro e w13 ⟨v261, rfl, ho0, hb⟩; have HO262 := Aside0.mk (Kd.R_lower ho0 (below_size (bl HB.out))); replace BK259 := Aside0.mk (blk_below (pk BK259.out) hb); replace HB := Aside0.mk (below_step (bl HB.out) hb); (try clear hb); (try clear hb2); (try clear hk); (try clear hi); (try clear ho0); obtain ⟨Ao14, co14, eo14⟩ := Kd.R_slice HO262.out; subst eo14) | (go_at_call 46; (with_reducible refine (payload_rising.calls k _ _ t260 true _ ?side1 ?side2 A8.out).mono ?_); (case side1 => repeat (first | exact (Kd.R_reads' HO262.out).2.2 | (with_reducible refine Kd.C_alloc ?_ _) | (with_reducible refine Kd.C_drewN ?_ _) | (with_reducible refine Kd.C_drew ?_))); (case side2 => exact (Kd.R_reads' HO262.out).2.1); rintro e w15 ⟨rfl, hb⟩; replace HO262 := Aside0.mk (Kd.R_below (pR HO262.out) hb); replace BK259 := Aside0.mk (blk_below (pk BK259.out) hb); replace HB := Aside0.mk (below_step (bl HB.out) hb); (try clear hb); (try clear hb2); (try clear hk); (try clear hi); obtain ⟨hcz16_0, hcz16_1, hfz16_0, hfz16_1⟩ := cz2 BK259.out) | (go_at_call 49; (with_reducible refine (api_FieldSpec_49.calls k _ _ l0_1 50 t264 _ ?side1 ?side2 A10.out).mono ?_); (case side1 => repeat (first | exact (Kd.C_below HR0_1.out HB.out) | (with_reducible refine Kd.C_alloc ?_ _) | (with_reducible refine Kd.C_drewN ?_ _) | (with_reducible refine Kd.C_drew ?_))); (case side2 => exact HC0_1.out); rintro e w17 ⟨v265, rfl, ho0, hb⟩; have HO266 := Aside0.mk (Kd.R_lower (Kd.R_new' ho0 (Kd.R_lt (pR HO262.out))) (below_size (bl HB.out))); replace HO262 := Aside0.mk (Kd.R_elder' (pR HO262.out) (Kd.R_base ho0) hb); replace BK259 := Aside0.mk (blk_below (pk BK259.out) hb); replace HB := Aside0.mk (below_step (bl HB.out) hb); (try clear hb); (try clear hb2); (try clear hk); (try clear hi); (try clear ho0); obtain ⟨Ao18, co18, eo18⟩ := Kd.R_slice HO266.out; subst eo18) | (go_at_call 46; (with_reducible refine (payload_rising.calls k _ _ t264 t267 _ ?side1 ?side2 A11.out).mono ?_); (case side1 => repeat (first | exact (Kd.R_reads' HO266.out).2.2 | (with_reducible refine Kd.C_alloc ?_ _) | (with_reducible refine Kd.C_drewN ?_ _) | (with_reducible refine Kd.C_drew ?_))); (case side2 => exact (Kd.R_reads' HO266.out).2.1); rintro e w19 ⟨rfl, hb⟩; replace HO262 := Aside0.mk (Kd.R_below (pR HO262.out) hb); replace HO266 := Aside0.mk (Kd.R_below (pR HO266.out) hb); replace BK259 := Aside0.mk (blk_below (pk BK259.out) hb); replace HB := Aside0.mk (below_step (bl HB.out) hb); (try clear hb); (try clear hb2); (try clear hk); (try clear hi)))
      go_meet
      case rel => exact ⟨_, (t267), hsr, H', ⟨by first | omega | exact Nat.le_refl _⟩, ⟨pk BK259.out⟩, ⟨bl HB.out⟩⟩
     ·replace c9 := Bool.eq_false_iff.mpr c9
      subst c9
      have H1 : (payload_CheckSchema.j0 k false l0_0 l0_1) = some r := by rw [if_neg (show ¬ (false = true) by decide)] at H; exact H
      clear H
      have H := H1
      clear H1
      have H' := Aside0.mk H
      clear H
      obtain ⟨hcz20_0, hcz20_1, hfz20_0, hfz20_1⟩ := cz2 BK259.out
      go_wp2_with (first | (go_at_call 47; (with_reducible refine (api_VecSpec_47.calls k _ _ l0_0 48 t260 _ ?side1 ?side2 A7.out).mono ?_); (case side1 => repeat (first | exact (Kd.C_below HR0_0.out HB.out) | (with_reducible refine Kd.C_alloc ?_ _) | (with_reducible refine Kd.C_drewN ?_ _) | (with_reducible refine Kd.C_drew ?_))); (case side2 => exact HC0_0.out); rintro e w21 ⟨v261, rfl, ho0, hb⟩; have HO262 := Aside0.mk (Kd.R_lower ho0 (below_size (bl HB.out))); replace BK259 := Aside0.mk (blk_below (pk BK259.out) hb); replace HB := Aside0.mk (below_step (bl HB.out) hb); (try clear hb); (try clear hb2); (try clear hk); (try clear hi); (try clear ho0); obtain ⟨Ao22, co22, eo22⟩ := Kd.R_slice HO262.out; subst eo22) | (go_at_call 46; (with_reducible refine (payload_rising.calls k _ _ t260 false _ ?side1 ?side2 A8.out).mono ?_); (case side1 => repeat (first | exact (Kd.R_reads' HO262.out).2.2 | (with_reducible refine Kd.C_alloc ?_ _) | (with_reducible refine Kd.C_drewN ?_ _) | (with_reducible refine Kd.C_drew ?_))); (case side2 => exact (Kd.R_reads' HO262.out).2.1); rintro e w23 ⟨rfl, hb⟩; replace HO262 := Aside0.mk (Kd.R_below (pR HO262.out) hb); replace BK259 := Aside0.mk (blk_below (pk BK259.out) hb); replace HB := Aside0.mk (below_step (bl HB.out) hb); (try clear hb); (try clear hb2); (try clear hk); (try clear hi)))
      go_meet
      case rel => exact ⟨_, (false), hsr, H', ⟨by first | omega | exact Nat.le_refl _⟩, ⟨pk BK259.out⟩, ⟨bl HB.out⟩⟩
    ·rw [if_neg c6] at H
     have c6b0 : decide ((l0_1.length : Int) ≤ 16) = false := decide_eq_false c6
     have c6b1 : decide (l0_1.length ≤ 16) = false := decide_eq_false (by omega)
     clear c6
     have H' := Aside0.mk H
     clear H
     obtain ⟨hcz24_0, hcz24_1, hfz24_0, hfz24_1⟩ := cz2 BK259.out
     go_wp2
     go_meet
     case rel => exact ⟨_, (false), hsr, H', ⟨by first | omega | exact Nat.le_refl _⟩, ⟨pk BK259.out⟩, ⟨bl HB.out⟩⟩
   ·rw [if_neg c5] at H
    have c5b0 : decide ((l0_0.length : Int) ≤ 4) = false := decide_eq_false c5
    have c5b1 : decide (l0_0.length ≤ 4) = false := decide_eq_false (by omega)
    clear c5
    have H' := Aside0.mk H
    clear H
    obtain ⟨hcz25_0, hcz25_1, hfz25_0, hfz25_1⟩ := cz2 BK259.out
    go_wp2
    go_meet
    case rel => exact ⟨_, (false), hsr, H', ⟨by first | omega | exact Nat.le_refl _⟩, ⟨pk BK259.out⟩, ⟨bl HB.out⟩⟩
  ·rw [if_neg c4] at H
   have c4b0 : decide (1 ≤ (l0_0.length : Int)) = false := decide_eq_false c4
   have c4b1 : decide (1 ≤ l0_0.length) = false := decide_eq_false (by omega)
   clear c4
   (first | rw [c4b0] | (simp only [i64_w, i32_w]; rw [c4b0]) | skip)
   have H' := Aside0.mk H
   clear H
   obtain ⟨hcz26_0, hcz26_1, hfz26_0, hfz26_1⟩ := cz2 BK259.out
   go_wp2
   go_meet
   case rel => exact ⟨_, (false), hsr, H', ⟨by first | omega | exact Nat.le_refl _⟩, ⟨pk BK259.out⟩, ⟨bl HB.out⟩⟩
 case rest =>
  clear HC2
  try clear c2
  try clear p2
  try clear c4
  try clear c4b0
  try clear c4b1
  try clear c5
  try clear c5b0
  try clear c5b1
  try clear c6
  try clear c6b0
  try clear c6b1
  try clear c9
  try clear c22
  try clear hcz26_0 hcz26_1 hfz26_0 hfz26_1
  try clear hcz25_0 hcz25_1 hfz25_0 hfz25_1
  try clear hcz24_0 hcz24_1 hfz24_0 hfz24_1
  try clear hcz20_0 hcz20_1 hfz20_0 hfz20_1
  try clear hcz16_0 hcz16_1 hfz16_0 hfz16_1
  try clear hcz12_0 hcz12_1 hfz12_0 hfz12_1
  obtain ⟨kq, x3_1, rfl, HA, HJ1, BK259, HB⟩ := hcut
  cases kq with
  | zero => exact absurd HA.out (by simp [payload_CheckSchema.j0])
  | succ kj1 =>
   have H := HA.out
   clear HA
   simp only [payload_CheckSchema.j0] at H
   have H' := Aside0.mk H
   clear H
   obtain ⟨hcz27_0, hcz27_1, hfz27_0, hfz27_1⟩ := cz2 BK259.out
   go_wp2
   go_loopg [3, 39] kj1 (fun kq v3 v39 w' => ∃ (x3_2 : Bool) (x39_2 : Int), v3 = .bool x3_2 ∧ v39 = .int .i64 x39_2 ∧ Aside0 (payload_CheckSchema.l0 kq x3_2 l0_0 (l0_0.length : Int) x39_2 l0_0 l0_1 = some r) ∧ Aside0 (kq ≤ kj1) ∧ Aside0 (w'.heap[gb259]? = some (.cells #[(.slice A0_0 l0_0.length c0_0), (.slice A0_1 l0_1.length c0_1)] 51 (0, 0))) ∧ Aside0 (Below w.heap.size w w'))
   case atStart => exact ⟨(x3_1), (0), hsr, hsr, H', ⟨Nat.le_refl _⟩, ⟨pk BK259.out⟩, ⟨bl HB.out⟩⟩
   case round =>
    clear H'
    try clear c2
    try clear p2
    try clear c4
    try clear c4b0
    try clear c4b1
    try clear c5
    try clear c5b0
    try clear c5b1
    try clear c6
    try clear c6b0
    try clear c6b1
    try clear c9
    try clear c22
    try clear hcz27_0 hcz27_1 hfz27_0 hfz27_1
    try clear hcz26_0 hcz26_1 hfz26_0 hfz26_1
    try clear hcz25_0 hcz25_1 hfz25_0 hfz25_1
    try clear hcz24_0 hcz24_1 hfz24_0 hfz24_1
    try clear hcz20_0 hcz20_1 hfz20_0 hfz20_1
    try clear hcz16_0 hcz16_1 hfz16_0 hfz16_1
    try clear hcz12_0 hcz12_1 hfz12_0 hfz12_1
    try clear p2
    obtain ⟨x3_2, x39_2, rfl, rfl, HA, HK2, BK259, HB⟩ := hrel
    cases gk with
    | zero => exact absurd HA.out (by simp [payload_CheckSchema.l0])
    | succ k2 =>
     have H := HA.out
     clear HA
     simp only [payload_CheckSchema.l0] at H
     by_cases c28 : x39_2 < (l0_0.length : Int)
     ·rw [if_pos c28] at H
      have c28b0 : decide (x39_2 < (l0_0.length : Int)) = true := decide_eq_true c28
      clear c28
      by_cases c29 : 0 ≤ x39_2
      ·rw [if_pos c29] at H
       have c29b0 : decide (0 ≤ x39_2) = true := decide_eq_true c29
       clear c29
       by_cases c30 : x39_2 < (l0_0.length : Int)
       ·rw [if_pos c30] at H
        have c30b0 : decide (x39_2 < (l0_0.length : Int)) = true := decide_eq_true c30
        clear c30
        by_cases c31 : x3_2 = true
        ·subst c31
         have H1 : (if ((rd_T89 l0_0 x39_2).f1) ≥ 1 then (if ((rd_T89 l0_0 x39_2).f1) ≤ 64 then (if ((rd_T89 l0_0 x39_2).f2) ≥ 1 then (payload_CheckSchema.l0 k2 (decide (((rd_T89 l0_0 x39_2).f2) ≤ 3)) l0_0 (l0_0.length : Int) (wrap64 (x39_2 + 1)) l0_0 l0_1) else (payload_CheckSchema.l0 k2 false l0_0 (l0_0.length : Int) (wrap64 (x39_2 + 1)) l0_0 l0_1)) else (payload_CheckSchema.l0 k2 false l0_0 (l0_0.length : Int) (wrap64 (x39_2 + 1)) l0_0 l0_1)) else (payload_CheckSchema.l0 k2 false l0_0 (l0_0.length : Int) (wrap64 (x39_2 + 1)) l0_0 l0_1)) = some r := by rw [if_pos rfl] at H; exact H
         clear H
         have H := H1
         clear H1
         by_cases c32 : ((rd_T89 l0_0 x39_2).f1) ≥ 1
         ·rw [if_pos c32] at H
          have c32b0 : decide (1 ≤ ((rd_T89 l0_0 x39_2).f1)) = true := decide_eq_true c32
          clear c32
          by_cases c33 : ((rd_T89 l0_0 x39_2).f1) ≤ 64
          ·rw [if_pos c33] at H
           have c33b0 : decide (((rd_T89 l0_0 x39_2).f1) ≤ 64) = true := decide_eq_true c33
           clear c33
           by_cases c34 : ((rd_T89 l0_0 x39_2).f2) ≥ 1
           ·rw [if_pos c34] at H
            have c34b0 : decide (1 ≤ ((rd_T89 l0_0 x39_2).f2)) = true := decide_eq_true c34
            clear c34
            have H' := Aside0.mk H
            clear H
            have p268 : 0 ≤ (x39_2 : Int) := of_decide_eq_true ha
            have q268 : x39_2 < (l0_0.length : Int) := of_decide_eq_true ha
            obtain ⟨ad268, e268, hx268_0, hx268_1, hx268_2⟩ := at_T89 HR0_0.out x39_2 p268 q268
            cases e268
            replace hx268_0 := (HB.out.cell (World.block_lt_of_cell? w _ hx268_0)).trans hx268_0
            replace hx268_1 := (HB.out.cell (World.block_lt_of_cell? w _ hx268_1)).trans hx268_1
            replace hx268_2 := (HB.out.cell (World.block_lt_of_cell? w _ hx268_2)).trans hx268_2
            replace p268 := eq_true p268
            replace q268 := eq_true q268
            go_wp2_with (first | ((with_reducible refine gate_dst (N := 5) rfl ?_); (try (refine gate_guard (by rfl) ?_; dsimp only)); refine box_event ?hg (N := 5) ?hd (cs := #[.string (⟨#[]⟩ : ByteArray), .int .i64 0, .int .i64 0]) (t := 89) ?hr ?_; (case hd => rfl); (case hg => rfl); (case hr => first | (go_simp; done) | (go_simp; rfl)); intro gb269 hg w35 hbox hb; have BK269 := Aside0.mk (hbox); have GW269 := Aside0.mk (gs (w := w) hg (bl HB.out)); have GE269 := Aside0.mk (gs (w := w) hg (bl HB.out)); replace HB := Aside0.mk (below_step (bl HB.out) hb); have NB259_269 := Aside0.mk ((gl (g := gb259) hg (pk BK259.out))); have NB269_259 := Aside0.mk ((gm (g := gb259) hg (pk BK259.out))); replace BK259 := Aside0.mk (blk_below (pk BK259.out) hb); clear hb hbox hg; have hnb36 := NB269_259.out; have hnc36 := NB259_269.out; obtain ⟨hcz37_0, hcz37_1, hcz37_2, hfz37_0, hfz37_1, hfz37_2⟩ := cz3 BK269.out))
            go_roundg k2
            case measure => have := HJ1.out; have := HK2.out; omega
            case rel => exact ⟨(decide (((rd_T89 l0_0 x39_2).f2) ≤ 3)), (wrap64 (x39_2 + 1)), hsr, hsr, H', ⟨by have := HJ1.out; have := HK2.out; omega⟩, ⟨by refine pk ?_; refine blk_far ?_ NB259_269.out _; refine pk ?_; refine blk_far ?_ NB259_269.out _; refine pk ?_; refine blk_far ?_ NB259_269.out _; exact pk BK259.out⟩, ⟨bl HB.out⟩⟩
           ·rw [if_neg c34] at H
            have c34b0 : decide (1 ≤ ((rd_T89 l0_0 x39_2).f2)) = false := decide_eq_false c34
            clear c34
            have H' := Aside0.mk H
            clear H
            have p268 : 0 ≤ (x39_2 : Int) := of_decide_eq_true ha
            have q268 : x39_2 < (l0_0.length : Int) := of_decide_eq_true ha
            obtain ⟨ad268, e268, hx268_0, hx268_1, hx268_2⟩ := at_T89 HR0_0.out x39_2 p268 q268
            cases e268
            replace hx268_0 := (HB.out.cell (World.block_lt_of_cell? w _ hx268_0)).trans hx268_0
            replace hx268_1 := (HB.out.cell (World.block_lt_of_cell? w _ hx268_1)).trans hx268_1
            replace hx268_2 := (HB.out.cell (World.block_lt_of_cell? w _ hx268_2)).trans hx268_2
            replace p268 := eq_true p268
            replace q268 := eq_true q268
            go_wp2_with (first | ((with_reducible refine gate_dst (N := 5) rfl ?_); (try (refine gate_guard (by rfl) ?_; dsimp only)); refine box_event ?hg (N := 5) ?hd (cs := #[.string (⟨#[]⟩ : ByteArray), .int .i64 0, .int .i64 0]) (t := 89) ?hr ?_; (case hd => rfl); (case hg => rfl); (case hr => first | (go_simp; done) | (go_simp; rfl)); intro gb269 hg w38 hbox hb; have BK269 := Aside0.mk (hbox); have GW269 := Aside0.mk (gs (w := w) hg (bl HB.out)); have GE269 := Aside0.mk (gs (w := w) hg (bl HB.out)); replace HB := Aside0.mk (below_step (bl HB.out) hb); have NB259_269 := Aside0.mk ((gl (g := gb259) hg (pk BK259.out))); have NB269_259 := Aside0.mk ((gm (g := gb259) hg (pk BK259.out))); replace BK259 := Aside0.mk (blk_below (pk BK259.out) hb); clear hb hbox hg; have hnb39 := NB269_259.out; have hnc39 := NB259_269.out; obtain ⟨hcz40_0, hcz40_1, hcz40_2, hfz40_0, hfz40_1, hfz40_2⟩ := cz3 BK269.out))
            go_roundg k2
            case measure => have := HJ1.out; have := HK2.out; omega
            case rel => exact ⟨(false), (wrap64 (x39_2 + 1)), hsr, hsr, H', ⟨by have := HJ1.out; have := HK2.out; omega⟩, ⟨by refine pk ?_; refine blk_far ?_ NB259_269.out _; refine pk ?_; refine blk_far ?_ NB259_269.out _; refine pk ?_; refine blk_far ?_ NB259_269.out _; exact pk BK259.out⟩, ⟨bl HB.out⟩⟩
          ·rw [if_neg c33] at H
           have c33b0 : decide (((rd_T89 l0_0 x39_2).f1) ≤ 64) = false := decide_eq_false c33
           clear c33
           have H' := Aside0.mk H
           clear H
           have p268 : 0 ≤ (x39_2 : Int) := of_decide_eq_true ha
           have q268 : x39_2 < (l0_0.length : Int) := of_decide_eq_true ha
           obtain ⟨ad268, e268, hx268_0, hx268_1, hx268_2⟩ := at_T89 HR0_0.out x39_2 p268 q268
           cases e268
           replace hx268_0 := (HB.out.cell (World.block_lt_of_cell? w _ hx268_0)).trans hx268_0
           replace hx268_1 := (HB.out.cell (World.block_lt_of_cell? w _ hx268_1)).trans hx268_1
           replace hx268_2 := (HB.out.cell (World.block_lt_of_cell? w _ hx268_2)).trans hx268_2
           replace p268 := eq_true p268
           replace q268 := eq_true q268
           go_wp2_with (first | ((with_reducible refine gate_dst (N := 5) rfl ?_); (try (refine gate_guard (by rfl) ?_; dsimp only)); refine box_event ?hg (N := 5) ?hd (cs := #[.string (⟨#[]⟩ : ByteArray), .int .i64 0, .int .i64 0]) (t := 89) ?hr ?_; (case hd => rfl); (case hg => rfl); (case hr => first | (go_simp; done) | (go_simp; rfl)); intro gb269 hg w41 hbox hb; have BK269 := Aside0.mk (hbox); have GW269 := Aside0.mk (gs (w := w) hg (bl HB.out)); have GE269 := Aside0.mk (gs (w := w) hg (bl HB.out)); replace HB := Aside0.mk (below_step (bl HB.out) hb); have NB259_269 := Aside0.mk ((gl (g := gb259) hg (pk BK259.out))); have NB269_259 := Aside0.mk ((gm (g := gb259) hg (pk BK259.out))); replace BK259 := Aside0.mk (blk_below (pk BK259.out) hb); clear hb hbox hg; have hnb42 := NB269_259.out; have hnc42 := NB259_269.out; obtain ⟨hcz43_0, hcz43_1, hcz43_2, hfz43_0, hfz43_1, hfz43_2⟩ := cz3 BK269.out))
           go_roundg k2
           case measure => have := HJ1.out; have := HK2.out; omega
           case rel => exact ⟨(false), (wrap64 (x39_2 + 1)), hsr, hsr, H', ⟨by have := HJ1.out; have := HK2.out; omega⟩, ⟨by refine pk ?_; refine blk_far ?_ NB259_269.out _; refine pk ?_; refine blk_far ?_ NB259_269.out _; refine pk ?_; refine blk_far ?_ NB259_269.out _; exact pk BK259.out⟩, ⟨bl HB.out⟩⟩
         ·rw [if_neg c32] at H
          have c32b0 : decide (1 ≤ ((rd_T89 l0_0 x39_2).f1)) = false := decide_eq_false c32
          clear c32
          have H' := Aside0.mk H
          clear H
          have p268 : 0 ≤ (x39_2 : Int) := of_decide_eq_true ha
          have q268 : x39_2 < (l0_0.length : Int) := of_decide_eq_true ha
          obtain ⟨ad268, e268, hx268_0, hx268_1, hx268_2⟩ := at_T89 HR0_0.out x39_2 p268 q268
          cases e268
          replace hx268_0 := (HB.out.cell (World.block_lt_of_cell? w _ hx268_0)).trans hx268_0
          replace hx268_1 := (HB.out.cell (World.block_lt_of_cell? w _ hx268_1)).trans hx268_1
          replace hx268_2 := (HB.out.cell (World.block_lt_of_cell? w _ hx268_2)).trans hx268_2
          replace p268 := eq_true p268
          replace q268 := eq_true q268
          go_wp2_with (first | ((with_reducible refine gate_dst (N := 5) rfl ?_); (try (refine gate_guard (by rfl) ?_; dsimp only)); refine box_event ?hg (N := 5) ?hd (cs := #[.string (⟨#[]⟩ : ByteArray), .int .i64 0, .int .i64 0]) (t := 89) ?hr ?_; (case hd => rfl); (case hg => rfl); (case hr => first | (go_simp; done) | (go_simp; rfl)); intro gb269 hg w44 hbox hb; have BK269 := Aside0.mk (hbox); have GW269 := Aside0.mk (gs (w := w) hg (bl HB.out)); have GE269 := Aside0.mk (gs (w := w) hg (bl HB.out)); replace HB := Aside0.mk (below_step (bl HB.out) hb); have NB259_269 := Aside0.mk ((gl (g := gb259) hg (pk BK259.out))); have NB269_259 := Aside0.mk ((gm (g := gb259) hg (pk BK259.out))); replace BK259 := Aside0.mk (blk_below (pk BK259.out) hb); clear hb hbox hg; have hnb45 := NB269_259.out; have hnc45 := NB259_269.out; obtain ⟨hcz46_0, hcz46_1, hcz46_2, hfz46_0, hfz46_1, hfz46_2⟩ := cz3 BK269.out))
          go_roundg k2
          case measure => have := HJ1.out; have := HK2.out; omega
          case rel => exact ⟨(false), (wrap64 (x39_2 + 1)), hsr, hsr, H', ⟨by have := HJ1.out; have := HK2.out; omega⟩, ⟨by refine pk ?_; refine blk_far ?_ NB259_269.out _; refine pk ?_; refine blk_far ?_ NB259_269.out _; refine pk ?_; refine blk_far ?_ NB259_269.out _; exact pk BK259.out⟩, ⟨bl HB.out⟩⟩
        ·replace c31 := Bool.eq_false_iff.mpr c31
         subst c31
         have H1 : (payload_CheckSchema.l0 k2 false l0_0 (l0_0.length : Int) (wrap64 (x39_2 + 1)) l0_0 l0_1) = some r := by rw [if_neg (show ¬ (false = true) by decide)] at H; exact H
         clear H
         have H := H1
         clear H1
         have H' := Aside0.mk H
         clear H
         have p268 : 0 ≤ (x39_2 : Int) := of_decide_eq_true ha
         have q268 : x39_2 < (l0_0.length : Int) := of_decide_eq_true ha
         obtain ⟨ad268, e268, hx268_0, hx268_1, hx268_2⟩ := at_T89 HR0_0.out x39_2 p268 q268
         cases e268
         replace hx268_0 := (HB.out.cell (World.block_lt_of_cell? w _ hx268_0)).trans hx268_0
         replace hx268_1 := (HB.out.cell (World.block_lt_of_cell? w _ hx268_1)).trans hx268_1
         replace hx268_2 := (HB.out.cell (World.block_lt_of_cell? w _ hx268_2)).trans hx268_2
         replace p268 := eq_true p268
         replace q268 := eq_true q268
         go_wp2_with (first | ((with_reducible refine gate_dst (N := 5) rfl ?_); (try (refine gate_guard (by rfl) ?_; dsimp only)); refine box_event ?hg (N := 5) ?hd (cs := #[.string (⟨#[]⟩ : ByteArray), .int .i64 0, .int .i64 0]) (t := 89) ?hr ?_; (case hd => rfl); (case hg => rfl); (case hr => first | (go_simp; done) | (go_simp; rfl)); intro gb269 hg w47 hbox hb; have BK269 := Aside0.mk (hbox); have GW269 := Aside0.mk (gs (w := w) hg (bl HB.out)); have GE269 := Aside0.mk (gs (w := w) hg (bl HB.out)); replace HB := Aside0.mk (below_step (bl HB.out) hb); have NB259_269 := Aside0.mk ((gl (g := gb259) hg (pk BK259.out))); have NB269_259 := Aside0.mk ((gm (g := gb259) hg (pk BK259.out))); replace BK259 := Aside0.mk (blk_below (pk BK259.out) hb); clear hb hbox hg; have hnb48 := NB269_259.out; have hnc48 := NB259_269.out; obtain ⟨hcz49_0, hcz49_1, hcz49_2, hfz49_0, hfz49_1, hfz49_2⟩ := cz3 BK269.out))
         go_roundg k2
         case measure => have := HJ1.out; have := HK2.out; omega
         case rel => exact ⟨(false), (wrap64 (x39_2 + 1)), hsr, hsr, H', ⟨by have := HJ1.out; have := HK2.out; omega⟩, ⟨by refine pk ?_; refine blk_far ?_ NB259_269.out _; refine pk ?_; refine blk_far ?_ NB259_269.out _; refine pk ?_; refine blk_far ?_ NB259_269.out _; exact pk BK259.out⟩, ⟨bl HB.out⟩⟩
       ·rw [if_neg c30] at H
        exact absurd H (by simp)
      ·rw [if_neg c29] at H
       exact absurd H (by simp)
     ·rw [if_neg c28] at H
      have c28b0 : decide (x39_2 < (l0_0.length : Int)) = false := decide_eq_false c28
      clear c28
      have H' := Aside0.mk H
      clear H
      obtain ⟨hcz50_0, hcz50_1, hfz50_0, hfz50_1⟩ := cz2 BK259.out
      go_wp2
      go_loopg [3, 68] k2 (fun kq v3 v68 w' => ∃ (x3_3 : Bool) (x68_3 : Int), v3 = .bool x3_3 ∧ v68 = .int .i64 x68_3 ∧ Aside0 (payload_CheckSchema.l1 kq x3_3 l0_1 (l0_1.length : Int) x68_3 = some r) ∧ Aside0 (kq ≤ k2) ∧ Aside0 (w'.heap[gb259]? = some (.cells #[(.slice A0_0 l0_0.length c0_0), (.slice A0_1 l0_1.length c0_1)] 51 (0, 0))) ∧ Aside0 (Below w.heap.size w w'))
      case atStart => exact ⟨(x3_2), (0), hsr, hsr, H', ⟨Nat.le_refl _⟩, ⟨pk BK259.out⟩, ⟨bl HB.out⟩⟩
      case round =>
       clear H'
       try clear c2
       try clear p2
       try clear q2
       try clear hx2
       try clear c3
       try clear c4
       try clear c4b0
       try clear c4b1
       try clear c5
       try clear c5b0
       try clear c5b1
       try clear c6
       try clear c6b0
       try clear c6b1
       try clear p6
       try clear c9
       try clear c22
       try clear p26
       try clear q26
       try clear hx26
       try clear c28
       try clear c28b0
       try clear c29
       try clear c29b0
       try clear c30
       try clear c30b0
       try clear c31
       try clear c32
       try clear c32b0
       try clear c33
       try clear c33b0
       try clear c34
       try clear c34b0
       try clear c36
       try clear c39
       try clear c42
       try clear c45
       try clear c48
       try clear hcz50_0 hcz50_1 hfz50_0 hfz50_1
       try clear hcz49_0 hcz49_1 hcz49_2 hfz49_0 hfz49_1 hfz49_2
       try clear hcz46_0 hcz46_1 hcz46_2 hfz46_0 hfz46_1 hfz46_2
       try clear hcz43_0 hcz43_1 hcz43_2 hfz43_0 hfz43_1 hfz43_2
       try clear hcz40_0 hcz40_1 hcz40_2 hfz40_0 hfz40_1 hfz40_2
       try clear hcz37_0 hcz37_1 hcz37_2 hfz37_0 hfz37_1 hfz37_2
       try clear hcz27_0 hcz27_1 hfz27_0 hfz27_1
       try clear hcz26_0 hcz26_1 hfz26_0 hfz26_1
       try clear hcz25_0 hcz25_1 hfz25_0 hfz25_1
       try clear hcz24_0 hcz24_1 hfz24_0 hfz24_1
       try clear hcz20_0 hcz20_1 hfz20_0 hfz20_1
       try clear hcz16_0 hcz16_1 hfz16_0 hfz16_1
       try clear hcz12_0 hcz12_1 hfz12_0 hfz12_1
       try clear hx268_0
       try clear hx268_1
       try clear hx268_2
       try clear p2
       try clear p268
       try clear q268
       obtain ⟨x3_3, x68_3, rfl, rfl, HA, HK3, BK259, HB⟩ := hrel
       cases gk with
       | zero => exact absurd HA.out (by simp [payload_CheckSchema.l1])
       | succ k3 =>
        have H := HA.out
        clear HA
        simp only [payload_CheckSchema.l1] at H
        by_cases c51 : x68_3 < (l0_1.length : Int)
        ·rw [if_pos c51] at H
         have c51b0 : decide (x68_3 < (l0_1.length : Int)) = true := decide_eq_true c51
         clear c51
         by_cases c52 : 0 ≤ x68_3
         ·rw [if_pos c52] at H
          have c52b0 : decide (0 ≤ x68_3) = true := decide_eq_true c52
          clear c52
          by_cases c53 : x68_3 < (l0_1.length : Int)
          ·rw [if_pos c53] at H
           have c53b0 : decide (x68_3 < (l0_1.length : Int)) = true := decide_eq_true c53
           clear c53
           by_cases c54 : x3_3 = true
           ·subst c54
            have H1 : (if ((rd_T93 l0_1 x68_3).f1) ≥ 1 then (payload_CheckSchema.l1 k3 (decide (((rd_T93 l0_1 x68_3).f1) ≤ 3)) l0_1 (l0_1.length : Int) (wrap64 (x68_3 + 1))) else (payload_CheckSchema.l1 k3 false l0_1 (l0_1.length : Int) (wrap64 (x68_3 + 1)))) = some r := by rw [if_pos rfl] at H; exact H
            clear H
            have H := H1
            clear H1
            by_cases c55 : ((rd_T93 l0_1 x68_3).f1) ≥ 1
            ·rw [if_pos c55] at H
             have c55b0 : decide (1 ≤ ((rd_T93 l0_1 x68_3).f1)) = true := decide_eq_true c55
             clear c55
             have H' := Aside0.mk H
             clear H
             have p270 : 0 ≤ (x68_3 : Int) := of_decide_eq_true ha
             have q270 : x68_3 < (l0_1.length : Int) := of_decide_eq_true ha
             obtain ⟨ad270, e270, hx270_0, hx270_1⟩ := at_T93 HR0_1.out x68_3 p270 q270
             cases e270
             replace hx270_0 := (HB.out.cell (World.block_lt_of_cell? w _ hx270_0)).trans hx270_0
             replace hx270_1 := (HB.out.cell (World.block_lt_of_cell? w _ hx270_1)).trans hx270_1
             replace p270 := eq_true p270
             replace q270 := eq_true q270
             go_wp2_with (first | ((with_reducible refine gate_dst (N := 7) rfl ?_); (try (refine gate_guard (by rfl) ?_; dsimp only)); refine box_event ?hg (N := 7) ?hd (cs := #[.string (⟨#[]⟩ : ByteArray), .int .i64 0]) (t := 93) ?hr ?_; (case hd => rfl); (case hg => rfl); (case hr => first | (go_simp; done) | (go_simp; rfl)); intro gb271 hg w56 hbox hb; have BK271 := Aside0.mk (hbox); have GW271 := Aside0.mk (gs (w := w) hg (bl HB.out)); have GE271 := Aside0.mk (gs (w := w) hg (bl HB.out)); replace HB := Aside0.mk (below_step (bl HB.out) hb); have NB259_271 := Aside0.mk ((gl (g := gb259) hg (pk BK259.out))); have NB271_259 := Aside0.mk ((gm (g := gb259) hg (pk BK259.out))); replace BK259 := Aside0.mk (blk_below (pk BK259.out) hb); clear hb hbox hg; have hnb57 := NB271_259.out; have hnc57 := NB259_271.out; obtain ⟨hcz58_0, hcz58_1, hfz58_0, hfz58_1⟩ := cz2 BK271.out))
             go_roundg k3
             case measure => have := HJ1.out; have := HK2.out; have := HK3.out; omega
             case rel => exact ⟨(decide (((rd_T93 l0_1 x68_3).f1) ≤ 3)), (wrap64 (x68_3 + 1)), hsr, hsr, H', ⟨by have := HJ1.out; have := HK2.out; have := HK3.out; omega⟩, ⟨by refine pk ?_; refine blk_far ?_ NB259_271.out _; refine pk ?_; refine blk_far ?_ NB259_271.out _; exact pk BK259.out⟩, ⟨bl HB.out⟩⟩
            ·rw [if_neg c55] at H
             have c55b0 : decide (1 ≤ ((rd_T93 l0_1 x68_3).f1)) = false := decide_eq_false c55
             clear c55
             have H' := Aside0.mk H
             clear H
             have p270 : 0 ≤ (x68_3 : Int) := of_decide_eq_true ha
             have q270 : x68_3 < (l0_1.length : Int) := of_decide_eq_true ha
             obtain ⟨ad270, e270, hx270_0, hx270_1⟩ := at_T93 HR0_1.out x68_3 p270 q270
             cases e270
             replace hx270_0 := (HB.out.cell (World.block_lt_of_cell? w _ hx270_0)).trans hx270_0
             replace hx270_1 := (HB.out.cell (World.block_lt_of_cell? w _ hx270_1)).trans hx270_1
             replace p270 := eq_true p270
             replace q270 := eq_true q270
             go_wp2_with (first | ((with_reducible refine gate_dst (N := 7) rfl ?_); (try (refine gate_guard (by rfl) ?_; dsimp only)); refine box_event ?hg (N := 7) ?hd (cs := #[.string (⟨#[]⟩ : ByteArray), .int .i64 0]) (t := 93) ?hr ?_; (case hd => rfl); (case hg => rfl); (case hr => first | (go_simp; done) | (go_simp; rfl)); intro gb271 hg w59 hbox hb; have BK271 := Aside0.mk (hbox); have GW271 := Aside0.mk (gs (w := w) hg (bl HB.out)); have GE271 := Aside0.mk (gs (w := w) hg (bl HB.out)); replace HB := Aside0.mk (below_step (bl HB.out) hb); have NB259_271 := Aside0.mk ((gl (g := gb259) hg (pk BK259.out))); have NB271_259 := Aside0.mk ((gm (g := gb259) hg (pk BK259.out))); replace BK259 := Aside0.mk (blk_below (pk BK259.out) hb); clear hb hbox hg; have hnb60 := NB271_259.out; have hnc60 := NB259_271.out; obtain ⟨hcz61_0, hcz61_1, hfz61_0, hfz61_1⟩ := cz2 BK271.out))
             go_roundg k3
             case measure => have := HJ1.out; have := HK2.out; have := HK3.out; omega
             case rel => exact ⟨(false), (wrap64 (x68_3 + 1)), hsr, hsr, H', ⟨by have := HJ1.out; have := HK2.out; have := HK3.out; omega⟩, ⟨by refine pk ?_; refine blk_far ?_ NB259_271.out _; refine pk ?_; refine blk_far ?_ NB259_271.out _; exact pk BK259.out⟩, ⟨bl HB.out⟩⟩
           ·replace c54 := Bool.eq_false_iff.mpr c54
            subst c54
            have H1 : (payload_CheckSchema.l1 k3 false l0_1 (l0_1.length : Int) (wrap64 (x68_3 + 1))) = some r := by rw [if_neg (show ¬ (false = true) by decide)] at H; exact H
            clear H
            have H := H1
            clear H1
            have H' := Aside0.mk H
            clear H
            have p270 : 0 ≤ (x68_3 : Int) := of_decide_eq_true ha
            have q270 : x68_3 < (l0_1.length : Int) := of_decide_eq_true ha
            obtain ⟨ad270, e270, hx270_0, hx270_1⟩ := at_T93 HR0_1.out x68_3 p270 q270
            cases e270
            replace hx270_0 := (HB.out.cell (World.block_lt_of_cell? w _ hx270_0)).trans hx270_0
            replace hx270_1 := (HB.out.cell (World.block_lt_of_cell? w _ hx270_1)).trans hx270_1
            replace p270 := eq_true p270
            replace q270 := eq_true q270
            go_wp2_with (first | ((with_reducible refine gate_dst (N := 7) rfl ?_); (try (refine gate_guard (by rfl) ?_; dsimp only)); refine box_event ?hg (N := 7) ?hd (cs := #[.string (⟨#[]⟩ : ByteArray), .int .i64 0]) (t := 93) ?hr ?_; (case hd => rfl); (case hg => rfl); (case hr => first | (go_simp; done) | (go_simp; rfl)); intro gb271 hg w62 hbox hb; have BK271 := Aside0.mk (hbox); have GW271 := Aside0.mk (gs (w := w) hg (bl HB.out)); have GE271 := Aside0.mk (gs (w := w) hg (bl HB.out)); replace HB := Aside0.mk (below_step (bl HB.out) hb); have NB259_271 := Aside0.mk ((gl (g := gb259) hg (pk BK259.out))); have NB271_259 := Aside0.mk ((gm (g := gb259) hg (pk BK259.out))); replace BK259 := Aside0.mk (blk_below (pk BK259.out) hb); clear hb hbox hg; have hnb63 := NB271_259.out; have hnc63 := NB259_271.out; obtain ⟨hcz64_0, hcz64_1, hfz64_0, hfz64_1⟩ := cz2 BK271.out))
            go_roundg k3
            case measure => have := HJ1.out; have := HK2.out; have := HK3.out; omega
            case rel => exact ⟨(false), (wrap64 (x68_3 + 1)), hsr, hsr, H', ⟨by have := HJ1.out; have := HK2.out; have := HK3.out; omega⟩, ⟨by refine pk ?_; refine blk_far ?_ NB259_271.out _; refine pk ?_; refine blk_far ?_ NB259_271.out _; exact pk BK259.out⟩, ⟨bl HB.out⟩⟩
          ·rw [if_neg c53] at H
           exact absurd H (by simp)
         ·rw [if_neg c52] at H
          exact absurd H (by simp)
        ·rw [if_neg c51] at H
         have c51b0 : decide (x68_3 < (l0_1.length : Int)) = false := decide_eq_false c51
         clear c51
         by_cases c65 : x3_3 = true
         ·subst c65
          have H1 : (some 0) = some r := by rw [if_pos rfl] at H; exact H
          clear H
          have H := H1
          clear H1
          obtain rfl := Option.some.inj H
          go_wp2
          go_ret
          exact ⟨er0, bl HB.out⟩
         ·replace c65 := Bool.eq_false_iff.mpr c65
          subst c65
          have H1 : (some 50) = some r := by rw [if_neg (show ¬ (false = true) by decide)] at H; exact H
          clear H
          have H := H1
          clear H1
          obtain rfl := Option.some.inj H
          go_wp2
          go_ret
          exact ⟨er0, bl HB.out⟩

end Go.Proofs.YtbeljekpknpadaaDoor.PPayU
