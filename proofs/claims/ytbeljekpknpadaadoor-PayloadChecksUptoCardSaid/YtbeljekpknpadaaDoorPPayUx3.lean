-- Written by a program of this session on top of the print: some functions by hand.
import Derived.Test.YtbeljekpknpadaaDoorPPayUx0
import Derived.Test.YtbeljekpknpadaaDoorPPayUx1
namespace Go.Proofs.YtbeljekpknpadaaDoor.PPayU
open Go.RowKit Go.Proofs.YtbeljekpknpadaaDoorW.PrintWords Go.Proofs.YtbeljekpknpadaaDoorW.PrintLast Go.Proofs.YtbeljekpknpadaaDoorW.PrintMore
attribute [local go_sem] max2_int min2_int max_two min_two max_three min_three max_four min_four   -- for this text's walks alone
set_option linter.unusedVariables false
set_option linter.unusedSimpArgs false

attribute [local go_sem high] eqA61
/-! ### lodestarref05_Same: function 10 -/
mutual
def lodestarref05_Same.j0 : Nat → Bool → Int → List (S59) → List (S61) → Int → List (S59) → List (S61) → Option (Bool)
 | 0, _, _, _, _, _, _, _ => none
 | k + 1, x32, x102000, x102001, x102002, x103000, x103001, x103002 => if x32 = true then (some false) else (lodestarref05_Same.l0 k 0 x102000 x102001 x102002 x103000 x103001 x103002)
def lodestarref05_Same.l0 : Nat → Int → Int → List (S59) → List (S61) → Int → List (S59) → List (S61) → Option (Bool)
 | 0, _, _, _, _, _, _, _ => none
 | k + 1, x5, x102000, x102001, x102002, x103000, x103001, x103002 => if x5 < (x102001.length : Int) then (if 0 ≤ x5 then (if x5 < (x103001.length : Int) then (if ((rd_T59 x102001 x5).f0).toList = ((rd_T59 x103001 x5).f0).toList then (lodestarref05_Same.j2 k x5 ((((rd_T59 x102001 x5).f1).length : Int) != (((rd_T59 x103001 x5).f1).length : Int)) x102000 x102001 x102002 x103000 x103001 x103002 ((rd_T59 x102001 x5).f0) ((rd_T59 x102001 x5).f1) ((rd_T59 x103001 x5).f0) ((rd_T59 x103001 x5).f1)) else (lodestarref05_Same.j2 k x5 true x102000 x102001 x102002 x103000 x103001 x103002 ((rd_T59 x102001 x5).f0) ((rd_T59 x102001 x5).f1) ((rd_T59 x103001 x5).f0) ((rd_T59 x103001 x5).f1))) else (none)) else (none)) else (lodestarref05_Same.l2 k 0 x102000 x102001 x102002 x103000 x103001 x103002)
def lodestarref05_Same.j2 : Nat → Int → Bool → Int → List (S59) → List (S61) → Int → List (S59) → List (S61) → ByteArray → List Int → ByteArray → List Int → Option (Bool)
 | 0, _, _, _, _, _, _, _, _, _, _, _, _ => none
 | k + 1, x5, x63, x102000, x102001, x102002, x103000, x103001, x103002, x106000, x106001, x107000, x107001 => if x63 = true then (some false) else (lodestarref05_Same.l1 k x5 0 x102000 x102001 x102002 x103000 x103001 x103002 x106000 x106001 x107000 x107001)
def lodestarref05_Same.l1 : Nat → Int → Int → Int → List (S59) → List (S61) → Int → List (S59) → List (S61) → ByteArray → List Int → ByteArray → List Int → Option (Bool)
 | 0, _, _, _, _, _, _, _, _, _, _, _, _ => none
 | k + 1, x5, x8, x102000, x102001, x102002, x103000, x103001, x103002, x106000, x106001, x107000, x107001 => if x8 < (x106001.length : Int) then (if 0 ≤ x8 then (if x8 < (x107001.length : Int) then (if (rd x106001 x8) = (rd x107001 x8) then (lodestarref05_Same.l1 k x5 (wrap64 (x8 + 1)) x102000 x102001 x102002 x103000 x103001 x103002 x106000 x106001 x107000 x107001) else (some false)) else (none)) else (none)) else (lodestarref05_Same.l0 k (wrap64 (x5 + 1)) x102000 x102001 x102002 x103000 x103001 x103002)
def lodestarref05_Same.l2 : Nat → Int → Int → List (S59) → List (S61) → Int → List (S59) → List (S61) → Option (Bool)
 | 0, _, _, _, _, _, _, _ => none
 | k + 1, x9, x102000, x102001, x102002, x103000, x103001, x103002 => if x9 < (x102002.length : Int) then (if 0 ≤ x9 then (if x9 < (x103002.length : Int) then (if (!((((rd_T61 x102002 x9).f0).toList) == (((rd_T61 x103002 x9).f0).toList)) || ((!(((rd_T61 x102002 x9).f1.f0) == ((rd_T61 x103002 x9).f1.f0)) || (!(((rd_T61 x102002 x9).f1.f1) == ((rd_T61 x103002 x9).f1.f1)) || (!((((rd_T61 x102002 x9).f1.f2).toList) == (((rd_T61 x103002 x9).f1.f2).toList))))))) = true then (some false) else (lodestarref05_Same.l2 k (wrap64 (x9 + 1)) x102000 x102001 x102002 x103000 x103001 x103002)) else (none)) else (none)) else (some true)
end
def lodestarref05_Same.f (k : Nat) (a0_0 : Int) (l0_1 : List (S59)) (l0_2 : List (S61)) (a1_0 : Int) (l1_1 : List (S59)) (l1_2 : List (S61)) : Option (Bool) := if a0_0 = a1_0 then (if (l0_1.length : Int) = (l1_1.length : Int) then (lodestarref05_Same.j0 k ((l0_2.length : Int) != (l1_2.length : Int)) a0_0 l0_1 l0_2 a1_0 l1_1 l1_2) else (lodestarref05_Same.j0 k true a0_0 l0_1 l0_2 a1_0 l1_1 l1_2)) else (lodestarref05_Same.j0 k true a0_0 l0_1 l0_2 a1_0 l1_1 l1_2)
theorem lodestarref05_Same.mono_l : ∀ k, (∀ y0 y1 y2 y3 y4 y5 y6, LeO (lodestarref05_Same.j0 k y0 y1 y2 y3 y4 y5 y6) (lodestarref05_Same.j0 (k + 1) y0 y1 y2 y3 y4 y5 y6)) ∧ (∀ y0 y1 y2 y3 y4 y5 y6, LeO (lodestarref05_Same.l0 k y0 y1 y2 y3 y4 y5 y6) (lodestarref05_Same.l0 (k + 1) y0 y1 y2 y3 y4 y5 y6)) ∧ (∀ y0 y1 y2 y3 y4 y5 y6 y7 y8 y9 y10 y11, LeO (lodestarref05_Same.j2 k y0 y1 y2 y3 y4 y5 y6 y7 y8 y9 y10 y11) (lodestarref05_Same.j2 (k + 1) y0 y1 y2 y3 y4 y5 y6 y7 y8 y9 y10 y11)) ∧ (∀ y0 y1 y2 y3 y4 y5 y6 y7 y8 y9 y10 y11, LeO (lodestarref05_Same.l1 k y0 y1 y2 y3 y4 y5 y6 y7 y8 y9 y10 y11) (lodestarref05_Same.l1 (k + 1) y0 y1 y2 y3 y4 y5 y6 y7 y8 y9 y10 y11)) ∧ (∀ y0 y1 y2 y3 y4 y5 y6, LeO (lodestarref05_Same.l2 k y0 y1 y2 y3 y4 y5 y6) (lodestarref05_Same.l2 (k + 1) y0 y1 y2 y3 y4 y5 y6))
 | 0 => ⟨fun _ _ _ _ _ _ _ r h => by simp [lodestarref05_Same.j0] at h, fun _ _ _ _ _ _ _ r h => by simp [lodestarref05_Same.l0] at h, fun _ _ _ _ _ _ _ _ _ _ _ _ r h => by simp [lodestarref05_Same.j2] at h, fun _ _ _ _ _ _ _ _ _ _ _ _ r h => by simp [lodestarref05_Same.l1] at h, fun _ _ _ _ _ _ _ r h => by simp [lodestarref05_Same.l2] at h⟩
 | k + 1 => by
  obtain ⟨ih0, ih1, ih2, ih3, ih4⟩ := lodestarref05_Same.mono_l k
  refine ⟨?_, ?_, ?_, ?_, ?_⟩
  all_goals intros
  all_goals first | unfold lodestarref05_Same.j0 | unfold lodestarref05_Same.l0 | unfold lodestarref05_Same.j2 | unfold lodestarref05_Same.l1 | unfold lodestarref05_Same.l2
  all_goals repeat' first
   | (with_reducible exact ih0 _ _ _ _ _ _ _)
   | (with_reducible exact ih1 _ _ _ _ _ _ _)
   | (with_reducible exact ih2 _ _ _ _ _ _ _ _ _ _ _ _)
   | (with_reducible exact ih3 _ _ _ _ _ _ _ _ _ _ _ _)
   | (with_reducible exact ih4 _ _ _ _ _ _ _)
   | (with_reducible exact LeO.refl _)
   | (with_reducible exact LeO.none _)
   | (with_reducible refine LeO.ite ?_ ?_)
   | (with_reducible refine LeO.bind ?_ (fun _ => ?_))
   | exact ih0 _ _ _ _ _ _ _
   | exact ih1 _ _ _ _ _ _ _
   | exact ih2 _ _ _ _ _ _ _ _ _ _ _ _
   | exact ih3 _ _ _ _ _ _ _ _ _ _ _ _
   | exact ih4 _ _ _ _ _ _ _
   | exact LeO.none _
   | refine LeO.ite ?_ ?_
   | refine LeO.bind ?_ (fun _ => ?_)
theorem lodestarref05_Same.mono : ∀ a0 a1 a2 a3 a4 a5 k, LeO (lodestarref05_Same.f k a0 a1 a2 a3 a4 a5) (lodestarref05_Same.f (k + 1) a0 a1 a2 a3 a4 a5) := by
 intro a0 a1 a2 a3 a4 a5 k
 obtain ⟨ih0, ih1, ih2, ih3, ih4⟩ := lodestarref05_Same.mono_l k
 unfold lodestarref05_Same.f
 repeat' first
   | (with_reducible exact ih0 _ _ _ _ _ _ _)
   | (with_reducible exact ih1 _ _ _ _ _ _ _)
   | (with_reducible exact ih2 _ _ _ _ _ _ _ _ _ _ _ _)
   | (with_reducible exact ih3 _ _ _ _ _ _ _ _ _ _ _ _)
   | (with_reducible exact ih4 _ _ _ _ _ _ _)
   | (with_reducible exact LeO.refl _)
   | (with_reducible exact LeO.none _)
   | (with_reducible refine LeO.ite ?_ ?_)
   | (with_reducible refine LeO.bind ?_ (fun _ => ?_))
   | exact ih0 _ _ _ _ _ _ _
   | exact ih1 _ _ _ _ _ _ _
   | exact ih2 _ _ _ _ _ _ _ _ _ _ _ _
   | exact ih3 _ _ _ _ _ _ _ _ _ _ _ _
   | exact ih4 _ _ _ _ _ _ _
   | exact LeO.none _
   | refine LeO.ite ?_ ?_
   | refine LeO.bind ?_ (fun _ => ?_)
def lodestarref05_Same.T6 : Bool × List (List Nat × List Nat) := (true, [([], []), ([0], [0]), ([], []), ([1, 2], [1, 2]), ([3], [3]), ([], []), ([5], [5]), ([], []), ([6, 7], [6, 7]), ([8], [8]), ([], []), ([], []), ([10, 4, 0, 1, 2, 3, 4, 10, 11], [4, 10]), ([11, 9, 12, 0, 1, 2, 3, 4, 5, 6, 7, 8, 9, 10, 11, 12], [9, 11])])
def lodestarref05_Same.B6 : List Nat := [0, 1, 0, 7, 15, 0, 32, 0, 224, 480, 0, 0, 3103, 8191]
theorem lodestarref05_Same.tab6 : rtab .any (opsOf Tryd.f10 6) = lodestarref05_Same.T6 := by kernel_rfl
theorem lodestarref05_Same.bits6 : waitsOk lodestarref05_Same.T6.2 lodestarref05_Same.B6 = true := by kernel_rfl
def lodestarref05_Same.T12 : Bool × List (List Nat × List Nat) := (true, [([], []), ([0], [0]), ([], []), ([1, 2], [1, 2]), ([3], [3]), ([], []), ([5], [5]), ([], []), ([6, 7], [6, 7]), ([8], [8]), ([4, 9], [4, 9])])
def lodestarref05_Same.B12 : List Nat := [0, 1, 0, 7, 15, 0, 32, 0, 224, 480, 1023]
theorem lodestarref05_Same.tab12 : rtab .any (opsOf Tryd.f10 12) = lodestarref05_Same.T12 := by kernel_rfl
theorem lodestarref05_Same.bits12 : waitsOk lodestarref05_Same.T12.2 lodestarref05_Same.B12 = true := by kernel_rfl
def lodestarref05_Same.T17 : Bool × List (List Nat × List Nat) := (true, [([], []), ([0], [0]), ([], []), ([1, 2], [1, 2]), ([3], [3]), ([], []), ([5], [5]), ([], []), ([6, 7], [6, 7]), ([8], [8]), ([4, 9], [4, 9])])
def lodestarref05_Same.B17 : List Nat := [0, 1, 0, 7, 15, 0, 32, 0, 224, 480, 1023]
theorem lodestarref05_Same.tab17 : rtab .any (opsOf Tryd.f10 17) = lodestarref05_Same.T17 := by kernel_rfl
theorem lodestarref05_Same.bits17 : waitsOk lodestarref05_Same.T17.2 lodestarref05_Same.B17 = true := by kernel_rfl
set_option maxHeartbeats 8000000 in
set_option maxRecDepth 100000 in
theorem lodestarref05_Same.calls (k : Nat) (a0_0 : Int) (A0_1 : Option Addr) (c0_1 : Nat) (l0_1 : List (S59)) (A0_2 : Option Addr) (c0_2 : Nat) (l0_2 : List (S61)) (a1_0 : Int) (A1_1 : Option Addr) (c1_1 : Nat) (l1_1 : List (S59)) (A1_2 : Option Addr) (c1_2 : Nat) (l1_2 : List (S61)) (r : Bool) (w : World) (hr0_1 : Kd.C k59 w A0_1 l0_1.length l0_1) (hc0_1 : l0_1.length ≤ c0_1) (hr0_2 : Kd.C k61 w A0_2 l0_2.length l0_2) (hc0_2 : l0_2.length ≤ c0_2) (hr1_1 : Kd.C k59 w A1_1 l1_1.length l1_1) (hc1_1 : l1_1.length ≤ c1_1) (hr1_2 : Kd.C k61 w A1_2 l1_2.length l1_2) (hc1_2 : l1_2.length ≤ c1_2) (h : lodestarref05_Same.f k a0_0 l0_1 l0_2 a1_0 l1_1 l1_2 = some r) :
  Calls Tryd.prog 10 #[.agg #[.int .i64 a0_0, .slice A0_1 l0_1.length c0_1, .slice A0_2 l0_2.length c0_2], .agg #[.int .i64 a1_0, .slice A1_1 l1_1.length c1_1, .slice A1_2 l1_2.length c1_2]] w fun e w' => e = .returned (.bool r) ∧ Below w.heap.size w w' := by
 have hu25 := Tryd.underlying25
 have hu59 := Tryd.underlying59
 have hu61 := Tryd.underlying61
 have HR0_1 := Aside0.mk hr0_1
 have HC0_1 := Aside0.mk hc0_1
 clear hr0_1 hc0_1
 have HR0_2 := Aside0.mk hr0_2
 have HC0_2 := Aside0.mk hc0_2
 clear hr0_2 hc0_2
 have HR1_1 := Aside0.mk hr1_1
 have HC1_1 := Aside0.mk hc1_1
 clear hr1_1 hc1_1
 have HR1_2 := Aside0.mk hr1_2
 have HC1_2 := Aside0.mk hc1_2
 clear hr1_2 hc1_2
 have HB := Aside0.mk (Below.refl w.heap.size w)
 have H : (if a0_0 = a1_0 then (if (l0_1.length : Int) = (l1_1.length : Int) then (lodestarref05_Same.j0 k ((l0_2.length : Int) != (l1_2.length : Int)) a0_0 l0_1 l0_2 a1_0 l1_1 l1_2) else (lodestarref05_Same.j0 k true a0_0 l0_1 l0_2 a1_0 l1_1 l1_2)) else (lodestarref05_Same.j0 k true a0_0 l0_1 l0_2 a1_0 l1_1 l1_2)) = some r := h
 clear h
 have HC3 := Aside0.mk H
 clear H
 go_enter Tryd.func10, Tryd.ntmps10
 go_upto_region 1 with (first | ((with_reducible refine gate_dst (N := 2) rfl ?_); (try (refine gate_guard (by rfl) ?_; dsimp only)); refine box_event ?hg (N := 2) ?hd (cs := #[.int .i64 a0_0, .slice A0_1 l0_1.length c0_1, .slice A0_2 l0_2.length c0_2]) (t := 25) ?hr ?_; (case hd => rfl); (case hg => rfl); (case hr => first | (go_simp; done) | (go_simp; rfl)); intro gb101 hg w4 hbox hb; have BK101 := Aside0.mk (hbox); have GW101 := Aside0.mk (gs (w := w) hg (bl HB.out)); have GE101 := Aside0.mk (gs (w := w) hg (bl HB.out)); replace HB := Aside0.mk (below_step (bl HB.out) hb); clear hb hbox hg) | ((with_reducible refine gate_dst (N := 3) rfl ?_); (try (refine gate_guard (by rfl) ?_; dsimp only)); refine box_event ?hg (N := 3) ?hd (cs := #[.int .i64 a1_0, .slice A1_1 l1_1.length c1_1, .slice A1_2 l1_2.length c1_2]) (t := 25) ?hr ?_; (case hd => rfl); (case hg => rfl); (case hr => first | (go_simp; done) | (go_simp; rfl)); intro gb102 hg w5 hbox hb; have BK102 := Aside0.mk (hbox); have GW102 := Aside0.mk (gs (w := w) hg (bl HB.out)); have GE102 := Aside0.mk (gs (w := w) hg (bl HB.out)); replace HB := Aside0.mk (below_step (bl HB.out) hb); have NB101_102 := Aside0.mk ((gl (g := gb101) hg (pk BK101.out))); have NB102_101 := Aside0.mk ((gm (g := gb101) hg (pk BK101.out))); replace BK101 := Aside0.mk (blk_below (pk BK101.out) hb); clear hb hbox hg))
 (try simp only [Act.put, List.setIfInBounds_toArray, List.set_cons_zero, List.set_cons_succ])
 go_cut [32] (fun v32 wc => ∃ (kq : Nat) (x32_2 : Bool), v32 = .bool x32_2 ∧ Aside0 (lodestarref05_Same.j0 kq x32_2 a0_0 l0_1 l0_2 a1_0 l1_1 l1_2 = some r) ∧ Aside0 (kq ≤ k) ∧ Aside0 (wc.heap[gb101]? = some (.cells #[.int .i64 a0_0, (.slice A0_1 l0_1.length c0_1), (.slice A0_2 l0_2.length c0_2)] 25 (0, 0))) ∧ Aside0 (wc.heap[gb102]? = some (.cells #[.int .i64 a1_0, (.slice A1_1 l1_1.length c1_1), (.slice A1_2 l1_2.length c1_2)] 25 (0, 0))) ∧ Aside0 (Below w.heap.size w wc))
 case first =>
  have H := HC3.out
  clear HC3
  by_cases c6 : a0_0 = a1_0
  ·rw [if_pos c6] at H
   have c6b0 : (a0_0 == a1_0) = true := beq_iff_eq.mpr c6
   have c6b1 : (a0_0 != a1_0) = false := bne_eq_false_iff_eq.mpr c6
   clear c6
   (first | rw [c6b0] | (simp only [i64_w, i32_w]; rw [c6b0]) | skip)
   by_cases c7 : (l0_1.length : Int) = (l1_1.length : Int)
   ·rw [if_pos c7] at H
    have c7b0 : ((l0_1.length : Int) == (l1_1.length : Int)) = true := beq_iff_eq.mpr c7
    have c7b1 : ((l0_1.length : Int) != (l1_1.length : Int)) = false := bne_eq_false_iff_eq.mpr c7
    have c7b2 : (l0_1.length == l1_1.length) = true := by first | simpa using c7 | (simp at c7 ⊢; omega)
    clear c7
    have H' := Aside0.mk H
    clear H
    have hnb8 := NB101_102.out
    have hnc8 := NB102_101.out
    obtain ⟨hcz9_0, hcz9_1, hcz9_2, hfz9_0, hfz9_1, hfz9_2⟩ := cz3 BK101.out
    obtain ⟨hcz10_0, hcz10_1, hcz10_2, hfz10_0, hfz10_1, hfz10_2⟩ := cz3 BK102.out
    go_wp2
    go_meet
    case rel => exact ⟨_, (((l0_2.length : Int) != (l1_2.length : Int))), hsr, H', ⟨by first | omega | exact Nat.le_refl _⟩, ⟨pk BK101.out⟩, ⟨pk BK102.out⟩, ⟨bl HB.out⟩⟩
   ·rw [if_neg c7] at H
    have c7b0 : ((l0_1.length : Int) == (l1_1.length : Int)) = false := beq_eq_false_iff_ne.mpr c7
    have c7b1 : ((l0_1.length : Int) != (l1_1.length : Int)) = true := bne_iff_ne.mpr c7
    have c7b2 : (l0_1.length == l1_1.length) = false := by first | simpa using c7 | (simp at c7 ⊢; omega)
    have H' := Aside0.mk H
    clear H
    have hnb11 := NB101_102.out
    have hnc11 := NB102_101.out
    obtain ⟨hcz12_0, hcz12_1, hcz12_2, hfz12_0, hfz12_1, hfz12_2⟩ := cz3 BK101.out
    obtain ⟨hcz13_0, hcz13_1, hcz13_2, hfz13_0, hfz13_1, hfz13_2⟩ := cz3 BK102.out
    go_wp2
    go_meet
    case rel => exact ⟨_, (true), hsr, H', ⟨by first | omega | exact Nat.le_refl _⟩, ⟨pk BK101.out⟩, ⟨pk BK102.out⟩, ⟨bl HB.out⟩⟩
  ·rw [if_neg c6] at H
   have c6b0 : (a0_0 == a1_0) = false := beq_eq_false_iff_ne.mpr c6
   have c6b1 : (a0_0 != a1_0) = true := bne_iff_ne.mpr c6
   (first | rw [c6b0] | (simp only [i64_w, i32_w]; rw [c6b0]) | skip)
   have H' := Aside0.mk H
   clear H
   have hnb14 := NB101_102.out
   have hnc14 := NB102_101.out
   obtain ⟨hcz15_0, hcz15_1, hcz15_2, hfz15_0, hfz15_1, hfz15_2⟩ := cz3 BK101.out
   obtain ⟨hcz16_0, hcz16_1, hcz16_2, hfz16_0, hfz16_1, hfz16_2⟩ := cz3 BK102.out
   go_wp2
   go_meet
   case rel => exact ⟨_, (true), hsr, H', ⟨by first | omega | exact Nat.le_refl _⟩, ⟨pk BK101.out⟩, ⟨pk BK102.out⟩, ⟨bl HB.out⟩⟩
 case rest =>
  clear HC3
  try clear c1
  try clear p2
  try clear c6
  try clear c6b0
  try clear c6b1
  try clear c7
  try clear c7b0
  try clear c7b1
  try clear c7b2
  try clear c8
  try clear c10
  try clear c11
  try clear c14
  try clear hcz16_0 hcz16_1 hcz16_2 hfz16_0 hfz16_1 hfz16_2
  try clear hcz15_0 hcz15_1 hcz15_2 hfz15_0 hfz15_1 hfz15_2
  try clear hcz13_0 hcz13_1 hcz13_2 hfz13_0 hfz13_1 hfz13_2
  try clear hcz12_0 hcz12_1 hcz12_2 hfz12_0 hfz12_1 hfz12_2
  try clear hcz10_0 hcz10_1 hcz10_2 hfz10_0 hfz10_1 hfz10_2
  try clear hcz9_0 hcz9_1 hcz9_2 hfz9_0 hfz9_1 hfz9_2
  obtain ⟨kq, x32_2, rfl, HA, HJ2, BK101, BK102, HB⟩ := hcut
  cases kq with
  | zero => exact absurd HA.out (by simp [lodestarref05_Same.j0])
  | succ kj2 =>
   have H := HA.out
   clear HA
   simp only [lodestarref05_Same.j0] at H
   by_cases c17 : x32_2 = true
   ·subst c17
    have H1 : (some false) = some r := by rw [if_pos rfl] at H; exact H
    clear H
    have H := H1
    clear H1
    obtain rfl := Option.some.inj H
    go_wp2
    go_ret
    exact ⟨er0, bl HB.out⟩
   ·replace c17 := Bool.eq_false_iff.mpr c17
    subst c17
    have H1 : (lodestarref05_Same.l0 kj2 0 a0_0 l0_1 l0_2 a1_0 l1_1 l1_2) = some r := by rw [if_neg (show ¬ (false = true) by decide)] at H; exact H
    clear H
    have H := H1
    clear H1
    have H' := Aside0.mk H
    clear H
    go_wp2
    go_loopg [5] kj2 (fun kq v5 w' => ∃ (x5_2 : Int), v5 = .int .i64 x5_2 ∧ Aside0 (lodestarref05_Same.l0 kq x5_2 a0_0 l0_1 l0_2 a1_0 l1_1 l1_2 = some r) ∧ Aside0 (kq ≤ kj2) ∧ Aside0 (w'.heap[gb101]? = some (.cells #[.int .i64 a0_0, (.slice A0_1 l0_1.length c0_1), (.slice A0_2 l0_2.length c0_2)] 25 (0, 0))) ∧ Aside0 (w'.heap[gb102]? = some (.cells #[.int .i64 a1_0, (.slice A1_1 l1_1.length c1_1), (.slice A1_2 l1_2.length c1_2)] 25 (0, 0))) ∧ Aside0 (Below w.heap.size w w'))
    case atStart => exact ⟨(0), hsr, H', ⟨Nat.le_refl _⟩, ⟨pk BK101.out⟩, ⟨pk BK102.out⟩, ⟨bl HB.out⟩⟩
    case round =>
     clear H'
     try clear c1
     try clear p2
     try clear c6
     try clear c6b0
     try clear c6b1
     try clear c7
     try clear c7b0
     try clear c7b1
     try clear c7b2
     try clear c8
     try clear c10
     try clear c11
     try clear c14
     try clear c17
     try clear hcz16_0 hcz16_1 hcz16_2 hfz16_0 hfz16_1 hfz16_2
     try clear hcz15_0 hcz15_1 hcz15_2 hfz15_0 hfz15_1 hfz15_2
     try clear hcz13_0 hcz13_1 hcz13_2 hfz13_0 hfz13_1 hfz13_2
     try clear hcz12_0 hcz12_1 hcz12_2 hfz12_0 hfz12_1 hfz12_2
     try clear hcz10_0 hcz10_1 hcz10_2 hfz10_0 hfz10_1 hfz10_2
     try clear hcz9_0 hcz9_1 hcz9_2 hfz9_0 hfz9_1 hfz9_2
     try clear p2
     obtain ⟨x5_2, rfl, HA, HK2, BK101, BK102, HB⟩ := hrel
     cases gk with
     | zero => exact absurd HA.out (by simp [lodestarref05_Same.l0])
     | succ k2 =>
      have H := HA.out
      clear HA
      simp only [lodestarref05_Same.l0] at H
      by_cases c18 : x5_2 < (l0_1.length : Int)
      ·rw [if_pos c18] at H
       have c18b0 : decide (x5_2 < (l0_1.length : Int)) = true := decide_eq_true c18
       clear c18
       by_cases c19 : 0 ≤ x5_2
       ·rw [if_pos c19] at H
        have c19b0 : decide (0 ≤ x5_2) = true := decide_eq_true c19
        clear c19
        by_cases c20 : x5_2 < (l1_1.length : Int)
        ·rw [if_pos c20] at H
         have c20b0 : decide (x5_2 < (l1_1.length : Int)) = true := decide_eq_true c20
         clear c20
         have HC21 := Aside0.mk H
         clear H
         have hnb22 := NB101_102.out
         have hnc22 := NB102_101.out
         obtain ⟨hcz23_0, hcz23_1, hcz23_2, hfz23_0, hfz23_1, hfz23_2⟩ := cz3 BK101.out
         try go_wp2
         replace BK101 := Aside0.mk (blk_drew BK101.out)
         replace BK102 := Aside0.mk (blk_drew BK102.out)
         replace HB := Aside0.mk (below_drew1 HB.out)
         have p103 : 0 ≤ (x5_2 : Int) := of_decide_eq_true ha
         have q103 : x5_2 < (l0_1.length : Int) := of_decide_eq_true ha
         obtain ⟨ad103, A103_1, c103_1, e103, hx103_0, hx103_1, hl103_1, hi103_1⟩ := at_T59 HR0_1.out x5_2 p103 q103
         have hw103_1 := hx103_1
         have hw103_0 := hx103_0
         cases e103
         replace hx103_0 := (HB.out.cell (World.block_lt_of_cell? w _ hx103_0)).trans hx103_0
         replace hx103_1 := (HB.out.cell (World.block_lt_of_cell? w _ hx103_1)).trans hx103_1
         have HR103_1 := Aside0.mk hi103_1
         have HC103_1 := Aside0.mk hl103_1
         clear hi103_1 hl103_1
         replace p103 := eq_true p103
         replace q103 := eq_true q103
         have p104 : 0 ≤ (x5_2 : Int) := of_decide_eq_true ha
         have q104 : x5_2 < (l1_1.length : Int) := of_decide_eq_true ha
         obtain ⟨ad104, A104_1, c104_1, e104, hx104_0, hx104_1, hl104_1, hi104_1⟩ := at_T59 HR1_1.out x5_2 p104 q104
         have hw104_1 := hx104_1
         have hw104_0 := hx104_0
         cases e104
         replace hx104_0 := (HB.out.cell (World.block_lt_of_cell? w _ hx104_0)).trans hx104_0
         replace hx104_1 := (HB.out.cell (World.block_lt_of_cell? w _ hx104_1)).trans hx104_1
         have HR104_1 := Aside0.mk hi104_1
         have HC104_1 := Aside0.mk hl104_1
         clear hi104_1 hl104_1
         replace p104 := eq_true p104
         replace q104 := eq_true q104
         refine start_ (n := 14) (S := fun w' => w'.cell? ⟨gb101, 0, none⟩ = some (.int .i64 a0_0) ∧ w'.cell? ⟨gb101, 1, none⟩ = some (.slice (some ad103) l0_1.length c0_1) ∧ w'.cell? ⟨gb101, 2, none⟩ = some (.slice A0_2 l0_2.length c0_2) ∧ w'.cell? ⟨gb102, 0, none⟩ = some (.int .i64 a1_0) ∧ w'.cell? ⟨gb102, 1, none⟩ = some (.slice (some ad104) l1_1.length c1_1) ∧ w'.cell? ⟨gb102, 2, none⟩ = some (.slice A1_2 l1_2.length c1_2) ∧ w'.cell? (ad103.add ((x5_2).toNat * 2)) = some (.string ((rd_T59 l0_1 x5_2).f0)) ∧ w'.cell? ⟨(ad103.add ((x5_2).toNat * 2)).block, (ad103.add ((x5_2).toNat * 2)).off + 1, none⟩ = some (.slice A103_1 ((rd_T59 l0_1 x5_2).f1).length c103_1) ∧ w'.cell? (ad104.add ((x5_2).toNat * 2)) = some (.string ((rd_T59 l1_1 x5_2).f0)) ∧ w'.cell? ⟨(ad104.add ((x5_2).toNat * 2)).block, (ad104.add ((x5_2).toNat * 2)).off + 1, none⟩ = some (.slice A104_1 ((rd_T59 l1_1 x5_2).f1).length c104_1)) (ds := []) #[false, false, false, false, false, false, false, false, false, false, false, false, false, false] kr rfl rfl ⟨(blk_cell BK101.out 0).trans rfl, (blk_cell BK101.out 1).trans rfl, (blk_cell BK101.out 2).trans rfl, (blk_cell BK102.out 0).trans rfl, (blk_cell BK102.out 1).trans rfl, (blk_cell BK102.out 2).trans rfl, ((HB.out.cell (World.block_lt_of_cell? w _ hw103_0)).trans hw103_0), ((HB.out.cell (World.block_lt_of_cell? w _ hw103_1)).trans hw103_1), ((HB.out.cell (World.block_lt_of_cell? w _ hw104_0)).trans hw104_0), ((HB.out.cell (World.block_lt_of_cell? w _ hw104_1)).trans hw104_1)⟩ (fun hHeld => ?_); refine with_tabW lodestarref05_Same.tab6 lodestarref05_Same.bits6 (fun HT_ HW_ => ?_)
         generalize wr.drew = w24 at BK101 BK102 HB HR103_1 HR104_1 hx103_0 hx103_1 hx104_0 hx104_1 hHeld ⊢
         refine pure_ (i := 0) (N := some 40) (v := ?_) (a' := ?_) #[true, false, false, false, false, false, false, false, false, false, false, false, false, false] rfl rfl (any_of HT_.out kr) (fun _ _ _ h => h) (Or.inl ⟨by rfl, ?_⟩) ?_ ?_
         rotate_left
         ·exact wl
         rotate_left
         ·exact ap
         refine pure_ (i := 2) (N := some 42) (v := ?_) (a' := ?_) #[true, false, true, false, false, false, false, false, false, false, false, false, false, false] rfl rfl (any_of HT_.out kr) (fun _ _ _ h => h) (Or.inl ⟨by rfl, ?_⟩) ?_ ?_
         rotate_left
         ·exact wl
         rotate_left
         ·exact ap
         refine pure_ (i := 5) (N := some 45) (v := ?_) (a' := ?_) #[true, false, true, false, false, true, false, false, false, false, false, false, false, false] rfl rfl (any_of HT_.out kr) (fun _ _ _ h => h) (Or.inl ⟨by rfl, ?_⟩) ?_ ?_
         rotate_left
         ·exact wl
         rotate_left
         ·exact ap
         refine pure_ (i := 7) (N := some 47) (v := ?_) (a' := ?_) #[true, false, true, false, false, true, false, true, false, false, false, false, false, false] rfl rfl (any_of HT_.out kr) (fun _ _ _ h => h) (Or.inl ⟨by rfl, ?_⟩) ?_ ?_
         rotate_left
         ·exact wl
         rotate_left
         ·exact ap
         refine take_ (i := 1) (N := some 41) (v := ?_) (a' := ?_) #[true, true, true, false, false, true, false, true, false, false, false, false, false, false] rfl rfl (take_ofW HT_.out HW_.out kr) (fun _ _ _ h => h) (Or.inl ⟨by rfl, ?_⟩) hHeld ?_ ?_
         rotate_left
         ·rintro w' ⟨s0, s1, s2, s3, s4, s5, s6, s7, s8, s9⟩
          go_simp
          exact rl
         rotate_left
         ·exact ap
         refine pure_ (i := 3) (N := some 43) (v := ?_) (a' := ?_) #[true, true, true, true, false, true, false, true, false, false, false, false, false, false] rfl rfl (any_of HT_.out kr) (fun _ _ _ h => h) (Or.inl ⟨by rfl, ?_⟩) ?_ ?_
         rotate_left
         ·exact wl
         rotate_left
         ·exact ap
         refine take_ (i := 4) (N := some 44) (v := ?_) (a' := ?_) #[true, true, true, true, true, true, false, true, false, false, false, false, false, false] rfl rfl (take_ofW HT_.out HW_.out kr) (fun _ _ _ h => h) (Or.inl ⟨by rfl, ?_⟩) hHeld ?_ ?_
         rotate_left
         ·rintro w' ⟨s0, s1, s2, s3, s4, s5, s6, s7, s8, s9⟩
          go_simp
          exact rl
         rotate_left
         ·exact ap
         refine take_ (i := 6) (N := some 46) (v := ?_) (a' := ?_) #[true, true, true, true, true, true, true, true, false, false, false, false, false, false] rfl rfl (take_ofW HT_.out HW_.out kr) (fun _ _ _ h => h) (Or.inl ⟨by rfl, ?_⟩) hHeld ?_ ?_
         rotate_left
         ·rintro w' ⟨s0, s1, s2, s3, s4, s5, s6, s7, s8, s9⟩
          go_simp
          exact rl
         rotate_left
         ·exact ap
         refine pure_ (i := 8) (N := some 48) (v := ?_) (a' := ?_) #[true, true, true, true, true, true, true, true, true, false, false, false, false, false] rfl rfl (any_of HT_.out kr) (fun _ _ _ h => h) (Or.inl ⟨by rfl, ?_⟩) ?_ ?_
         rotate_left
         ·exact wl
         rotate_left
         ·exact ap
         refine take_ (i := 9) (N := some 49) (v := ?_) (a' := ?_) #[true, true, true, true, true, true, true, true, true, true, false, false, false, false] rfl rfl (take_ofW HT_.out HW_.out kr) (fun _ _ _ h => h) (Or.inl ⟨by rfl, ?_⟩) hHeld ?_ ?_
         rotate_left
         ·rintro w' ⟨s0, s1, s2, s3, s4, s5, s6, s7, s8, s9⟩
          go_simp
          exact rl
         rotate_left
         ·exact ap
         refine join_ (σ := Nat × Nat) 2 #[true, true, true, true, true, true, true, true, true, true, true, true, false, false] (fun s_ => [(6, .pointer (some ⟨s_.1, 0, none⟩)), (7, .pointer (some ⟨s_.2, 0, none⟩))]) (fun s_ w' => (w'.cell? ⟨gb101, 0, none⟩ = some (.int .i64 a0_0) ∧ w'.cell? ⟨gb101, 1, none⟩ = some (.slice (some ad103) l0_1.length c0_1) ∧ w'.cell? ⟨gb101, 2, none⟩ = some (.slice A0_2 l0_2.length c0_2) ∧ w'.cell? ⟨gb102, 0, none⟩ = some (.int .i64 a1_0) ∧ w'.cell? ⟨gb102, 1, none⟩ = some (.slice (some ad104) l1_1.length c1_1) ∧ w'.cell? ⟨gb102, 2, none⟩ = some (.slice A1_2 l1_2.length c1_2) ∧ w'.cell? (ad103.add ((x5_2).toNat * 2)) = some (.string ((rd_T59 l0_1 x5_2).f0)) ∧ w'.cell? ⟨(ad103.add ((x5_2).toNat * 2)).block, (ad103.add ((x5_2).toNat * 2)).off + 1, none⟩ = some (.slice A103_1 ((rd_T59 l0_1 x5_2).f1).length c103_1) ∧ w'.cell? (ad104.add ((x5_2).toNat * 2)) = some (.string ((rd_T59 l1_1 x5_2).f0)) ∧ w'.cell? ⟨(ad104.add ((x5_2).toNat * 2)).block, (ad104.add ((x5_2).toNat * 2)).off + 1, none⟩ = some (.slice A104_1 ((rd_T59 l1_1 x5_2).f1).length c104_1)) ∧ (w'.heap[gb101]? = some (.cells #[.int .i64 a0_0, .slice (some ad103) l0_1.length c0_1, .slice A0_2 l0_2.length c0_2] 25 (0, 0))) ∧ (w'.heap[gb102]? = some (.cells #[.int .i64 a1_0, .slice (some ad104) l1_1.length c1_1, .slice A1_2 l1_2.length c1_2] 25 (0, 0))) ∧ (w'.heap[s_.1]? = some (.cells #[.string (⟨#[]⟩ : ByteArray), .slice none 0 0] 59 (0, 0))) ∧ (w'.heap[s_.2]? = some (.cells #[.string (⟨#[]⟩ : ByteArray), .slice none 0 0] 59 (0, 0))) ∧ (w.heap.size ≤ s_.1) ∧ (w.heap.size ≤ s_.1) ∧ (gb101 ≠ s_.1) ∧ (s_.1 ≠ gb101) ∧ (gb102 ≠ s_.1) ∧ (s_.1 ≠ gb102) ∧ (s_.2 ≠ s_.1) ∧ (s_.1 ≠ s_.2) ∧ (w.heap.size ≤ s_.2) ∧ (w.heap.size ≤ s_.2) ∧ (gb101 ≠ s_.2) ∧ (s_.2 ≠ gb101) ∧ (gb102 ≠ s_.2) ∧ (s_.2 ≠ gb102) ∧ (Below w.heap.size w w')) ?_ ?_
         rotate_left
         ·intro hCont
          refine two_ (i := 10) (j := 11) (Ni := some 6) (Nj := some 7) #[true, true, true, true, true, true, true, true, true, true, true, false, false, false] #[true, true, true, true, true, true, true, true, true, true, false, true, false, false] rfl rfl rfl rfl (two_of HT_.out kr) (by decide) (by decide) (fun K hK => ?_) (fun K hK => ?_)
          ·skip
           refine box_step ?hg (N := 6) ?hd (cs := #[.string (⟨#[]⟩ : ByteArray), .slice none 0 0]) (t := 59) ?hr ?_; (case hd => rfl); (case hg => rfl); (case hr => first | (go_simp; done) | (go_simp; rfl))
           intro gb105 hg w25 hbox hb
           have BK105 := Aside0.mk (hbox)
           have GW105 := Aside0.mk (gs (w := w) hg (bl HB.out))
           have GE105 := Aside0.mk (gs (w := w) hg (bl HB.out))
           replace HB := Aside0.mk (below_step (bl HB.out) hb)
           have NB101_105 := Aside0.mk ((gl (g := gb101) hg (pk BK101.out)))
           have NB105_101 := Aside0.mk ((gm (g := gb101) hg (pk BK101.out)))
           replace BK101 := Aside0.mk (blk_below (pk BK101.out) hb)
           have NB102_105 := Aside0.mk ((gl (g := gb102) hg (pk BK102.out)))
           have NB105_102 := Aside0.mk ((gm (g := gb102) hg (pk BK102.out)))
           replace BK102 := Aside0.mk (blk_below (pk BK102.out) hb)
           clear hb hbox hg
           refine hK.out _ _ ⟨(blk_cell BK101.out 0).trans rfl, (blk_cell BK101.out 1).trans rfl, (blk_cell BK101.out 2).trans rfl, (blk_cell BK102.out 0).trans rfl, (blk_cell BK102.out 1).trans rfl, (blk_cell BK102.out 2).trans rfl, ((HB.out.cell (World.block_lt_of_cell? w _ hw103_0)).trans hw103_0), ((HB.out.cell (World.block_lt_of_cell? w _ hw103_1)).trans hw103_1), ((HB.out.cell (World.block_lt_of_cell? w _ hw104_0)).trans hw104_0), ((HB.out.cell (World.block_lt_of_cell? w _ hw104_1)).trans hw104_1)⟩ (fun hHeld => ?_)
           clear hK K
           refine norm_ (a' := ?_) ?_ ?_
           rotate_left
           ·show Act.put _ (some 6) _ = _
            exact ap
           refine one_ (i := 11) (N := some 7) #[true, true, true, true, true, true, true, true, true, true, true, true, false, false] rfl rfl (one_of HT_.out kr) (by decide) (fun K hK => ?_)
           refine box_step ?hg (N := 7) ?hd (cs := #[.string (⟨#[]⟩ : ByteArray), .slice none 0 0]) (t := 59) ?hr ?_; (case hd => rfl); (case hg => rfl); (case hr => first | (go_simp; done) | (go_simp; rfl))
           intro gb106 hg w26 hbox hb
           have BK106 := Aside0.mk (hbox)
           have GW106 := Aside0.mk (gs (w := w) hg (bl HB.out))
           have GE106 := Aside0.mk (gs (w := w) hg (bl HB.out))
           replace HB := Aside0.mk (below_step (bl HB.out) hb)
           have NB101_106 := Aside0.mk ((gl (g := gb101) hg (pk BK101.out)))
           have NB106_101 := Aside0.mk ((gm (g := gb101) hg (pk BK101.out)))
           replace BK101 := Aside0.mk (blk_below (pk BK101.out) hb)
           have NB102_106 := Aside0.mk ((gl (g := gb102) hg (pk BK102.out)))
           have NB106_102 := Aside0.mk ((gm (g := gb102) hg (pk BK102.out)))
           replace BK102 := Aside0.mk (blk_below (pk BK102.out) hb)
           have NB105_106 := Aside0.mk ((gl (g := gb105) hg (pk BK105.out)))
           have NB106_105 := Aside0.mk ((gm (g := gb105) hg (pk BK105.out)))
           replace BK105 := Aside0.mk (blk_below (pk BK105.out) hb)
           clear hb hbox hg
           refine hK.out _ _ ⟨(blk_cell BK101.out 0).trans rfl, (blk_cell BK101.out 1).trans rfl, (blk_cell BK101.out 2).trans rfl, (blk_cell BK102.out 0).trans rfl, (blk_cell BK102.out 1).trans rfl, (blk_cell BK102.out 2).trans rfl, ((HB.out.cell (World.block_lt_of_cell? w _ hw103_0)).trans hw103_0), ((HB.out.cell (World.block_lt_of_cell? w _ hw103_1)).trans hw103_1), ((HB.out.cell (World.block_lt_of_cell? w _ hw104_0)).trans hw104_0), ((HB.out.cell (World.block_lt_of_cell? w _ hw104_1)).trans hw104_1)⟩ (fun hHeld => ?_)
           clear hK K
           refine norm_ (a' := ?_) ?_ ?_
           rotate_left
           ·show Act.put _ (some 7) _ = _
            exact ap
           exact norm_ (by simp only [putAll, Act.put, List.setIfInBounds_toArray, List.set_cons_zero, List.set_cons_succ]) (hCont (gb105, gb106) _ ⟨hHeld, (pk BK101.out), (pk BK102.out), (pk BK105.out), (pk BK106.out), GW105.out, GE105.out, NB101_105.out, NB105_101.out, NB102_105.out, NB105_102.out, NB106_105.out, NB105_106.out, GW106.out, GE106.out, NB101_106.out, NB106_101.out, NB102_106.out, NB106_102.out, (bl HB.out)⟩)
          ·skip
           refine box_step ?hg (N := 7) ?hd (cs := #[.string (⟨#[]⟩ : ByteArray), .slice none 0 0]) (t := 59) ?hr ?_; (case hd => rfl); (case hg => rfl); (case hr => first | (go_simp; done) | (go_simp; rfl))
           intro gb106 hg w25 hbox hb
           have BK106 := Aside0.mk (hbox)
           have GW106 := Aside0.mk (gs (w := w) hg (bl HB.out))
           have GE106 := Aside0.mk (gs (w := w) hg (bl HB.out))
           replace HB := Aside0.mk (below_step (bl HB.out) hb)
           have NB101_106 := Aside0.mk ((gl (g := gb101) hg (pk BK101.out)))
           have NB106_101 := Aside0.mk ((gm (g := gb101) hg (pk BK101.out)))
           replace BK101 := Aside0.mk (blk_below (pk BK101.out) hb)
           have NB102_106 := Aside0.mk ((gl (g := gb102) hg (pk BK102.out)))
           have NB106_102 := Aside0.mk ((gm (g := gb102) hg (pk BK102.out)))
           replace BK102 := Aside0.mk (blk_below (pk BK102.out) hb)
           clear hb hbox hg
           refine hK.out _ _ ⟨(blk_cell BK101.out 0).trans rfl, (blk_cell BK101.out 1).trans rfl, (blk_cell BK101.out 2).trans rfl, (blk_cell BK102.out 0).trans rfl, (blk_cell BK102.out 1).trans rfl, (blk_cell BK102.out 2).trans rfl, ((HB.out.cell (World.block_lt_of_cell? w _ hw103_0)).trans hw103_0), ((HB.out.cell (World.block_lt_of_cell? w _ hw103_1)).trans hw103_1), ((HB.out.cell (World.block_lt_of_cell? w _ hw104_0)).trans hw104_0), ((HB.out.cell (World.block_lt_of_cell? w _ hw104_1)).trans hw104_1)⟩ (fun hHeld => ?_)
           clear hK K
           refine norm_ (a' := ?_) ?_ ?_
           rotate_left
           ·show Act.put _ (some 7) _ = _
            exact ap
           refine one_ (i := 10) (N := some 6) #[true, true, true, true, true, true, true, true, true, true, true, true, false, false] rfl rfl (one_of HT_.out kr) (by decide) (fun K hK => ?_)
           refine box_step ?hg (N := 6) ?hd (cs := #[.string (⟨#[]⟩ : ByteArray), .slice none 0 0]) (t := 59) ?hr ?_; (case hd => rfl); (case hg => rfl); (case hr => first | (go_simp; done) | (go_simp; rfl))
           intro gb105 hg w26 hbox hb
           have BK105 := Aside0.mk (hbox)
           have GW105 := Aside0.mk (gs (w := w) hg (bl HB.out))
           have GE105 := Aside0.mk (gs (w := w) hg (bl HB.out))
           replace HB := Aside0.mk (below_step (bl HB.out) hb)
           have NB101_105 := Aside0.mk ((gl (g := gb101) hg (pk BK101.out)))
           have NB105_101 := Aside0.mk ((gm (g := gb101) hg (pk BK101.out)))
           replace BK101 := Aside0.mk (blk_below (pk BK101.out) hb)
           have NB102_105 := Aside0.mk ((gl (g := gb102) hg (pk BK102.out)))
           have NB105_102 := Aside0.mk ((gm (g := gb102) hg (pk BK102.out)))
           replace BK102 := Aside0.mk (blk_below (pk BK102.out) hb)
           have NB106_105 := Aside0.mk ((gl (g := gb106) hg (pk BK106.out)))
           have NB105_106 := Aside0.mk ((gm (g := gb106) hg (pk BK106.out)))
           replace BK106 := Aside0.mk (blk_below (pk BK106.out) hb)
           clear hb hbox hg
           refine hK.out _ _ ⟨(blk_cell BK101.out 0).trans rfl, (blk_cell BK101.out 1).trans rfl, (blk_cell BK101.out 2).trans rfl, (blk_cell BK102.out 0).trans rfl, (blk_cell BK102.out 1).trans rfl, (blk_cell BK102.out 2).trans rfl, ((HB.out.cell (World.block_lt_of_cell? w _ hw103_0)).trans hw103_0), ((HB.out.cell (World.block_lt_of_cell? w _ hw103_1)).trans hw103_1), ((HB.out.cell (World.block_lt_of_cell? w _ hw104_0)).trans hw104_0), ((HB.out.cell (World.block_lt_of_cell? w _ hw104_1)).trans hw104_1)⟩ (fun hHeld => ?_)
           clear hK K
           refine norm_ (a' := ?_) ?_ ?_
           rotate_left
           ·show Act.put _ (some 6) _ = _
            exact ap
           exact norm_ (by simp only [putAll, Act.put, List.setIfInBounds_toArray, List.set_cons_zero, List.set_cons_succ]) (hCont (gb105, gb106) _ ⟨hHeld, (pk BK101.out), (pk BK102.out), (pk BK105.out), (pk BK106.out), GW105.out, GE105.out, NB101_105.out, NB105_101.out, NB102_105.out, NB105_102.out, NB106_105.out, NB105_106.out, GW106.out, GE106.out, NB101_106.out, NB106_101.out, NB102_106.out, NB106_102.out, (bl HB.out)⟩)
         rintro ⟨gb105, gb106⟩ w27 ⟨hS_, h0_, h1_, h2_, h3_, h4_, h5_, h6_, h7_, h8_, h9_, h10_, h11_, h12_, h13_, h14_, h15_, h16_, h17_, h18_⟩
         have n0_ : Aside0 (w27.heap[gb101]? = some (.cells #[.int .i64 a0_0, .slice (some ad103) l0_1.length c0_1, .slice A0_2 l0_2.length c0_2] 25 (0, 0))) := ⟨h0_⟩
         have n1_ : Aside0 (w27.heap[gb102]? = some (.cells #[.int .i64 a1_0, .slice (some ad104) l1_1.length c1_1, .slice A1_2 l1_2.length c1_2] 25 (0, 0))) := ⟨h1_⟩
         have n2_ : Aside0 (w27.heap[gb105]? = some (.cells #[.string (⟨#[]⟩ : ByteArray), .slice none 0 0] 59 (0, 0))) := ⟨h2_⟩
         have n3_ : Aside0 (w27.heap[gb106]? = some (.cells #[.string (⟨#[]⟩ : ByteArray), .slice none 0 0] 59 (0, 0))) := ⟨h3_⟩
         have n4_ : Aside0 (w.heap.size ≤ gb105) := ⟨h4_⟩
         have n5_ : Aside0 (w.heap.size ≤ gb105) := ⟨h5_⟩
         have n6_ : Aside0 (gb101 ≠ gb105) := ⟨h6_⟩
         have n7_ : Aside0 (gb105 ≠ gb101) := ⟨h7_⟩
         have n8_ : Aside0 (gb102 ≠ gb105) := ⟨h8_⟩
         have n9_ : Aside0 (gb105 ≠ gb102) := ⟨h9_⟩
         have n10_ : Aside0 (gb106 ≠ gb105) := ⟨h10_⟩
         have n11_ : Aside0 (gb105 ≠ gb106) := ⟨h11_⟩
         have n12_ : Aside0 (w.heap.size ≤ gb106) := ⟨h12_⟩
         have n13_ : Aside0 (w.heap.size ≤ gb106) := ⟨h13_⟩
         have n14_ : Aside0 (gb101 ≠ gb106) := ⟨h14_⟩
         have n15_ : Aside0 (gb106 ≠ gb101) := ⟨h15_⟩
         have n16_ : Aside0 (gb102 ≠ gb106) := ⟨h16_⟩
         have n17_ : Aside0 (gb106 ≠ gb102) := ⟨h17_⟩
         have n18_ : Aside0 (Below w.heap.size w w27) := ⟨h18_⟩
         clear BK101
         clear BK102
         clear HB
         clear h0_ h1_ h2_ h3_ h4_ h5_ h6_ h7_ h8_ h9_ h10_ h11_ h12_ h13_ h14_ h15_ h16_ h17_ h18_
         have BK101 := n0_
         have BK102 := n1_
         have BK105 := n2_
         have BK106 := n3_
         have GW105 := n4_
         have GE105 := n5_
         have NB101_105 := n6_
         have NB105_101 := n7_
         have NB102_105 := n8_
         have NB105_102 := n9_
         have NB106_105 := n10_
         have NB105_106 := n11_
         have GW106 := n12_
         have GE106 := n13_
         have NB101_106 := n14_
         have NB106_101 := n15_
         have NB102_106 := n16_
         have NB106_102 := n17_
         have HB := n18_
         clear n0_ n1_ n2_ n3_ n4_ n5_ n6_ n7_ n8_ n9_ n10_ n11_ n12_ n13_ n14_ n15_ n16_ n17_ n18_
         have hHeld : w27.cell? ⟨gb101, 0, none⟩ = some (.int .i64 a0_0) ∧ w27.cell? ⟨gb101, 1, none⟩ = some (.slice (some ad103) l0_1.length c0_1) ∧ w27.cell? ⟨gb101, 2, none⟩ = some (.slice A0_2 l0_2.length c0_2) ∧ w27.cell? ⟨gb102, 0, none⟩ = some (.int .i64 a1_0) ∧ w27.cell? ⟨gb102, 1, none⟩ = some (.slice (some ad104) l1_1.length c1_1) ∧ w27.cell? ⟨gb102, 2, none⟩ = some (.slice A1_2 l1_2.length c1_2) ∧ w27.cell? (ad103.add ((x5_2).toNat * 2)) = some (.string ((rd_T59 l0_1 x5_2).f0)) ∧ w27.cell? ⟨(ad103.add ((x5_2).toNat * 2)).block, (ad103.add ((x5_2).toNat * 2)).off + 1, none⟩ = some (.slice A103_1 ((rd_T59 l0_1 x5_2).f1).length c103_1) ∧ w27.cell? (ad104.add ((x5_2).toNat * 2)) = some (.string ((rd_T59 l1_1 x5_2).f0)) ∧ w27.cell? ⟨(ad104.add ((x5_2).toNat * 2)).block, (ad104.add ((x5_2).toNat * 2)).off + 1, none⟩ = some (.slice A104_1 ((rd_T59 l1_1 x5_2).f1).length c104_1) := hS_
         refine norm_ (a' := ?_) ?_ ?_
         rotate_left
         ·simp only [putAll, Act.put, List.setIfInBounds_toArray, List.set_cons_zero, List.set_cons_succ]
          rfl
         refine one_ (i := 12) (N := none) #[true, true, true, true, true, true, true, true, true, true, true, true, true, false] rfl rfl (one_of HT_.out kr) (by decide) (fun K hK => ?_)
         have hs28 : w27.cell? ⟨gb105, 0, none⟩ = some (.string (⟨#[]⟩ : ByteArray)) := (blk_cell BK105.out 0).trans rfl
         have hfs28 := blk_frozen BK105.out 0
         have hns28_0 := NB101_105.out
         have hns28_1 := NB102_105.out
         have hns28_3 := NB106_105.out
         have hms28_0 := NB105_101.out
         have hms28_1 := NB105_102.out
         have hms28_3 := NB105_106.out
         have hs29 : w27.cell? ⟨gb105, 1, none⟩ = some (.slice none 0 0) := (blk_cell BK105.out 1).trans rfl
         have hfs29 := blk_frozen BK105.out 1
         have hns29_0 := NB101_105.out
         have hns29_1 := NB102_105.out
         have hns29_3 := NB106_105.out
         have hms29_0 := NB105_101.out
         have hms29_1 := NB105_102.out
         have hms29_3 := NB105_106.out
         refine skip_ (w1 := ?_) (by rfl) rfl ?_ ?_
         rotate_left
         ·go_simp
          rfl
         refine hK.out _ _ ⟨((cell_far (p := ⟨gb105, _, none⟩) NB101_105.out _).trans (((cell_far (p := ⟨gb105, _, none⟩) NB101_105.out _).trans (hHeld.1)))), ((cell_far (p := ⟨gb105, _, none⟩) NB101_105.out _).trans (((cell_far (p := ⟨gb105, _, none⟩) NB101_105.out _).trans (hHeld.2.1)))), ((cell_far (p := ⟨gb105, _, none⟩) NB101_105.out _).trans (((cell_far (p := ⟨gb105, _, none⟩) NB101_105.out _).trans (hHeld.2.2.1)))), ((cell_far (p := ⟨gb105, _, none⟩) NB102_105.out _).trans (((cell_far (p := ⟨gb105, _, none⟩) NB102_105.out _).trans (hHeld.2.2.2.1)))), ((cell_far (p := ⟨gb105, _, none⟩) NB102_105.out _).trans (((cell_far (p := ⟨gb105, _, none⟩) NB102_105.out _).trans (hHeld.2.2.2.2.1)))), ((cell_far (p := ⟨gb105, _, none⟩) NB102_105.out _).trans (((cell_far (p := ⟨gb105, _, none⟩) NB102_105.out _).trans (hHeld.2.2.2.2.2.1)))), ((cell_far (p := ⟨gb105, _, none⟩) (by first | exact Nat.ne_of_lt (Nat.lt_of_lt_of_le (by have := World.block_lt_of_cell? _ _ hw103_0; first | rwa [add_block] at this | exact this) GW105.out) | (rw [add_block]; exact Nat.ne_of_lt (Nat.lt_of_lt_of_le (by have := World.block_lt_of_cell? _ _ hw103_0; first | rwa [add_block] at this | exact this) GW105.out)) | (show (Addr.add _ _).block ≠ _; rw [add_block]; exact Nat.ne_of_lt (Nat.lt_of_lt_of_le (by have := World.block_lt_of_cell? _ _ hw103_0; first | rwa [add_block] at this | exact this) GW105.out)) | (dsimp only; exact Nat.ne_of_lt (Nat.lt_of_lt_of_le (by have := World.block_lt_of_cell? _ _ hw103_0; first | rwa [add_block] at this | exact this) GW105.out))) _).trans (((cell_far (p := ⟨gb105, _, none⟩) (by first | exact Nat.ne_of_lt (Nat.lt_of_lt_of_le (by have := World.block_lt_of_cell? _ _ hw103_0; first | rwa [add_block] at this | exact this) GW105.out) | (rw [add_block]; exact Nat.ne_of_lt (Nat.lt_of_lt_of_le (by have := World.block_lt_of_cell? _ _ hw103_0; first | rwa [add_block] at this | exact this) GW105.out)) | (show (Addr.add _ _).block ≠ _; rw [add_block]; exact Nat.ne_of_lt (Nat.lt_of_lt_of_le (by have := World.block_lt_of_cell? _ _ hw103_0; first | rwa [add_block] at this | exact this) GW105.out)) | (dsimp only; exact Nat.ne_of_lt (Nat.lt_of_lt_of_le (by have := World.block_lt_of_cell? _ _ hw103_0; first | rwa [add_block] at this | exact this) GW105.out))) _).trans (hHeld.2.2.2.2.2.2.1)))), ((cell_far (p := ⟨gb105, _, none⟩) (by first | exact Nat.ne_of_lt (Nat.lt_of_lt_of_le (by have := World.block_lt_of_cell? _ _ hw103_1; first | rwa [add_block] at this | exact this) GW105.out) | (rw [add_block]; exact Nat.ne_of_lt (Nat.lt_of_lt_of_le (by have := World.block_lt_of_cell? _ _ hw103_1; first | rwa [add_block] at this | exact this) GW105.out)) | (show (Addr.add _ _).block ≠ _; rw [add_block]; exact Nat.ne_of_lt (Nat.lt_of_lt_of_le (by have := World.block_lt_of_cell? _ _ hw103_1; first | rwa [add_block] at this | exact this) GW105.out)) | (dsimp only; exact Nat.ne_of_lt (Nat.lt_of_lt_of_le (by have := World.block_lt_of_cell? _ _ hw103_1; first | rwa [add_block] at this | exact this) GW105.out))) _).trans (((cell_far (p := ⟨gb105, _, none⟩) (by first | exact Nat.ne_of_lt (Nat.lt_of_lt_of_le (by have := World.block_lt_of_cell? _ _ hw103_1; first | rwa [add_block] at this | exact this) GW105.out) | (rw [add_block]; exact Nat.ne_of_lt (Nat.lt_of_lt_of_le (by have := World.block_lt_of_cell? _ _ hw103_1; first | rwa [add_block] at this | exact this) GW105.out)) | (show (Addr.add _ _).block ≠ _; rw [add_block]; exact Nat.ne_of_lt (Nat.lt_of_lt_of_le (by have := World.block_lt_of_cell? _ _ hw103_1; first | rwa [add_block] at this | exact this) GW105.out)) | (dsimp only; exact Nat.ne_of_lt (Nat.lt_of_lt_of_le (by have := World.block_lt_of_cell? _ _ hw103_1; first | rwa [add_block] at this | exact this) GW105.out))) _).trans (hHeld.2.2.2.2.2.2.2.1)))), ((cell_far (p := ⟨gb105, _, none⟩) (by first | exact Nat.ne_of_lt (Nat.lt_of_lt_of_le (by have := World.block_lt_of_cell? _ _ hw104_0; first | rwa [add_block] at this | exact this) GW105.out) | (rw [add_block]; exact Nat.ne_of_lt (Nat.lt_of_lt_of_le (by have := World.block_lt_of_cell? _ _ hw104_0; first | rwa [add_block] at this | exact this) GW105.out)) | (show (Addr.add _ _).block ≠ _; rw [add_block]; exact Nat.ne_of_lt (Nat.lt_of_lt_of_le (by have := World.block_lt_of_cell? _ _ hw104_0; first | rwa [add_block] at this | exact this) GW105.out)) | (dsimp only; exact Nat.ne_of_lt (Nat.lt_of_lt_of_le (by have := World.block_lt_of_cell? _ _ hw104_0; first | rwa [add_block] at this | exact this) GW105.out))) _).trans (((cell_far (p := ⟨gb105, _, none⟩) (by first | exact Nat.ne_of_lt (Nat.lt_of_lt_of_le (by have := World.block_lt_of_cell? _ _ hw104_0; first | rwa [add_block] at this | exact this) GW105.out) | (rw [add_block]; exact Nat.ne_of_lt (Nat.lt_of_lt_of_le (by have := World.block_lt_of_cell? _ _ hw104_0; first | rwa [add_block] at this | exact this) GW105.out)) | (show (Addr.add _ _).block ≠ _; rw [add_block]; exact Nat.ne_of_lt (Nat.lt_of_lt_of_le (by have := World.block_lt_of_cell? _ _ hw104_0; first | rwa [add_block] at this | exact this) GW105.out)) | (dsimp only; exact Nat.ne_of_lt (Nat.lt_of_lt_of_le (by have := World.block_lt_of_cell? _ _ hw104_0; first | rwa [add_block] at this | exact this) GW105.out))) _).trans (hHeld.2.2.2.2.2.2.2.2.1)))), ((cell_far (p := ⟨gb105, _, none⟩) (by first | exact Nat.ne_of_lt (Nat.lt_of_lt_of_le (by have := World.block_lt_of_cell? _ _ hw104_1; first | rwa [add_block] at this | exact this) GW105.out) | (rw [add_block]; exact Nat.ne_of_lt (Nat.lt_of_lt_of_le (by have := World.block_lt_of_cell? _ _ hw104_1; first | rwa [add_block] at this | exact this) GW105.out)) | (show (Addr.add _ _).block ≠ _; rw [add_block]; exact Nat.ne_of_lt (Nat.lt_of_lt_of_le (by have := World.block_lt_of_cell? _ _ hw104_1; first | rwa [add_block] at this | exact this) GW105.out)) | (dsimp only; exact Nat.ne_of_lt (Nat.lt_of_lt_of_le (by have := World.block_lt_of_cell? _ _ hw104_1; first | rwa [add_block] at this | exact this) GW105.out))) _).trans (((cell_far (p := ⟨gb105, _, none⟩) (by first | exact Nat.ne_of_lt (Nat.lt_of_lt_of_le (by have := World.block_lt_of_cell? _ _ hw104_1; first | rwa [add_block] at this | exact this) GW105.out) | (rw [add_block]; exact Nat.ne_of_lt (Nat.lt_of_lt_of_le (by have := World.block_lt_of_cell? _ _ hw104_1; first | rwa [add_block] at this | exact this) GW105.out)) | (show (Addr.add _ _).block ≠ _; rw [add_block]; exact Nat.ne_of_lt (Nat.lt_of_lt_of_le (by have := World.block_lt_of_cell? _ _ hw104_1; first | rwa [add_block] at this | exact this) GW105.out)) | (dsimp only; exact Nat.ne_of_lt (Nat.lt_of_lt_of_le (by have := World.block_lt_of_cell? _ _ hw104_1; first | rwa [add_block] at this | exact this) GW105.out))) _).trans (hHeld.2.2.2.2.2.2.2.2.2))))⟩ (fun hHeld => ?_)
         clear hK K
         refine one_ (i := 13) (N := none) #[true, true, true, true, true, true, true, true, true, true, true, true, true, true] rfl rfl (one_of HT_.out kr) (by decide) (fun K hK => ?_)
         have hs30 : w27.cell? ⟨gb106, 0, none⟩ = some (.string (⟨#[]⟩ : ByteArray)) := (blk_cell BK106.out 0).trans rfl
         have hfs30 := blk_frozen BK106.out 0
         have hns30_0 := NB101_106.out
         have hns30_1 := NB102_106.out
         have hns30_2 := NB105_106.out
         have hms30_0 := NB106_101.out
         have hms30_1 := NB106_102.out
         have hms30_2 := NB106_105.out
         have hs31 : w27.cell? ⟨gb106, 1, none⟩ = some (.slice none 0 0) := (blk_cell BK106.out 1).trans rfl
         have hfs31 := blk_frozen BK106.out 1
         have hns31_0 := NB101_106.out
         have hns31_1 := NB102_106.out
         have hns31_2 := NB105_106.out
         have hms31_0 := NB106_101.out
         have hms31_1 := NB106_102.out
         have hms31_2 := NB106_105.out
         refine skip_ (w1 := ?_) (by rfl) rfl ?_ ?_
         rotate_left
         ·go_simp
          rfl
         refine hK.out _ _ ⟨((cell_far (p := ⟨gb106, _, none⟩) NB101_106.out _).trans (((cell_far (p := ⟨gb106, _, none⟩) NB101_106.out _).trans (hHeld.1)))), ((cell_far (p := ⟨gb106, _, none⟩) NB101_106.out _).trans (((cell_far (p := ⟨gb106, _, none⟩) NB101_106.out _).trans (hHeld.2.1)))), ((cell_far (p := ⟨gb106, _, none⟩) NB101_106.out _).trans (((cell_far (p := ⟨gb106, _, none⟩) NB101_106.out _).trans (hHeld.2.2.1)))), ((cell_far (p := ⟨gb106, _, none⟩) NB102_106.out _).trans (((cell_far (p := ⟨gb106, _, none⟩) NB102_106.out _).trans (hHeld.2.2.2.1)))), ((cell_far (p := ⟨gb106, _, none⟩) NB102_106.out _).trans (((cell_far (p := ⟨gb106, _, none⟩) NB102_106.out _).trans (hHeld.2.2.2.2.1)))), ((cell_far (p := ⟨gb106, _, none⟩) NB102_106.out _).trans (((cell_far (p := ⟨gb106, _, none⟩) NB102_106.out _).trans (hHeld.2.2.2.2.2.1)))), ((cell_far (p := ⟨gb106, _, none⟩) (by first | exact Nat.ne_of_lt (Nat.lt_of_lt_of_le (by have := World.block_lt_of_cell? _ _ hw103_0; first | rwa [add_block] at this | exact this) GW106.out) | (rw [add_block]; exact Nat.ne_of_lt (Nat.lt_of_lt_of_le (by have := World.block_lt_of_cell? _ _ hw103_0; first | rwa [add_block] at this | exact this) GW106.out)) | (show (Addr.add _ _).block ≠ _; rw [add_block]; exact Nat.ne_of_lt (Nat.lt_of_lt_of_le (by have := World.block_lt_of_cell? _ _ hw103_0; first | rwa [add_block] at this | exact this) GW106.out)) | (dsimp only; exact Nat.ne_of_lt (Nat.lt_of_lt_of_le (by have := World.block_lt_of_cell? _ _ hw103_0; first | rwa [add_block] at this | exact this) GW106.out))) _).trans (((cell_far (p := ⟨gb106, _, none⟩) (by first | exact Nat.ne_of_lt (Nat.lt_of_lt_of_le (by have := World.block_lt_of_cell? _ _ hw103_0; first | rwa [add_block] at this | exact this) GW106.out) | (rw [add_block]; exact Nat.ne_of_lt (Nat.lt_of_lt_of_le (by have := World.block_lt_of_cell? _ _ hw103_0; first | rwa [add_block] at this | exact this) GW106.out)) | (show (Addr.add _ _).block ≠ _; rw [add_block]; exact Nat.ne_of_lt (Nat.lt_of_lt_of_le (by have := World.block_lt_of_cell? _ _ hw103_0; first | rwa [add_block] at this | exact this) GW106.out)) | (dsimp only; exact Nat.ne_of_lt (Nat.lt_of_lt_of_le (by have := World.block_lt_of_cell? _ _ hw103_0; first | rwa [add_block] at this | exact this) GW106.out))) _).trans (hHeld.2.2.2.2.2.2.1)))), ((cell_far (p := ⟨gb106, _, none⟩) (by first | exact Nat.ne_of_lt (Nat.lt_of_lt_of_le (by have := World.block_lt_of_cell? _ _ hw103_1; first | rwa [add_block] at this | exact this) GW106.out) | (rw [add_block]; exact Nat.ne_of_lt (Nat.lt_of_lt_of_le (by have := World.block_lt_of_cell? _ _ hw103_1; first | rwa [add_block] at this | exact this) GW106.out)) | (show (Addr.add _ _).block ≠ _; rw [add_block]; exact Nat.ne_of_lt (Nat.lt_of_lt_of_le (by have := World.block_lt_of_cell? _ _ hw103_1; first | rwa [add_block] at this | exact this) GW106.out)) | (dsimp only; exact Nat.ne_of_lt (Nat.lt_of_lt_of_le (by have := World.block_lt_of_cell? _ _ hw103_1; first | rwa [add_block] at this | exact this) GW106.out))) _).trans (((cell_far (p := ⟨gb106, _, none⟩) (by first | exact Nat.ne_of_lt (Nat.lt_of_lt_of_le (by have := World.block_lt_of_cell? _ _ hw103_1; first | rwa [add_block] at this | exact this) GW106.out) | (rw [add_block]; exact Nat.ne_of_lt (Nat.lt_of_lt_of_le (by have := World.block_lt_of_cell? _ _ hw103_1; first | rwa [add_block] at this | exact this) GW106.out)) | (show (Addr.add _ _).block ≠ _; rw [add_block]; exact Nat.ne_of_lt (Nat.lt_of_lt_of_le (by have := World.block_lt_of_cell? _ _ hw103_1; first | rwa [add_block] at this | exact this) GW106.out)) | (dsimp only; exact Nat.ne_of_lt (Nat.lt_of_lt_of_le (by have := World.block_lt_of_cell? _ _ hw103_1; first | rwa [add_block] at this | exact this) GW106.out))) _).trans (hHeld.2.2.2.2.2.2.2.1)))), ((cell_far (p := ⟨gb106, _, none⟩) (by first | exact Nat.ne_of_lt (Nat.lt_of_lt_of_le (by have := World.block_lt_of_cell? _ _ hw104_0; first | rwa [add_block] at this | exact this) GW106.out) | (rw [add_block]; exact Nat.ne_of_lt (Nat.lt_of_lt_of_le (by have := World.block_lt_of_cell? _ _ hw104_0; first | rwa [add_block] at this | exact this) GW106.out)) | (show (Addr.add _ _).block ≠ _; rw [add_block]; exact Nat.ne_of_lt (Nat.lt_of_lt_of_le (by have := World.block_lt_of_cell? _ _ hw104_0; first | rwa [add_block] at this | exact this) GW106.out)) | (dsimp only; exact Nat.ne_of_lt (Nat.lt_of_lt_of_le (by have := World.block_lt_of_cell? _ _ hw104_0; first | rwa [add_block] at this | exact this) GW106.out))) _).trans (((cell_far (p := ⟨gb106, _, none⟩) (by first | exact Nat.ne_of_lt (Nat.lt_of_lt_of_le (by have := World.block_lt_of_cell? _ _ hw104_0; first | rwa [add_block] at this | exact this) GW106.out) | (rw [add_block]; exact Nat.ne_of_lt (Nat.lt_of_lt_of_le (by have := World.block_lt_of_cell? _ _ hw104_0; first | rwa [add_block] at this | exact this) GW106.out)) | (show (Addr.add _ _).block ≠ _; rw [add_block]; exact Nat.ne_of_lt (Nat.lt_of_lt_of_le (by have := World.block_lt_of_cell? _ _ hw104_0; first | rwa [add_block] at this | exact this) GW106.out)) | (dsimp only; exact Nat.ne_of_lt (Nat.lt_of_lt_of_le (by have := World.block_lt_of_cell? _ _ hw104_0; first | rwa [add_block] at this | exact this) GW106.out))) _).trans (hHeld.2.2.2.2.2.2.2.2.1)))), ((cell_far (p := ⟨gb106, _, none⟩) (by first | exact Nat.ne_of_lt (Nat.lt_of_lt_of_le (by have := World.block_lt_of_cell? _ _ hw104_1; first | rwa [add_block] at this | exact this) GW106.out) | (rw [add_block]; exact Nat.ne_of_lt (Nat.lt_of_lt_of_le (by have := World.block_lt_of_cell? _ _ hw104_1; first | rwa [add_block] at this | exact this) GW106.out)) | (show (Addr.add _ _).block ≠ _; rw [add_block]; exact Nat.ne_of_lt (Nat.lt_of_lt_of_le (by have := World.block_lt_of_cell? _ _ hw104_1; first | rwa [add_block] at this | exact this) GW106.out)) | (dsimp only; exact Nat.ne_of_lt (Nat.lt_of_lt_of_le (by have := World.block_lt_of_cell? _ _ hw104_1; first | rwa [add_block] at this | exact this) GW106.out))) _).trans (((cell_far (p := ⟨gb106, _, none⟩) (by first | exact Nat.ne_of_lt (Nat.lt_of_lt_of_le (by have := World.block_lt_of_cell? _ _ hw104_1; first | rwa [add_block] at this | exact this) GW106.out) | (rw [add_block]; exact Nat.ne_of_lt (Nat.lt_of_lt_of_le (by have := World.block_lt_of_cell? _ _ hw104_1; first | rwa [add_block] at this | exact this) GW106.out)) | (show (Addr.add _ _).block ≠ _; rw [add_block]; exact Nat.ne_of_lt (Nat.lt_of_lt_of_le (by have := World.block_lt_of_cell? _ _ hw104_1; first | rwa [add_block] at this | exact this) GW106.out)) | (dsimp only; exact Nat.ne_of_lt (Nat.lt_of_lt_of_le (by have := World.block_lt_of_cell? _ _ hw104_1; first | rwa [add_block] at this | exact this) GW106.out))) _).trans (hHeld.2.2.2.2.2.2.2.2.2))))⟩ (fun hHeld => ?_)
         clear hK K
         refine done_ (done_of HT_.out kr) ?_
         go_upto_region 7 with (fail)
         go_cut [63] (fun v63 wc => ∃ (kq : Nat) (x63_20 : Bool), v63 = .bool x63_20 ∧ Aside0 (lodestarref05_Same.j2 kq x5_2 x63_20 a0_0 l0_1 l0_2 a1_0 l1_1 l1_2 ((rd_T59 l0_1 x5_2).f0) ((rd_T59 l0_1 x5_2).f1) ((rd_T59 l1_1 x5_2).f0) ((rd_T59 l1_1 x5_2).f1) = some r) ∧ Aside0 (kq ≤ k2) ∧ Aside0 (wc.heap[gb101]? = some (.cells #[.int .i64 a0_0, (.slice (some ad103) l0_1.length c0_1), (.slice A0_2 l0_2.length c0_2)] 25 (0, 0))) ∧ Aside0 (wc.heap[gb102]? = some (.cells #[.int .i64 a1_0, (.slice (some ad104) l1_1.length c1_1), (.slice A1_2 l1_2.length c1_2)] 25 (0, 0))) ∧ Aside0 (wc.heap[gb105]? = some (.cells #[.string ((rd_T59 l0_1 x5_2).f0), (.slice A103_1 ((rd_T59 l0_1 x5_2).f1).length c103_1)] 59 (0, 0))) ∧ Aside0 (wc.heap[gb106]? = some (.cells #[.string ((rd_T59 l1_1 x5_2).f0), (.slice A104_1 ((rd_T59 l1_1 x5_2).f1).length c104_1)] 59 (0, 0))) ∧ Aside0 (Below w.heap.size w wc))
         case first =>
          have H := HC21.out
          clear HC21
          by_cases c32 : ((rd_T59 l0_1 x5_2).f0).toList = ((rd_T59 l1_1 x5_2).f0).toList
          ·rw [if_pos c32] at H
           have c32b0 : (((rd_T59 l0_1 x5_2).f0).toList == ((rd_T59 l1_1 x5_2).f0).toList) = true := beq_iff_eq.mpr c32
           have c32b1 : (((rd_T59 l0_1 x5_2).f0).toList != ((rd_T59 l1_1 x5_2).f0).toList) = false := bne_eq_false_iff_eq.mpr c32
           clear c32
           (first | rw [c32b0] | (simp only [i64_w, i32_w]; rw [c32b0]) | skip)
           have H' := Aside0.mk H
           clear H
           have hnb33 := NB105_101.out
           have hnc33 := NB101_105.out
           have hnb34 := NB105_102.out
           have hnc34 := NB102_105.out
           have hnb35 := NB105_106.out
           have hnc35 := NB106_105.out
           obtain ⟨hcz36_0, hcz36_1, hfz36_0, hfz36_1⟩ := cz2 BK105.out
           have hnb37 := NB106_101.out
           have hnc37 := NB101_106.out
           have hnb38 := NB106_102.out
           have hnc38 := NB102_106.out
           obtain ⟨hcz39_0, hcz39_1, hfz39_0, hfz39_1⟩ := cz2 BK106.out
           go_wp2
           go_meet
           case rel => exact ⟨_, (((((rd_T59 l0_1 x5_2).f1).length : Int) != (((rd_T59 l1_1 x5_2).f1).length : Int))), hsr, H', ⟨by have := HJ2.out; have := HK2.out; first | omega | exact Nat.le_refl _⟩, ⟨by refine pk ?_; refine blk_far ?_ NB101_106.out _; refine pk ?_; refine blk_far ?_ NB101_106.out _; refine pk ?_; refine blk_far ?_ NB101_105.out _; refine pk ?_; refine blk_far ?_ NB101_105.out _; exact pk BK101.out⟩, ⟨by refine pk ?_; refine blk_far ?_ NB102_106.out _; refine pk ?_; refine blk_far ?_ NB102_106.out _; refine pk ?_; refine blk_far ?_ NB102_105.out _; refine pk ?_; refine blk_far ?_ NB102_105.out _; exact pk BK102.out⟩, ⟨by refine pk ?_; refine blk_far ?_ NB105_106.out _; refine pk ?_; refine blk_far ?_ NB105_106.out _; refine pk ?_; refine blk_put (cs := #[.string ((rd_T59 l0_1 x5_2).f0), .slice none 0 0]) ?_ 1 _ rfl; refine pk ?_; refine blk_put (cs := #[.string (⟨#[]⟩ : ByteArray), .slice none 0 0]) ?_ 0 _ rfl; exact pk BK105.out⟩, ⟨by refine pk ?_; refine blk_put (cs := #[.string ((rd_T59 l1_1 x5_2).f0), .slice none 0 0]) ?_ 1 _ rfl; refine pk ?_; refine blk_put (cs := #[.string (⟨#[]⟩ : ByteArray), .slice none 0 0]) ?_ 0 _ rfl; refine pk ?_; refine blk_far ?_ NB106_105.out _; refine pk ?_; refine blk_far ?_ NB106_105.out _; exact pk BK106.out⟩, ⟨bl HB.out⟩⟩
          ·rw [if_neg c32] at H
           have c32b0 : (((rd_T59 l0_1 x5_2).f0).toList == ((rd_T59 l1_1 x5_2).f0).toList) = false := beq_eq_false_iff_ne.mpr c32
           have c32b1 : (((rd_T59 l0_1 x5_2).f0).toList != ((rd_T59 l1_1 x5_2).f0).toList) = true := bne_iff_ne.mpr c32
           (first | rw [c32b0] | (simp only [i64_w, i32_w]; rw [c32b0]) | skip)
           have H' := Aside0.mk H
           clear H
           have hnb40 := NB105_101.out
           have hnc40 := NB101_105.out
           have hnb41 := NB105_102.out
           have hnc41 := NB102_105.out
           have hnb42 := NB105_106.out
           have hnc42 := NB106_105.out
           obtain ⟨hcz43_0, hcz43_1, hfz43_0, hfz43_1⟩ := cz2 BK105.out
           have hnb44 := NB106_101.out
           have hnc44 := NB101_106.out
           have hnb45 := NB106_102.out
           have hnc45 := NB102_106.out
           obtain ⟨hcz46_0, hcz46_1, hfz46_0, hfz46_1⟩ := cz2 BK106.out
           go_wp2
           go_meet
           case rel => exact ⟨_, (true), hsr, H', ⟨by have := HJ2.out; have := HK2.out; first | omega | exact Nat.le_refl _⟩, ⟨by refine pk ?_; refine blk_far ?_ NB101_106.out _; refine pk ?_; refine blk_far ?_ NB101_106.out _; refine pk ?_; refine blk_far ?_ NB101_105.out _; refine pk ?_; refine blk_far ?_ NB101_105.out _; exact pk BK101.out⟩, ⟨by refine pk ?_; refine blk_far ?_ NB102_106.out _; refine pk ?_; refine blk_far ?_ NB102_106.out _; refine pk ?_; refine blk_far ?_ NB102_105.out _; refine pk ?_; refine blk_far ?_ NB102_105.out _; exact pk BK102.out⟩, ⟨by refine pk ?_; refine blk_far ?_ NB105_106.out _; refine pk ?_; refine blk_far ?_ NB105_106.out _; refine pk ?_; refine blk_put (cs := #[.string ((rd_T59 l0_1 x5_2).f0), .slice none 0 0]) ?_ 1 _ rfl; refine pk ?_; refine blk_put (cs := #[.string (⟨#[]⟩ : ByteArray), .slice none 0 0]) ?_ 0 _ rfl; exact pk BK105.out⟩, ⟨by refine pk ?_; refine blk_put (cs := #[.string ((rd_T59 l1_1 x5_2).f0), .slice none 0 0]) ?_ 1 _ rfl; refine pk ?_; refine blk_put (cs := #[.string (⟨#[]⟩ : ByteArray), .slice none 0 0]) ?_ 0 _ rfl; refine pk ?_; refine blk_far ?_ NB106_105.out _; refine pk ?_; refine blk_far ?_ NB106_105.out _; exact pk BK106.out⟩, ⟨bl HB.out⟩⟩
         case rest =>
          clear HC21
          try clear c1
          try clear p1
          try clear q1
          try clear hx1
          try clear c2
          try clear p2
          try clear c3
          try clear c4
          try clear c6
          try clear c6b0
          try clear c6b1
          try clear c7
          try clear c7b0
          try clear c7b1
          try clear c7b2
          try clear c8
          try clear c10
          try clear p10
          try clear q10
          try clear hx10
          try clear c11
          try clear c14
          try clear c17
          try clear c18
          try clear c18b0
          try clear c19
          try clear c19b0
          try clear c20
          try clear c20b0
          try clear c22
          try clear c32
          try clear c32b0
          try clear c32b1
          try clear c33
          try clear c34
          try clear c35
          try clear c37
          try clear c38
          try clear c40
          try clear c41
          try clear c42
          try clear c44
          try clear c45
          try clear hcz46_0 hcz46_1 hfz46_0 hfz46_1
          try clear hcz43_0 hcz43_1 hfz43_0 hfz43_1
          try clear hcz39_0 hcz39_1 hfz39_0 hfz39_1
          try clear hcz36_0 hcz36_1 hfz36_0 hfz36_1
          try clear hcz23_0 hcz23_1 hcz23_2 hfz23_0 hfz23_1 hfz23_2
          try clear hcz16_0 hcz16_1 hcz16_2 hfz16_0 hfz16_1 hfz16_2
          try clear hcz15_0 hcz15_1 hcz15_2 hfz15_0 hfz15_1 hfz15_2
          try clear hcz13_0 hcz13_1 hcz13_2 hfz13_0 hfz13_1 hfz13_2
          try clear hcz12_0 hcz12_1 hcz12_2 hfz12_0 hfz12_1 hfz12_2
          try clear hcz10_0 hcz10_1 hcz10_2 hfz10_0 hfz10_1 hfz10_2
          try clear hcz9_0 hcz9_1 hcz9_2 hfz9_0 hfz9_1 hfz9_2
          try clear hx103_0
          try clear hx103_1
          try clear hx104_0
          try clear hx104_1
          try clear p103
          try clear p104
          try clear p2
          try clear q103
          try clear q104
          obtain ⟨kq, x63_20, rfl, HA, HJ20, BK101, BK102, BK105, BK106, HB⟩ := hcut
          cases kq with
          | zero => exact absurd HA.out (by simp [lodestarref05_Same.j2])
          | succ kj20 =>
           have H := HA.out
           clear HA
           simp only [lodestarref05_Same.j2] at H
           by_cases c47 : x63_20 = true
           ·subst c47
            have H1 : (some false) = some r := by rw [if_pos rfl] at H; exact H
            clear H
            have H := H1
            clear H1
            obtain rfl := Option.some.inj H
            go_wp2
            go_ret
            exact ⟨er0, bl HB.out⟩
           ·replace c47 := Bool.eq_false_iff.mpr c47
            subst c47
            have H1 : (lodestarref05_Same.l1 kj20 x5_2 0 a0_0 l0_1 l0_2 a1_0 l1_1 l1_2 ((rd_T59 l0_1 x5_2).f0) ((rd_T59 l0_1 x5_2).f1) ((rd_T59 l1_1 x5_2).f0) ((rd_T59 l1_1 x5_2).f1)) = some r := by rw [if_neg (show ¬ (false = true) by decide)] at H; exact H
            clear H
            have H := H1
            clear H1
            have H' := Aside0.mk H
            clear H
            go_wp2
            go_loopg [8] kj20 (fun kq v8 w' => ∃ (x8_4 : Int), v8 = .int .i64 x8_4 ∧ Aside0 (lodestarref05_Same.l1 kq x5_2 x8_4 a0_0 l0_1 l0_2 a1_0 l1_1 l1_2 ((rd_T59 l0_1 x5_2).f0) ((rd_T59 l0_1 x5_2).f1) ((rd_T59 l1_1 x5_2).f0) ((rd_T59 l1_1 x5_2).f1) = some r) ∧ Aside0 (kq ≤ kj20) ∧ Aside0 (w'.heap[gb101]? = some (.cells #[.int .i64 a0_0, (.slice (some ad103) l0_1.length c0_1), (.slice A0_2 l0_2.length c0_2)] 25 (0, 0))) ∧ Aside0 (w'.heap[gb102]? = some (.cells #[.int .i64 a1_0, (.slice (some ad104) l1_1.length c1_1), (.slice A1_2 l1_2.length c1_2)] 25 (0, 0))) ∧ Aside0 (w'.heap[gb105]? = some (.cells #[.string ((rd_T59 l0_1 x5_2).f0), (.slice A103_1 ((rd_T59 l0_1 x5_2).f1).length c103_1)] 59 (0, 0))) ∧ Aside0 (w'.heap[gb106]? = some (.cells #[.string ((rd_T59 l1_1 x5_2).f0), (.slice A104_1 ((rd_T59 l1_1 x5_2).f1).length c104_1)] 59 (0, 0))) ∧ Aside0 (Below w.heap.size w w'))
            case atStart => exact ⟨(0), hsr, H', ⟨Nat.le_refl _⟩, ⟨pk BK101.out⟩, ⟨pk BK102.out⟩, ⟨pk BK105.out⟩, ⟨pk BK106.out⟩, ⟨bl HB.out⟩⟩
            case round =>
             clear H'
             try clear c1
             try clear p1
             try clear q1
             try clear hx1
             try clear c2
             try clear p2
             try clear c3
             try clear c4
             try clear c6
             try clear c6b0
             try clear c6b1
             try clear c7
             try clear c7b0
             try clear c7b1
             try clear c7b2
             try clear c8
             try clear c10
             try clear p10
             try clear q10
             try clear hx10
             try clear c11
             try clear c14
             try clear c17
             try clear c18
             try clear c18b0
             try clear c19
             try clear c19b0
             try clear c20
             try clear c20b0
             try clear c22
             try clear c32
             try clear c32b0
             try clear c32b1
             try clear c33
             try clear c34
             try clear c35
             try clear c37
             try clear c38
             try clear c40
             try clear c41
             try clear c42
             try clear c44
             try clear c45
             try clear c47
             try clear hcz46_0 hcz46_1 hfz46_0 hfz46_1
             try clear hcz43_0 hcz43_1 hfz43_0 hfz43_1
             try clear hcz39_0 hcz39_1 hfz39_0 hfz39_1
             try clear hcz36_0 hcz36_1 hfz36_0 hfz36_1
             try clear hcz23_0 hcz23_1 hcz23_2 hfz23_0 hfz23_1 hfz23_2
             try clear hcz16_0 hcz16_1 hcz16_2 hfz16_0 hfz16_1 hfz16_2
             try clear hcz15_0 hcz15_1 hcz15_2 hfz15_0 hfz15_1 hfz15_2
             try clear hcz13_0 hcz13_1 hcz13_2 hfz13_0 hfz13_1 hfz13_2
             try clear hcz12_0 hcz12_1 hcz12_2 hfz12_0 hfz12_1 hfz12_2
             try clear hcz10_0 hcz10_1 hcz10_2 hfz10_0 hfz10_1 hfz10_2
             try clear hcz9_0 hcz9_1 hcz9_2 hfz9_0 hfz9_1 hfz9_2
             try clear hx103_0
             try clear hx103_1
             try clear hx104_0
             try clear hx104_1
             try clear p1
             try clear p10
             try clear p103
             try clear p104
             try clear p2
             try clear q1
             try clear q10
             try clear q103
             try clear q104
             obtain ⟨x8_4, rfl, HA, HK4, BK101, BK102, BK105, BK106, HB⟩ := hrel
             cases gk with
             | zero => exact absurd HA.out (by simp [lodestarref05_Same.l1])
             | succ k4 =>
              have H := HA.out
              clear HA
              simp only [lodestarref05_Same.l1] at H
              by_cases c48 : x8_4 < (((rd_T59 l0_1 x5_2).f1).length : Int)
              ·rw [if_pos c48] at H
               have c48b0 : decide (x8_4 < (((rd_T59 l0_1 x5_2).f1).length : Int)) = true := decide_eq_true c48
               clear c48
               by_cases c49 : 0 ≤ x8_4
               ·rw [if_pos c49] at H
                have c49b0 : decide (0 ≤ x8_4) = true := decide_eq_true c49
                clear c49
                by_cases c50 : x8_4 < (((rd_T59 l1_1 x5_2).f1).length : Int)
                ·rw [if_pos c50] at H
                 have c50b0 : decide (x8_4 < (((rd_T59 l1_1 x5_2).f1).length : Int)) = true := decide_eq_true c50
                 clear c50
                 by_cases c51 : (rd ((rd_T59 l0_1 x5_2).f1) x8_4) = (rd ((rd_T59 l1_1 x5_2).f1) x8_4)
                 ·rw [if_pos c51] at H
                  have c51b0 : ((rd ((rd_T59 l0_1 x5_2).f1) x8_4) == (rd ((rd_T59 l1_1 x5_2).f1) x8_4)) = true := beq_iff_eq.mpr c51
                  have c51b1 : ((rd ((rd_T59 l0_1 x5_2).f1) x8_4) != (rd ((rd_T59 l1_1 x5_2).f1) x8_4)) = false := bne_eq_false_iff_eq.mpr c51
                  clear c51
                  have H' := Aside0.mk H
                  clear H
                  have hnb52 := NB105_101.out
                  have hnc52 := NB101_105.out
                  have hnb53 := NB105_102.out
                  have hnc53 := NB102_105.out
                  have hnb54 := NB105_106.out
                  have hnc54 := NB106_105.out
                  obtain ⟨hcz55_0, hcz55_1, hfz55_0, hfz55_1⟩ := cz2 BK105.out
                  try go_wp2
                  replace BK101 := Aside0.mk (blk_drew BK101.out)
                  replace BK102 := Aside0.mk (blk_drew BK102.out)
                  replace BK105 := Aside0.mk (blk_drew BK105.out)
                  replace BK106 := Aside0.mk (blk_drew BK106.out)
                  replace HB := Aside0.mk (below_drew1 HB.out)
                  have p107 : 0 ≤ (x8_4 : Int) := of_decide_eq_true ha
                  have q107 : x8_4 < (((rd_T59 l0_1 x5_2).f1).length : Int) := of_decide_eq_true ha
                  obtain ⟨ad107, e107, hx107_0⟩ := Kd.at_int HR103_1.out x8_4 p107 q107
                  have hw107_0 := hx107_0
                  cases e107
                  replace hx107_0 := (HB.out.cell (World.block_lt_of_cell? w _ hx107_0)).trans hx107_0
                  replace p107 := eq_true p107
                  replace q107 := eq_true q107
                  have p108 : 0 ≤ (x8_4 : Int) := of_decide_eq_true ha
                  have q108 : x8_4 < (((rd_T59 l1_1 x5_2).f1).length : Int) := of_decide_eq_true ha
                  obtain ⟨ad108, e108, hx108_0⟩ := Kd.at_int HR104_1.out x8_4 p108 q108
                  have hw108_0 := hx108_0
                  cases e108
                  replace hx108_0 := (HB.out.cell (World.block_lt_of_cell? w _ hx108_0)).trans hx108_0
                  replace p108 := eq_true p108
                  replace q108 := eq_true q108
                  refine start_ (n := 11) (S := fun w' => w'.cell? ⟨gb105, 0, none⟩ = some (.string ((rd_T59 l0_1 x5_2).f0)) ∧ w'.cell? ⟨gb105, 1, none⟩ = some (.slice (some ad107) ((rd_T59 l0_1 x5_2).f1).length c103_1) ∧ w'.cell? ⟨gb106, 0, none⟩ = some (.string ((rd_T59 l1_1 x5_2).f0)) ∧ w'.cell? ⟨gb106, 1, none⟩ = some (.slice (some ad108) ((rd_T59 l1_1 x5_2).f1).length c104_1) ∧ w'.cell? (ad107.add (x8_4).toNat) = some (.int .i64 (rd ((rd_T59 l0_1 x5_2).f1) x8_4)) ∧ w'.cell? (ad108.add (x8_4).toNat) = some (.int .i64 (rd ((rd_T59 l1_1 x5_2).f1) x8_4))) (ds := []) #[false, false, false, false, false, false, false, false, false, false, false] kr rfl rfl ⟨(blk_cell BK105.out 0).trans rfl, (blk_cell BK105.out 1).trans rfl, (blk_cell BK106.out 0).trans rfl, (blk_cell BK106.out 1).trans rfl, ((HB.out.cell (World.block_lt_of_cell? w _ hw107_0)).trans hw107_0), ((HB.out.cell (World.block_lt_of_cell? w _ hw108_0)).trans hw108_0)⟩ (fun hHeld => ?_); refine with_tabW lodestarref05_Same.tab12 lodestarref05_Same.bits12 (fun HT_ HW_ => ?_)
                  generalize wr.drew = w56 at BK101 BK102 BK105 BK106 HB hx107_0 hx108_0 hHeld ⊢
                  refine pure_ (i := 0) (N := some 71) (v := ?_) (a' := ?_) #[true, false, false, false, false, false, false, false, false, false, false] rfl rfl (any_of HT_.out kr) (fun _ _ _ h => h) (Or.inl ⟨by rfl, ?_⟩) ?_ ?_
                  rotate_left
                  ·exact wl
                  rotate_left
                  ·exact ap
                  refine pure_ (i := 2) (N := some 73) (v := ?_) (a' := ?_) #[true, false, true, false, false, false, false, false, false, false, false] rfl rfl (any_of HT_.out kr) (fun _ _ _ h => h) (Or.inl ⟨by rfl, ?_⟩) ?_ ?_
                  rotate_left
                  ·exact wl
                  rotate_left
                  ·exact ap
                  refine pure_ (i := 5) (N := some 76) (v := ?_) (a' := ?_) #[true, false, true, false, false, true, false, false, false, false, false] rfl rfl (any_of HT_.out kr) (fun _ _ _ h => h) (Or.inl ⟨by rfl, ?_⟩) ?_ ?_
                  rotate_left
                  ·exact wl
                  rotate_left
                  ·exact ap
                  refine pure_ (i := 7) (N := some 78) (v := ?_) (a' := ?_) #[true, false, true, false, false, true, false, true, false, false, false] rfl rfl (any_of HT_.out kr) (fun _ _ _ h => h) (Or.inl ⟨by rfl, ?_⟩) ?_ ?_
                  rotate_left
                  ·exact wl
                  rotate_left
                  ·exact ap
                  refine take_ (i := 1) (N := some 72) (v := ?_) (a' := ?_) #[true, true, true, false, false, true, false, true, false, false, false] rfl rfl (take_ofW HT_.out HW_.out kr) (fun _ _ _ h => h) (Or.inl ⟨by rfl, ?_⟩) hHeld ?_ ?_
                  rotate_left
                  ·rintro w' ⟨s0, s1, s2, s3, s4, s5⟩
                   go_simp
                   exact rl
                  rotate_left
                  ·exact ap
                  refine pure_ (i := 3) (N := some 74) (v := ?_) (a' := ?_) #[true, true, true, true, false, true, false, true, false, false, false] rfl rfl (any_of HT_.out kr) (fun _ _ _ h => h) (Or.inl ⟨by rfl, ?_⟩) ?_ ?_
                  rotate_left
                  ·exact wl
                  rotate_left
                  ·exact ap
                  refine take_ (i := 4) (N := some 75) (v := ?_) (a' := ?_) #[true, true, true, true, true, true, false, true, false, false, false] rfl rfl (take_ofW HT_.out HW_.out kr) (fun _ _ _ h => h) (Or.inl ⟨by rfl, ?_⟩) hHeld ?_ ?_
                  rotate_left
                  ·rintro w' ⟨s0, s1, s2, s3, s4, s5⟩
                   go_simp
                   exact rl
                  rotate_left
                  ·exact ap
                  refine take_ (i := 6) (N := some 77) (v := ?_) (a' := ?_) #[true, true, true, true, true, true, true, true, false, false, false] rfl rfl (take_ofW HT_.out HW_.out kr) (fun _ _ _ h => h) (Or.inl ⟨by rfl, ?_⟩) hHeld ?_ ?_
                  rotate_left
                  ·rintro w' ⟨s0, s1, s2, s3, s4, s5⟩
                   go_simp
                   exact rl
                  rotate_left
                  ·exact ap
                  refine pure_ (i := 8) (N := some 79) (v := ?_) (a' := ?_) #[true, true, true, true, true, true, true, true, true, false, false] rfl rfl (any_of HT_.out kr) (fun _ _ _ h => h) (Or.inl ⟨by rfl, ?_⟩) ?_ ?_
                  rotate_left
                  ·exact wl
                  rotate_left
                  ·exact ap
                  refine take_ (i := 9) (N := some 80) (v := ?_) (a' := ?_) #[true, true, true, true, true, true, true, true, true, true, false] rfl rfl (take_ofW HT_.out HW_.out kr) (fun _ _ _ h => h) (Or.inl ⟨by rfl, ?_⟩) hHeld ?_ ?_
                  rotate_left
                  ·rintro w' ⟨s0, s1, s2, s3, s4, s5⟩
                   go_simp
                   exact rl
                  rotate_left
                  ·exact ap
                  refine pure_ (i := 10) (N := some 81) (v := ?_) (a' := ?_) #[true, true, true, true, true, true, true, true, true, true, true] rfl rfl (any_of HT_.out kr) (fun _ _ _ h => h) (Or.inl ⟨by rfl, ?_⟩) ?_ ?_
                  rotate_left
                  ·exact wl
                  rotate_left
                  ·exact ap
                  refine done_ (done_of HT_.out kr) ?_
                  try go_wp2
                  go_roundg k4
                  case measure => have := HJ2.out; have := HK2.out; have := HJ20.out; have := HK4.out; omega
                  case rel => exact ⟨(wrap64 (x8_4 + 1)), hsr, H', ⟨by have := HJ2.out; have := HK2.out; have := HJ20.out; have := HK4.out; omega⟩, ⟨pk BK101.out⟩, ⟨pk BK102.out⟩, ⟨pk BK105.out⟩, ⟨pk BK106.out⟩, ⟨bl HB.out⟩⟩
                 ·rw [if_neg c51] at H
                  have c51b0 : ((rd ((rd_T59 l0_1 x5_2).f1) x8_4) == (rd ((rd_T59 l1_1 x5_2).f1) x8_4)) = false := beq_eq_false_iff_ne.mpr c51
                  have c51b1 : ((rd ((rd_T59 l0_1 x5_2).f1) x8_4) != (rd ((rd_T59 l1_1 x5_2).f1) x8_4)) = true := bne_iff_ne.mpr c51
                  obtain rfl := Option.some.inj H
                  have hnb57 := NB105_101.out
                  have hnc57 := NB101_105.out
                  have hnb58 := NB105_102.out
                  have hnc58 := NB102_105.out
                  have hnb59 := NB105_106.out
                  have hnc59 := NB106_105.out
                  obtain ⟨hcz60_0, hcz60_1, hfz60_0, hfz60_1⟩ := cz2 BK105.out
                  try go_wp2
                  replace BK101 := Aside0.mk (blk_drew BK101.out)
                  replace BK102 := Aside0.mk (blk_drew BK102.out)
                  replace BK105 := Aside0.mk (blk_drew BK105.out)
                  replace BK106 := Aside0.mk (blk_drew BK106.out)
                  replace HB := Aside0.mk (below_drew1 HB.out)
                  have p107 : 0 ≤ (x8_4 : Int) := of_decide_eq_true ha
                  have q107 : x8_4 < (((rd_T59 l0_1 x5_2).f1).length : Int) := of_decide_eq_true ha
                  obtain ⟨ad107, e107, hx107_0⟩ := Kd.at_int HR103_1.out x8_4 p107 q107
                  have hw107_0 := hx107_0
                  cases e107
                  replace hx107_0 := (HB.out.cell (World.block_lt_of_cell? w _ hx107_0)).trans hx107_0
                  replace p107 := eq_true p107
                  replace q107 := eq_true q107
                  have p108 : 0 ≤ (x8_4 : Int) := of_decide_eq_true ha
                  have q108 : x8_4 < (((rd_T59 l1_1 x5_2).f1).length : Int) := of_decide_eq_true ha
                  obtain ⟨ad108, e108, hx108_0⟩ := Kd.at_int HR104_1.out x8_4 p108 q108
                  have hw108_0 := hx108_0
                  cases e108
                  replace hx108_0 := (HB.out.cell (World.block_lt_of_cell? w _ hx108_0)).trans hx108_0
                  replace p108 := eq_true p108
                  replace q108 := eq_true q108
                  refine start_ (n := 11) (S := fun w' => w'.cell? ⟨gb105, 0, none⟩ = some (.string ((rd_T59 l0_1 x5_2).f0)) ∧ w'.cell? ⟨gb105, 1, none⟩ = some (.slice (some ad107) ((rd_T59 l0_1 x5_2).f1).length c103_1) ∧ w'.cell? ⟨gb106, 0, none⟩ = some (.string ((rd_T59 l1_1 x5_2).f0)) ∧ w'.cell? ⟨gb106, 1, none⟩ = some (.slice (some ad108) ((rd_T59 l1_1 x5_2).f1).length c104_1) ∧ w'.cell? (ad107.add (x8_4).toNat) = some (.int .i64 (rd ((rd_T59 l0_1 x5_2).f1) x8_4)) ∧ w'.cell? (ad108.add (x8_4).toNat) = some (.int .i64 (rd ((rd_T59 l1_1 x5_2).f1) x8_4))) (ds := []) #[false, false, false, false, false, false, false, false, false, false, false] kr rfl rfl ⟨(blk_cell BK105.out 0).trans rfl, (blk_cell BK105.out 1).trans rfl, (blk_cell BK106.out 0).trans rfl, (blk_cell BK106.out 1).trans rfl, ((HB.out.cell (World.block_lt_of_cell? w _ hw107_0)).trans hw107_0), ((HB.out.cell (World.block_lt_of_cell? w _ hw108_0)).trans hw108_0)⟩ (fun hHeld => ?_); refine with_tabW lodestarref05_Same.tab12 lodestarref05_Same.bits12 (fun HT_ HW_ => ?_)
                  generalize wr.drew = w61 at BK101 BK102 BK105 BK106 HB hx107_0 hx108_0 hHeld ⊢
                  refine pure_ (i := 0) (N := some 71) (v := ?_) (a' := ?_) #[true, false, false, false, false, false, false, false, false, false, false] rfl rfl (any_of HT_.out kr) (fun _ _ _ h => h) (Or.inl ⟨by rfl, ?_⟩) ?_ ?_
                  rotate_left
                  ·exact wl
                  rotate_left
                  ·exact ap
                  refine pure_ (i := 2) (N := some 73) (v := ?_) (a' := ?_) #[true, false, true, false, false, false, false, false, false, false, false] rfl rfl (any_of HT_.out kr) (fun _ _ _ h => h) (Or.inl ⟨by rfl, ?_⟩) ?_ ?_
                  rotate_left
                  ·exact wl
                  rotate_left
                  ·exact ap
                  refine pure_ (i := 5) (N := some 76) (v := ?_) (a' := ?_) #[true, false, true, false, false, true, false, false, false, false, false] rfl rfl (any_of HT_.out kr) (fun _ _ _ h => h) (Or.inl ⟨by rfl, ?_⟩) ?_ ?_
                  rotate_left
                  ·exact wl
                  rotate_left
                  ·exact ap
                  refine pure_ (i := 7) (N := some 78) (v := ?_) (a' := ?_) #[true, false, true, false, false, true, false, true, false, false, false] rfl rfl (any_of HT_.out kr) (fun _ _ _ h => h) (Or.inl ⟨by rfl, ?_⟩) ?_ ?_
                  rotate_left
                  ·exact wl
                  rotate_left
                  ·exact ap
                  refine take_ (i := 1) (N := some 72) (v := ?_) (a' := ?_) #[true, true, true, false, false, true, false, true, false, false, false] rfl rfl (take_ofW HT_.out HW_.out kr) (fun _ _ _ h => h) (Or.inl ⟨by rfl, ?_⟩) hHeld ?_ ?_
                  rotate_left
                  ·rintro w' ⟨s0, s1, s2, s3, s4, s5⟩
                   go_simp
                   exact rl
                  rotate_left
                  ·exact ap
                  refine pure_ (i := 3) (N := some 74) (v := ?_) (a' := ?_) #[true, true, true, true, false, true, false, true, false, false, false] rfl rfl (any_of HT_.out kr) (fun _ _ _ h => h) (Or.inl ⟨by rfl, ?_⟩) ?_ ?_
                  rotate_left
                  ·exact wl
                  rotate_left
                  ·exact ap
                  refine take_ (i := 4) (N := some 75) (v := ?_) (a' := ?_) #[true, true, true, true, true, true, false, true, false, false, false] rfl rfl (take_ofW HT_.out HW_.out kr) (fun _ _ _ h => h) (Or.inl ⟨by rfl, ?_⟩) hHeld ?_ ?_
                  rotate_left
                  ·rintro w' ⟨s0, s1, s2, s3, s4, s5⟩
                   go_simp
                   exact rl
                  rotate_left
                  ·exact ap
                  refine take_ (i := 6) (N := some 77) (v := ?_) (a' := ?_) #[true, true, true, true, true, true, true, true, false, false, false] rfl rfl (take_ofW HT_.out HW_.out kr) (fun _ _ _ h => h) (Or.inl ⟨by rfl, ?_⟩) hHeld ?_ ?_
                  rotate_left
                  ·rintro w' ⟨s0, s1, s2, s3, s4, s5⟩
                   go_simp
                   exact rl
                  rotate_left
                  ·exact ap
                  refine pure_ (i := 8) (N := some 79) (v := ?_) (a' := ?_) #[true, true, true, true, true, true, true, true, true, false, false] rfl rfl (any_of HT_.out kr) (fun _ _ _ h => h) (Or.inl ⟨by rfl, ?_⟩) ?_ ?_
                  rotate_left
                  ·exact wl
                  rotate_left
                  ·exact ap
                  refine take_ (i := 9) (N := some 80) (v := ?_) (a' := ?_) #[true, true, true, true, true, true, true, true, true, true, false] rfl rfl (take_ofW HT_.out HW_.out kr) (fun _ _ _ h => h) (Or.inl ⟨by rfl, ?_⟩) hHeld ?_ ?_
                  rotate_left
                  ·rintro w' ⟨s0, s1, s2, s3, s4, s5⟩
                   go_simp
                   exact rl
                  rotate_left
                  ·exact ap
                  refine pure_ (i := 10) (N := some 81) (v := ?_) (a' := ?_) #[true, true, true, true, true, true, true, true, true, true, true] rfl rfl (any_of HT_.out kr) (fun _ _ _ h => h) (Or.inl ⟨by rfl, ?_⟩) ?_ ?_
                  rotate_left
                  ·exact wl
                  rotate_left
                  ·exact ap
                  refine done_ (done_of HT_.out kr) ?_
                  try go_wp2
                  go_ret
                  exact ⟨er0, bl HB.out⟩
                ·rw [if_neg c50] at H
                 exact absurd H (by simp)
               ·rw [if_neg c49] at H
                exact absurd H (by simp)
              ·rw [if_neg c48] at H
               have c48b0 : decide (x8_4 < (((rd_T59 l0_1 x5_2).f1).length : Int)) = false := decide_eq_false c48
               clear c48
               have H' := Aside0.mk H
               clear H
               have hnb62 := NB105_101.out
               have hnc62 := NB101_105.out
               have hnb63 := NB105_102.out
               have hnc63 := NB102_105.out
               have hnb64 := NB105_106.out
               have hnc64 := NB106_105.out
               obtain ⟨hcz65_0, hcz65_1, hfz65_0, hfz65_1⟩ := cz2 BK105.out
               go_wp2
               go_roundg k4
               case measure => have := HJ2.out; have := HK2.out; have := HJ20.out; have := HK4.out; omega
               case rel => exact ⟨(wrap64 (x5_2 + 1)), hsr, H', ⟨by have := HJ2.out; have := HK2.out; have := HJ20.out; have := HK4.out; omega⟩, ⟨pk BK101.out⟩, ⟨pk BK102.out⟩, ⟨bl HB.out⟩⟩
        ·rw [if_neg c20] at H
         exact absurd H (by simp)
       ·rw [if_neg c19] at H
        exact absurd H (by simp)
      ·rw [if_neg c18] at H
       have c18b0 : decide (x5_2 < (l0_1.length : Int)) = false := decide_eq_false c18
       clear c18
       have H' := Aside0.mk H
       clear H
       have hnb66 := NB101_102.out
       have hnc66 := NB102_101.out
       obtain ⟨hcz67_0, hcz67_1, hcz67_2, hfz67_0, hfz67_1, hfz67_2⟩ := cz3 BK101.out
       go_wp2
       go_loopg [9] k2 (fun kq v9 w' => ∃ (x9_3 : Int), v9 = .int .i64 x9_3 ∧ Aside0 (lodestarref05_Same.l2 kq x9_3 a0_0 l0_1 l0_2 a1_0 l1_1 l1_2 = some r) ∧ Aside0 (kq ≤ k2) ∧ Aside0 (w'.heap[gb101]? = some (.cells #[.int .i64 a0_0, (.slice A0_1 l0_1.length c0_1), (.slice A0_2 l0_2.length c0_2)] 25 (0, 0))) ∧ Aside0 (w'.heap[gb102]? = some (.cells #[.int .i64 a1_0, (.slice A1_1 l1_1.length c1_1), (.slice A1_2 l1_2.length c1_2)] 25 (0, 0))) ∧ Aside0 (Below w.heap.size w w'))
       case atStart => exact ⟨(0), hsr, H', ⟨Nat.le_refl _⟩, ⟨pk BK101.out⟩, ⟨pk BK102.out⟩, ⟨bl HB.out⟩⟩
       case round =>
        clear H'
        try clear c1
        try clear p1
        try clear q1
        try clear hx1
        try clear c2
        try clear p2
        try clear c3
        try clear c4
        try clear c5
        try clear c6
        try clear c6b0
        try clear c6b1
        try clear p6
        try clear c7
        try clear c7b0
        try clear c7b1
        try clear c7b2
        try clear c8
        try clear c10
        try clear p10
        try clear q10
        try clear hx10
        try clear c11
        try clear c14
        try clear c17
        try clear c18
        try clear c18b0
        try clear c19
        try clear c19b0
        try clear c20
        try clear c20b0
        try clear c22
        try clear c32
        try clear c32b0
        try clear c32b1
        try clear c33
        try clear c34
        try clear c35
        try clear c37
        try clear c38
        try clear c40
        try clear c41
        try clear c42
        try clear c44
        try clear c45
        try clear c47
        try clear c48
        try clear c48b0
        try clear c49
        try clear c49b0
        try clear c50
        try clear c50b0
        try clear c51
        try clear c51b0
        try clear c51b1
        try clear c52
        try clear c53
        try clear c54
        try clear c57
        try clear c58
        try clear c59
        try clear c62
        try clear c63
        try clear c64
        try clear p64
        try clear c66
        try clear hcz67_0 hcz67_1 hcz67_2 hfz67_0 hfz67_1 hfz67_2
        try clear hcz65_0 hcz65_1 hfz65_0 hfz65_1
        try clear hcz60_0 hcz60_1 hfz60_0 hfz60_1
        try clear hcz55_0 hcz55_1 hfz55_0 hfz55_1
        try clear hcz46_0 hcz46_1 hfz46_0 hfz46_1
        try clear hcz43_0 hcz43_1 hfz43_0 hfz43_1
        try clear hcz39_0 hcz39_1 hfz39_0 hfz39_1
        try clear hcz36_0 hcz36_1 hfz36_0 hfz36_1
        try clear hcz23_0 hcz23_1 hcz23_2 hfz23_0 hfz23_1 hfz23_2
        try clear hcz16_0 hcz16_1 hcz16_2 hfz16_0 hfz16_1 hfz16_2
        try clear hcz15_0 hcz15_1 hcz15_2 hfz15_0 hfz15_1 hfz15_2
        try clear hcz13_0 hcz13_1 hcz13_2 hfz13_0 hfz13_1 hfz13_2
        try clear hcz12_0 hcz12_1 hcz12_2 hfz12_0 hfz12_1 hfz12_2
        try clear hcz10_0 hcz10_1 hcz10_2 hfz10_0 hfz10_1 hfz10_2
        try clear hcz9_0 hcz9_1 hcz9_2 hfz9_0 hfz9_1 hfz9_2
        try clear hx103_0
        try clear hx103_1
        try clear hx104_0
        try clear hx104_1
        try clear hx107_0
        try clear hx108_0
        try clear p1
        try clear p10
        try clear p103
        try clear p104
        try clear p107
        try clear p108
        try clear p2
        try clear q1
        try clear q10
        try clear q103
        try clear q104
        try clear q107
        try clear q108
        obtain ⟨x9_3, rfl, HA, HK3, BK101, BK102, HB⟩ := hrel
        cases gk with
        | zero => exact absurd HA.out (by simp [lodestarref05_Same.l2])
        | succ k3 =>
         have H := HA.out
         clear HA
         simp only [lodestarref05_Same.l2] at H
         by_cases c68 : x9_3 < (l0_2.length : Int)
         ·rw [if_pos c68] at H
          have c68b0 : decide (x9_3 < (l0_2.length : Int)) = true := decide_eq_true c68
          clear c68
          by_cases c69 : 0 ≤ x9_3
          ·rw [if_pos c69] at H
           have c69b0 : decide (0 ≤ x9_3) = true := decide_eq_true c69
           clear c69
           by_cases c70 : x9_3 < (l1_2.length : Int)
           ·rw [if_pos c70] at H
            have c70b0 : decide (x9_3 < (l1_2.length : Int)) = true := decide_eq_true c70
            clear c70
            by_cases c71 : (!((((rd_T61 l0_2 x9_3).f0).toList) == (((rd_T61 l1_2 x9_3).f0).toList)) || ((!(((rd_T61 l0_2 x9_3).f1.f0) == ((rd_T61 l1_2 x9_3).f1.f0)) || (!(((rd_T61 l0_2 x9_3).f1.f1) == ((rd_T61 l1_2 x9_3).f1.f1)) || (!((((rd_T61 l0_2 x9_3).f1.f2).toList) == (((rd_T61 l1_2 x9_3).f1.f2).toList))))))) = true
            ·rw [if_pos c71] at H
             have c71b0 : (!((((rd_T61 l0_2 x9_3).f0).toList) == (((rd_T61 l1_2 x9_3).f0).toList)) || ((!(((rd_T61 l0_2 x9_3).f1.f0) == ((rd_T61 l1_2 x9_3).f1.f0)) || (!(((rd_T61 l0_2 x9_3).f1.f1) == ((rd_T61 l1_2 x9_3).f1.f1)) || (!((((rd_T61 l0_2 x9_3).f1.f2).toList) == (((rd_T61 l1_2 x9_3).f1.f2).toList))))))) = true := c71
             clear c71
             obtain rfl := Option.some.inj H
             have hnb72 := NB101_102.out
             have hnc72 := NB102_101.out
             obtain ⟨hcz73_0, hcz73_1, hcz73_2, hfz73_0, hfz73_1, hfz73_2⟩ := cz3 BK101.out
             try go_wp2
             replace BK101 := Aside0.mk (blk_drew BK101.out)
             replace BK102 := Aside0.mk (blk_drew BK102.out)
             replace HB := Aside0.mk (below_drew1 HB.out)
             have p109 : 0 ≤ (x9_3 : Int) := of_decide_eq_true ha
             have q109 : x9_3 < (l0_2.length : Int) := of_decide_eq_true ha
             obtain ⟨ad109, e109, hx109_0, hx109_1, hx109_2, hx109_3⟩ := at_T61 HR0_2.out x9_3 p109 q109
             have hw109_3 := hx109_3
             have hw109_2 := hx109_2
             have hw109_1 := hx109_1
             have hw109_0 := hx109_0
             cases e109
             replace hx109_0 := (HB.out.cell (World.block_lt_of_cell? w _ hx109_0)).trans hx109_0
             replace hx109_1 := (HB.out.cell (World.block_lt_of_cell? w _ hx109_1)).trans hx109_1
             replace hx109_2 := (HB.out.cell (World.block_lt_of_cell? w _ hx109_2)).trans hx109_2
             replace hx109_3 := (HB.out.cell (World.block_lt_of_cell? w _ hx109_3)).trans hx109_3
             replace p109 := eq_true p109
             replace q109 := eq_true q109
             have p110 : 0 ≤ (x9_3 : Int) := of_decide_eq_true ha
             have q110 : x9_3 < (l1_2.length : Int) := of_decide_eq_true ha
             obtain ⟨ad110, e110, hx110_0, hx110_1, hx110_2, hx110_3⟩ := at_T61 HR1_2.out x9_3 p110 q110
             have hw110_3 := hx110_3
             have hw110_2 := hx110_2
             have hw110_1 := hx110_1
             have hw110_0 := hx110_0
             cases e110
             replace hx110_0 := (HB.out.cell (World.block_lt_of_cell? w _ hx110_0)).trans hx110_0
             replace hx110_1 := (HB.out.cell (World.block_lt_of_cell? w _ hx110_1)).trans hx110_1
             replace hx110_2 := (HB.out.cell (World.block_lt_of_cell? w _ hx110_2)).trans hx110_2
             replace hx110_3 := (HB.out.cell (World.block_lt_of_cell? w _ hx110_3)).trans hx110_3
             replace p110 := eq_true p110
             replace q110 := eq_true q110
             refine start_ (n := 11) (S := fun w' => w'.cell? ⟨gb101, 0, none⟩ = some (.int .i64 a0_0) ∧ w'.cell? ⟨gb101, 1, none⟩ = some (.slice A0_1 l0_1.length c0_1) ∧ w'.cell? ⟨gb101, 2, none⟩ = some (.slice (some ad109) l0_2.length c0_2) ∧ w'.cell? ⟨gb102, 0, none⟩ = some (.int .i64 a1_0) ∧ w'.cell? ⟨gb102, 1, none⟩ = some (.slice A1_1 l1_1.length c1_1) ∧ w'.cell? ⟨gb102, 2, none⟩ = some (.slice (some ad110) l1_2.length c1_2) ∧ w'.cell? (ad109.add ((x9_3).toNat * 4)) = some (.string ((rd_T61 l0_2 x9_3).f0)) ∧ w'.cell? ⟨(ad109.add ((x9_3).toNat * 4)).block, (ad109.add ((x9_3).toNat * 4)).off + 1, none⟩ = some (.int .i64 ((rd_T61 l0_2 x9_3).f1.f0)) ∧ w'.cell? ⟨(ad109.add ((x9_3).toNat * 4)).block, (ad109.add ((x9_3).toNat * 4)).off + 2, none⟩ = some (.int .i64 ((rd_T61 l0_2 x9_3).f1.f1)) ∧ w'.cell? ⟨(ad109.add ((x9_3).toNat * 4)).block, (ad109.add ((x9_3).toNat * 4)).off + 3, none⟩ = some (.string ((rd_T61 l0_2 x9_3).f1.f2)) ∧ w'.cell? (ad110.add ((x9_3).toNat * 4)) = some (.string ((rd_T61 l1_2 x9_3).f0)) ∧ w'.cell? ⟨(ad110.add ((x9_3).toNat * 4)).block, (ad110.add ((x9_3).toNat * 4)).off + 1, none⟩ = some (.int .i64 ((rd_T61 l1_2 x9_3).f1.f0)) ∧ w'.cell? ⟨(ad110.add ((x9_3).toNat * 4)).block, (ad110.add ((x9_3).toNat * 4)).off + 2, none⟩ = some (.int .i64 ((rd_T61 l1_2 x9_3).f1.f1)) ∧ w'.cell? ⟨(ad110.add ((x9_3).toNat * 4)).block, (ad110.add ((x9_3).toNat * 4)).off + 3, none⟩ = some (.string ((rd_T61 l1_2 x9_3).f1.f2))) (ds := []) #[false, false, false, false, false, false, false, false, false, false, false] kr rfl rfl ⟨(blk_cell BK101.out 0).trans rfl, (blk_cell BK101.out 1).trans rfl, (blk_cell BK101.out 2).trans rfl, (blk_cell BK102.out 0).trans rfl, (blk_cell BK102.out 1).trans rfl, (blk_cell BK102.out 2).trans rfl, ((HB.out.cell (World.block_lt_of_cell? w _ hw109_0)).trans hw109_0), ((HB.out.cell (World.block_lt_of_cell? w _ hw109_1)).trans hw109_1), ((HB.out.cell (World.block_lt_of_cell? w _ hw109_2)).trans hw109_2), ((HB.out.cell (World.block_lt_of_cell? w _ hw109_3)).trans hw109_3), ((HB.out.cell (World.block_lt_of_cell? w _ hw110_0)).trans hw110_0), ((HB.out.cell (World.block_lt_of_cell? w _ hw110_1)).trans hw110_1), ((HB.out.cell (World.block_lt_of_cell? w _ hw110_2)).trans hw110_2), ((HB.out.cell (World.block_lt_of_cell? w _ hw110_3)).trans hw110_3)⟩ (fun hHeld => ?_); refine with_tabW lodestarref05_Same.tab17 lodestarref05_Same.bits17 (fun HT_ HW_ => ?_)
             generalize wr.drew = w74 at BK101 BK102 HB hx109_0 hx109_1 hx109_2 hx109_3 hx110_0 hx110_1 hx110_2 hx110_3 hHeld ⊢
             refine pure_ (i := 0) (N := some 89) (v := ?_) (a' := ?_) #[true, false, false, false, false, false, false, false, false, false, false] rfl rfl (any_of HT_.out kr) (fun _ _ _ h => h) (Or.inl ⟨by rfl, ?_⟩) ?_ ?_
             rotate_left
             ·exact wl
             rotate_left
             ·exact ap
             refine pure_ (i := 2) (N := some 91) (v := ?_) (a' := ?_) #[true, false, true, false, false, false, false, false, false, false, false] rfl rfl (any_of HT_.out kr) (fun _ _ _ h => h) (Or.inl ⟨by rfl, ?_⟩) ?_ ?_
             rotate_left
             ·exact wl
             rotate_left
             ·exact ap
             refine pure_ (i := 5) (N := some 94) (v := ?_) (a' := ?_) #[true, false, true, false, false, true, false, false, false, false, false] rfl rfl (any_of HT_.out kr) (fun _ _ _ h => h) (Or.inl ⟨by rfl, ?_⟩) ?_ ?_
             rotate_left
             ·exact wl
             rotate_left
             ·exact ap
             refine pure_ (i := 7) (N := some 96) (v := ?_) (a' := ?_) #[true, false, true, false, false, true, false, true, false, false, false] rfl rfl (any_of HT_.out kr) (fun _ _ _ h => h) (Or.inl ⟨by rfl, ?_⟩) ?_ ?_
             rotate_left
             ·exact wl
             rotate_left
             ·exact ap
             refine take_ (i := 1) (N := some 90) (v := ?_) (a' := ?_) #[true, true, true, false, false, true, false, true, false, false, false] rfl rfl (take_ofW HT_.out HW_.out kr) (fun _ _ _ h => h) (Or.inl ⟨by rfl, ?_⟩) hHeld ?_ ?_
             rotate_left
             ·rintro w' ⟨s0, s1, s2, s3, s4, s5, s6, s7, s8, s9, s10, s11, s12, s13⟩
              go_simp
              exact rl
             rotate_left
             ·exact ap
             refine pure_ (i := 3) (N := some 92) (v := ?_) (a' := ?_) #[true, true, true, true, false, true, false, true, false, false, false] rfl rfl (any_of HT_.out kr) (fun _ _ _ h => h) (Or.inl ⟨by rfl, ?_⟩) ?_ ?_
             rotate_left
             ·exact wl
             rotate_left
             ·exact ap
             refine take_ (i := 4) (N := some 93) (v := ?_) (a' := ?_) #[true, true, true, true, true, true, false, true, false, false, false] rfl rfl (take_ofW HT_.out HW_.out kr) (fun _ _ _ h => h) (Or.inl ⟨by rfl, ?_⟩) hHeld ?_ ?_
             rotate_left
             ·rintro w' ⟨s0, s1, s2, s3, s4, s5, s6, s7, s8, s9, s10, s11, s12, s13⟩
              go_simp
              exact rl
             rotate_left
             ·exact ap
             refine take_ (i := 6) (N := some 95) (v := ?_) (a' := ?_) #[true, true, true, true, true, true, true, true, false, false, false] rfl rfl (take_ofW HT_.out HW_.out kr) (fun _ _ _ h => h) (Or.inl ⟨by rfl, ?_⟩) hHeld ?_ ?_
             rotate_left
             ·rintro w' ⟨s0, s1, s2, s3, s4, s5, s6, s7, s8, s9, s10, s11, s12, s13⟩
              go_simp
              exact rl
             rotate_left
             ·exact ap
             refine pure_ (i := 8) (N := some 97) (v := ?_) (a' := ?_) #[true, true, true, true, true, true, true, true, true, false, false] rfl rfl (any_of HT_.out kr) (fun _ _ _ h => h) (Or.inl ⟨by rfl, ?_⟩) ?_ ?_
             rotate_left
             ·exact wl
             rotate_left
             ·exact ap
             refine take_ (i := 9) (N := some 98) (v := ?_) (a' := ?_) #[true, true, true, true, true, true, true, true, true, true, false] rfl rfl (take_ofW HT_.out HW_.out kr) (fun _ _ _ h => h) (Or.inl ⟨by rfl, ?_⟩) hHeld ?_ ?_
             rotate_left
             ·rintro w' ⟨s0, s1, s2, s3, s4, s5, s6, s7, s8, s9, s10, s11, s12, s13⟩
              go_simp
              exact rl
             rotate_left
             ·exact ap
             refine pure_ (i := 10) (N := some 99) (v := ?_) (a' := ?_) #[true, true, true, true, true, true, true, true, true, true, true] rfl rfl (any_of HT_.out kr) (fun _ _ _ h => h) (Or.inl ⟨by rfl, ?_⟩) ?_ ?_
             rotate_left
             ·exact wl
             rotate_left
             ·exact ap
             refine done_ (done_of HT_.out kr) ?_
             try go_wp2
             go_ret
             exact ⟨er0, bl HB.out⟩
            ·rw [if_neg c71] at H
             have c71b0 : (!((((rd_T61 l0_2 x9_3).f0).toList) == (((rd_T61 l1_2 x9_3).f0).toList)) || ((!(((rd_T61 l0_2 x9_3).f1.f0) == ((rd_T61 l1_2 x9_3).f1.f0)) || (!(((rd_T61 l0_2 x9_3).f1.f1) == ((rd_T61 l1_2 x9_3).f1.f1)) || (!((((rd_T61 l0_2 x9_3).f1.f2).toList) == (((rd_T61 l1_2 x9_3).f1.f2).toList))))))) = false := by simpa using c71
             clear c71
             have H' := Aside0.mk H
             clear H
             have hnb75 := NB101_102.out
             have hnc75 := NB102_101.out
             obtain ⟨hcz76_0, hcz76_1, hcz76_2, hfz76_0, hfz76_1, hfz76_2⟩ := cz3 BK101.out
             try go_wp2
             replace BK101 := Aside0.mk (blk_drew BK101.out)
             replace BK102 := Aside0.mk (blk_drew BK102.out)
             replace HB := Aside0.mk (below_drew1 HB.out)
             have p109 : 0 ≤ (x9_3 : Int) := of_decide_eq_true ha
             have q109 : x9_3 < (l0_2.length : Int) := of_decide_eq_true ha
             obtain ⟨ad109, e109, hx109_0, hx109_1, hx109_2, hx109_3⟩ := at_T61 HR0_2.out x9_3 p109 q109
             have hw109_3 := hx109_3
             have hw109_2 := hx109_2
             have hw109_1 := hx109_1
             have hw109_0 := hx109_0
             cases e109
             replace hx109_0 := (HB.out.cell (World.block_lt_of_cell? w _ hx109_0)).trans hx109_0
             replace hx109_1 := (HB.out.cell (World.block_lt_of_cell? w _ hx109_1)).trans hx109_1
             replace hx109_2 := (HB.out.cell (World.block_lt_of_cell? w _ hx109_2)).trans hx109_2
             replace hx109_3 := (HB.out.cell (World.block_lt_of_cell? w _ hx109_3)).trans hx109_3
             replace p109 := eq_true p109
             replace q109 := eq_true q109
             have p110 : 0 ≤ (x9_3 : Int) := of_decide_eq_true ha
             have q110 : x9_3 < (l1_2.length : Int) := of_decide_eq_true ha
             obtain ⟨ad110, e110, hx110_0, hx110_1, hx110_2, hx110_3⟩ := at_T61 HR1_2.out x9_3 p110 q110
             have hw110_3 := hx110_3
             have hw110_2 := hx110_2
             have hw110_1 := hx110_1
             have hw110_0 := hx110_0
             cases e110
             replace hx110_0 := (HB.out.cell (World.block_lt_of_cell? w _ hx110_0)).trans hx110_0
             replace hx110_1 := (HB.out.cell (World.block_lt_of_cell? w _ hx110_1)).trans hx110_1
             replace hx110_2 := (HB.out.cell (World.block_lt_of_cell? w _ hx110_2)).trans hx110_2
             replace hx110_3 := (HB.out.cell (World.block_lt_of_cell? w _ hx110_3)).trans hx110_3
             replace p110 := eq_true p110
             replace q110 := eq_true q110
             refine start_ (n := 11) (S := fun w' => w'.cell? ⟨gb101, 0, none⟩ = some (.int .i64 a0_0) ∧ w'.cell? ⟨gb101, 1, none⟩ = some (.slice A0_1 l0_1.length c0_1) ∧ w'.cell? ⟨gb101, 2, none⟩ = some (.slice (some ad109) l0_2.length c0_2) ∧ w'.cell? ⟨gb102, 0, none⟩ = some (.int .i64 a1_0) ∧ w'.cell? ⟨gb102, 1, none⟩ = some (.slice A1_1 l1_1.length c1_1) ∧ w'.cell? ⟨gb102, 2, none⟩ = some (.slice (some ad110) l1_2.length c1_2) ∧ w'.cell? (ad109.add ((x9_3).toNat * 4)) = some (.string ((rd_T61 l0_2 x9_3).f0)) ∧ w'.cell? ⟨(ad109.add ((x9_3).toNat * 4)).block, (ad109.add ((x9_3).toNat * 4)).off + 1, none⟩ = some (.int .i64 ((rd_T61 l0_2 x9_3).f1.f0)) ∧ w'.cell? ⟨(ad109.add ((x9_3).toNat * 4)).block, (ad109.add ((x9_3).toNat * 4)).off + 2, none⟩ = some (.int .i64 ((rd_T61 l0_2 x9_3).f1.f1)) ∧ w'.cell? ⟨(ad109.add ((x9_3).toNat * 4)).block, (ad109.add ((x9_3).toNat * 4)).off + 3, none⟩ = some (.string ((rd_T61 l0_2 x9_3).f1.f2)) ∧ w'.cell? (ad110.add ((x9_3).toNat * 4)) = some (.string ((rd_T61 l1_2 x9_3).f0)) ∧ w'.cell? ⟨(ad110.add ((x9_3).toNat * 4)).block, (ad110.add ((x9_3).toNat * 4)).off + 1, none⟩ = some (.int .i64 ((rd_T61 l1_2 x9_3).f1.f0)) ∧ w'.cell? ⟨(ad110.add ((x9_3).toNat * 4)).block, (ad110.add ((x9_3).toNat * 4)).off + 2, none⟩ = some (.int .i64 ((rd_T61 l1_2 x9_3).f1.f1)) ∧ w'.cell? ⟨(ad110.add ((x9_3).toNat * 4)).block, (ad110.add ((x9_3).toNat * 4)).off + 3, none⟩ = some (.string ((rd_T61 l1_2 x9_3).f1.f2))) (ds := []) #[false, false, false, false, false, false, false, false, false, false, false] kr rfl rfl ⟨(blk_cell BK101.out 0).trans rfl, (blk_cell BK101.out 1).trans rfl, (blk_cell BK101.out 2).trans rfl, (blk_cell BK102.out 0).trans rfl, (blk_cell BK102.out 1).trans rfl, (blk_cell BK102.out 2).trans rfl, ((HB.out.cell (World.block_lt_of_cell? w _ hw109_0)).trans hw109_0), ((HB.out.cell (World.block_lt_of_cell? w _ hw109_1)).trans hw109_1), ((HB.out.cell (World.block_lt_of_cell? w _ hw109_2)).trans hw109_2), ((HB.out.cell (World.block_lt_of_cell? w _ hw109_3)).trans hw109_3), ((HB.out.cell (World.block_lt_of_cell? w _ hw110_0)).trans hw110_0), ((HB.out.cell (World.block_lt_of_cell? w _ hw110_1)).trans hw110_1), ((HB.out.cell (World.block_lt_of_cell? w _ hw110_2)).trans hw110_2), ((HB.out.cell (World.block_lt_of_cell? w _ hw110_3)).trans hw110_3)⟩ (fun hHeld => ?_); refine with_tabW lodestarref05_Same.tab17 lodestarref05_Same.bits17 (fun HT_ HW_ => ?_)
             generalize wr.drew = w77 at BK101 BK102 HB hx109_0 hx109_1 hx109_2 hx109_3 hx110_0 hx110_1 hx110_2 hx110_3 hHeld ⊢
             refine pure_ (i := 0) (N := some 89) (v := ?_) (a' := ?_) #[true, false, false, false, false, false, false, false, false, false, false] rfl rfl (any_of HT_.out kr) (fun _ _ _ h => h) (Or.inl ⟨by rfl, ?_⟩) ?_ ?_
             rotate_left
             ·exact wl
             rotate_left
             ·exact ap
             refine pure_ (i := 2) (N := some 91) (v := ?_) (a' := ?_) #[true, false, true, false, false, false, false, false, false, false, false] rfl rfl (any_of HT_.out kr) (fun _ _ _ h => h) (Or.inl ⟨by rfl, ?_⟩) ?_ ?_
             rotate_left
             ·exact wl
             rotate_left
             ·exact ap
             refine pure_ (i := 5) (N := some 94) (v := ?_) (a' := ?_) #[true, false, true, false, false, true, false, false, false, false, false] rfl rfl (any_of HT_.out kr) (fun _ _ _ h => h) (Or.inl ⟨by rfl, ?_⟩) ?_ ?_
             rotate_left
             ·exact wl
             rotate_left
             ·exact ap
             refine pure_ (i := 7) (N := some 96) (v := ?_) (a' := ?_) #[true, false, true, false, false, true, false, true, false, false, false] rfl rfl (any_of HT_.out kr) (fun _ _ _ h => h) (Or.inl ⟨by rfl, ?_⟩) ?_ ?_
             rotate_left
             ·exact wl
             rotate_left
             ·exact ap
             refine take_ (i := 1) (N := some 90) (v := ?_) (a' := ?_) #[true, true, true, false, false, true, false, true, false, false, false] rfl rfl (take_ofW HT_.out HW_.out kr) (fun _ _ _ h => h) (Or.inl ⟨by rfl, ?_⟩) hHeld ?_ ?_
             rotate_left
             ·rintro w' ⟨s0, s1, s2, s3, s4, s5, s6, s7, s8, s9, s10, s11, s12, s13⟩
              go_simp
              exact rl
             rotate_left
             ·exact ap
             refine pure_ (i := 3) (N := some 92) (v := ?_) (a' := ?_) #[true, true, true, true, false, true, false, true, false, false, false] rfl rfl (any_of HT_.out kr) (fun _ _ _ h => h) (Or.inl ⟨by rfl, ?_⟩) ?_ ?_
             rotate_left
             ·exact wl
             rotate_left
             ·exact ap
             refine take_ (i := 4) (N := some 93) (v := ?_) (a' := ?_) #[true, true, true, true, true, true, false, true, false, false, false] rfl rfl (take_ofW HT_.out HW_.out kr) (fun _ _ _ h => h) (Or.inl ⟨by rfl, ?_⟩) hHeld ?_ ?_
             rotate_left
             ·rintro w' ⟨s0, s1, s2, s3, s4, s5, s6, s7, s8, s9, s10, s11, s12, s13⟩
              go_simp
              exact rl
             rotate_left
             ·exact ap
             refine take_ (i := 6) (N := some 95) (v := ?_) (a' := ?_) #[true, true, true, true, true, true, true, true, false, false, false] rfl rfl (take_ofW HT_.out HW_.out kr) (fun _ _ _ h => h) (Or.inl ⟨by rfl, ?_⟩) hHeld ?_ ?_
             rotate_left
             ·rintro w' ⟨s0, s1, s2, s3, s4, s5, s6, s7, s8, s9, s10, s11, s12, s13⟩
              go_simp
              exact rl
             rotate_left
             ·exact ap
             refine pure_ (i := 8) (N := some 97) (v := ?_) (a' := ?_) #[true, true, true, true, true, true, true, true, true, false, false] rfl rfl (any_of HT_.out kr) (fun _ _ _ h => h) (Or.inl ⟨by rfl, ?_⟩) ?_ ?_
             rotate_left
             ·exact wl
             rotate_left
             ·exact ap
             refine take_ (i := 9) (N := some 98) (v := ?_) (a' := ?_) #[true, true, true, true, true, true, true, true, true, true, false] rfl rfl (take_ofW HT_.out HW_.out kr) (fun _ _ _ h => h) (Or.inl ⟨by rfl, ?_⟩) hHeld ?_ ?_
             rotate_left
             ·rintro w' ⟨s0, s1, s2, s3, s4, s5, s6, s7, s8, s9, s10, s11, s12, s13⟩
              go_simp
              exact rl
             rotate_left
             ·exact ap
             refine pure_ (i := 10) (N := some 99) (v := ?_) (a' := ?_) #[true, true, true, true, true, true, true, true, true, true, true] rfl rfl (any_of HT_.out kr) (fun _ _ _ h => h) (Or.inl ⟨by rfl, ?_⟩) ?_ ?_
             rotate_left
             ·exact wl
             rotate_left
             ·exact ap
             refine done_ (done_of HT_.out kr) ?_
             try go_wp2
             go_roundg k3
             case measure => have := HJ2.out; have := HK2.out; have := HK3.out; omega
             case rel => exact ⟨(wrap64 (x9_3 + 1)), hsr, H', ⟨by have := HJ2.out; have := HK2.out; have := HK3.out; omega⟩, ⟨pk BK101.out⟩, ⟨pk BK102.out⟩, ⟨bl HB.out⟩⟩
           ·rw [if_neg c70] at H
            exact absurd H (by simp)
          ·rw [if_neg c69] at H
           exact absurd H (by simp)
         ·rw [if_neg c68] at H
          have c68b0 : decide (x9_3 < (l0_2.length : Int)) = false := decide_eq_false c68
          clear c68
          obtain rfl := Option.some.inj H
          have hnb78 := NB101_102.out
          have hnc78 := NB102_101.out
          obtain ⟨hcz79_0, hcz79_1, hcz79_2, hfz79_0, hfz79_1, hfz79_2⟩ := cz3 BK101.out
          go_wp2
          go_ret
          exact ⟨er0, bl HB.out⟩

end Go.Proofs.YtbeljekpknpadaaDoor.PPayU
