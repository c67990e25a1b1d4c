-- Written by a program of this session on top of the print: some functions by hand.
import Derived.Test.YtbeljekpknpadaaDoorPPayUx0
import Derived.Test.YtbeljekpknpadaaDoorPPayUx11
namespace Go.Proofs.YtbeljekpknpadaaDoor.PPayU
open Go.RowKit Go.Proofs.YtbeljekpknpadaaDoorW.PrintWords Go.Proofs.YtbeljekpknpadaaDoorW.PrintLast Go.Proofs.YtbeljekpknpadaaDoorW.PrintMore
attribute [local go_sem] max2_int min2_int max_two min_two max_three min_three max_four min_four   -- for this text's walks alone
set_option linter.unusedVariables false
set_option linter.unusedSimpArgs false

/-! ### lodestarref05_shape: function 43 -/
mutual
def lodestarref05_shape.j0 : Nat → Bool → Int → List (S59) → List (S61) → Option (Bool)
 | 0, _, _, _, _ => none
 | k + 1, x32, x314000, x314001, x314002 => if x32 = true then (some false) else (lodestarref05_shape.l0 k ([] : List ByteArray) 0 x314000 x314001 x314002)
def lodestarref05_shape.l0 : Nat → List ByteArray → Int → Int → List (S59) → List (S61) → Option (Bool)
 | 0, _, _, _, _, _ => none
 | k + 1, x3, x5, x314000, x314001, x314002 => if x5 < (x314001.length : Int) then (if 0 ≤ x5 then (if x3.length < 8796093022208 then (lodestarref05_shape.l0 k (x3 ++ [(rd_T59 x314001 x5).f0]) (wrap64 (x5 + 1)) x314000 x314001 x314002) else (none)) else (none)) else (lodestarref05_shape.l1 k x3 ([] : List ByteArray) 0 x314000 x314001 x314002)
def lodestarref05_shape.l1 : Nat → List ByteArray → List ByteArray → Int → Int → List (S59) → List (S61) → Option (Bool)
 | 0, _, _, _, _, _, _ => none
 | k + 1, x3, x4, x6, x314000, x314001, x314002 => if x6 < (x314002.length : Int) then (if 0 ≤ x6 then (if x4.length < 8796093022208 then (lodestarref05_shape.l1 k x3 (x4 ++ [(rd_T61 x314002 x6).f0]) (wrap64 (x6 + 1)) x314000 x314001 x314002) else (none)) else (none)) else ((lodestarref05_Names.f k x3).bind fun t322 => (if t322 = true then ((lodestarref05_Names.f k x4).bind fun t323 => (some t323)) else (some false)))
end
def lodestarref05_shape.f (k : Nat) (a0_0 : Int) (l0_1 : List (S59)) (l0_2 : List (S61)) : Option (Bool) := if a0_0 < 1 then (lodestarref05_shape.j0 k true a0_0 l0_1 l0_2) else (if a0_0 > 4503599627370496 then (lodestarref05_shape.j0 k true a0_0 l0_1 l0_2) else (if (l0_1.length : Int) < 1 then (lodestarref05_shape.j0 k true a0_0 l0_1 l0_2) else (if (l0_1.length : Int) > 4 then (lodestarref05_shape.j0 k true a0_0 l0_1 l0_2) else (lodestarref05_shape.j0 k (decide ((l0_2.length : Int) > 16)) a0_0 l0_1 l0_2))))
theorem lodestarref05_shape.mono_l : ∀ k, (∀ y0 y1 y2 y3, LeO (lodestarref05_shape.j0 k y0 y1 y2 y3) (lodestarref05_shape.j0 (k + 1) y0 y1 y2 y3)) ∧ (∀ y0 y1 y2 y3 y4, LeO (lodestarref05_shape.l0 k y0 y1 y2 y3 y4) (lodestarref05_shape.l0 (k + 1) y0 y1 y2 y3 y4)) ∧ (∀ y0 y1 y2 y3 y4 y5, LeO (lodestarref05_shape.l1 k y0 y1 y2 y3 y4 y5) (lodestarref05_shape.l1 (k + 1) y0 y1 y2 y3 y4 y5))
 | 0 => ⟨fun _ _ _ _ r h => by simp [lodestarref05_shape.j0] at h, fun _ _ _ _ _ r h => by simp [lodestarref05_shape.l0] at h, fun _ _ _ _ _ _ r h => by simp [lodestarref05_shape.l1] at h⟩
 | k + 1 => by
  obtain ⟨ih0, ih1, ih2⟩ := lodestarref05_shape.mono_l k
  refine ⟨?_, ?_, ?_⟩
  all_goals intros
  all_goals first | unfold lodestarref05_shape.j0 | unfold lodestarref05_shape.l0 | unfold lodestarref05_shape.l1
  all_goals repeat' first
   | (with_reducible exact ih0 _ _ _ _)
   | (with_reducible exact ih1 _ _ _ _ _)
   | (with_reducible exact ih2 _ _ _ _ _ _)
   | (with_reducible exact lodestarref05_Names.mono _ _)
   | (with_reducible exact LeO.refl _)
   | (with_reducible exact LeO.none _)
   | (with_reducible refine LeO.ite ?_ ?_)
   | (with_reducible refine LeO.bind ?_ (fun _ => ?_))
   | exact ih0 _ _ _ _
   | exact ih1 _ _ _ _ _
   | exact ih2 _ _ _ _ _ _
   | exact lodestarref05_Names.mono _ _
   | exact LeO.none _
   | refine LeO.ite ?_ ?_
   | refine LeO.bind ?_ (fun _ => ?_)
theorem lodestarref05_shape.mono : ∀ a0 a1 a2 k, LeO (lodestarref05_shape.f k a0 a1 a2) (lodestarref05_shape.f (k + 1) a0 a1 a2) := by
 intro a0 a1 a2 k
 obtain ⟨ih0, ih1, ih2⟩ := lodestarref05_shape.mono_l k
 unfold lodestarref05_shape.f
 repeat' first
   | (with_reducible exact ih0 _ _ _ _)
   | (with_reducible exact ih1 _ _ _ _ _)
   | (with_reducible exact ih2 _ _ _ _ _ _)
   | (with_reducible exact lodestarref05_Names.mono _ _)
   | (with_reducible exact LeO.refl _)
   | (with_reducible exact LeO.none _)
   | (with_reducible refine LeO.ite ?_ ?_)
   | (with_reducible refine LeO.bind ?_ (fun _ => ?_))
   | exact ih0 _ _ _ _
   | exact ih1 _ _ _ _ _
   | exact ih2 _ _ _ _ _ _
   | exact lodestarref05_Names.mono _ _
   | exact LeO.none _
   | refine LeO.ite ?_ ?_
   | refine LeO.bind ?_ (fun _ => ?_)
set_option maxHeartbeats 8000000 in
set_option maxRecDepth 100000 in
theorem lodestarref05_shape.calls (k : Nat) (a0_0 : Int) (A0_1 : Option Addr) (c0_1 : Nat) (l0_1 : List (S59)) (A0_2 : Option Addr) (c0_2 : Nat) (l0_2 : List (S61)) (r : Bool) (w : World) (hr0_1 : Kd.C k59 w A0_1 l0_1.length l0_1) (hc0_1 : l0_1.length ≤ c0_1) (hr0_2 : Kd.C k61 w A0_2 l0_2.length l0_2) (hc0_2 : l0_2.length ≤ c0_2) (h : lodestarref05_shape.f k a0_0 l0_1 l0_2 = some r) :
  Calls Tryd.prog 43 #[.agg #[.int .i64 a0_0, .slice A0_1 l0_1.length c0_1, .slice A0_2 l0_2.length c0_2]] w fun e w' => e = .returned (.bool r) ∧ Below w.heap.size w w' := by
 have hu25 := Tryd.underlying25
 have HR0_1 := Aside0.mk hr0_1
 have HC0_1 := Aside0.mk hc0_1
 clear hr0_1 hc0_1
 have HR0_2 := Aside0.mk hr0_2
 have HC0_2 := Aside0.mk hc0_2
 clear hr0_2 hc0_2
 have HB := Aside0.mk (Below.refl w.heap.size w)
 have H : (if a0_0 < 1 then (lodestarref05_shape.j0 k true a0_0 l0_1 l0_2) else (if a0_0 > 4503599627370496 then (lodestarref05_shape.j0 k true a0_0 l0_1 l0_2) else (if (l0_1.length : Int) < 1 then (lodestarref05_shape.j0 k true a0_0 l0_1 l0_2) else (if (l0_1.length : Int) > 4 then (lodestarref05_shape.j0 k true a0_0 l0_1 l0_2) else (lodestarref05_shape.j0 k (decide ((l0_2.length : Int) > 16)) a0_0 l0_1 l0_2))))) = some r := h
 clear h
 have HC2 := Aside0.mk H
 clear H
 go_enter Tryd.func43, Tryd.ntmps43
 go_upto_region 1 with (first | ((with_reducible refine gate_dst (N := 1) rfl ?_); (try (refine gate_guard (by rfl) ?_; dsimp only)); refine box_event ?hg (N := 1) ?hd (cs := #[.int .i64 a0_0, .slice A0_1 l0_1.length c0_1, .slice A0_2 l0_2.length c0_2]) (t := 25) ?hr ?_; (case hd => rfl); (case hg => rfl); (case hr => first | (go_simp; done) | (go_simp; rfl)); intro gb313 hg w3 hbox hb; have BK313 := Aside0.mk (hbox); have GW313 := Aside0.mk (gs (w := w) hg (bl HB.out)); have GE313 := Aside0.mk (gs (w := w) hg (bl HB.out)); replace HB := Aside0.mk (below_step (bl HB.out) hb); clear hb hbox hg))
 (try simp only [Act.put, List.setIfInBounds_toArray, List.set_cons_zero, List.set_cons_succ])
 go_cut [32] (fun v32 wc => ∃ (kq : Nat) (x32_1 : Bool), v32 = .bool x32_1 ∧ Aside0 (lodestarref05_shape.j0 kq x32_1 a0_0 l0_1 l0_2 = some r) ∧ Aside0 (kq ≤ k) ∧ Aside0 (wc.heap[gb313]? = some (.cells #[.int .i64 a0_0, (.slice A0_1 l0_1.length c0_1), (.slice A0_2 l0_2.length c0_2)] 25 (0, 0))) ∧ Aside0 (Below w.heap.size w wc))
 case first =>
  have H := HC2.out
  clear HC2
  by_cases c4 : a0_0 < 1
  ·rw [if_pos c4] at H
   have c4b0 : decide (a0_0 < 1) = true := decide_eq_true c4
   clear c4
   (first | rw [c4b0] | (simp only [i64_w, i32_w]; rw [c4b0]) | skip)
   have H' := Aside0.mk H
   clear H
   obtain ⟨hcz5_0, hcz5_1, hcz5_2, hfz5_0, hfz5_1, hfz5_2⟩ := cz3 BK313.out
   go_wp2
   go_meet
   case rel => exact ⟨_, (true), hsr, H', ⟨by first | omega | exact Nat.le_refl _⟩, ⟨pk BK313.out⟩, ⟨bl HB.out⟩⟩
  ·rw [if_neg c4] at H
   have c4b0 : decide (a0_0 < 1) = false := decide_eq_false c4
   clear c4
   (first | rw [c4b0] | (simp only [i64_w, i32_w]; rw [c4b0]) | skip)
   by_cases c6 : a0_0 > 4503599627370496
   ·rw [if_pos c6] at H
    have c6b0 : decide (4503599627370496 < a0_0) = true := decide_eq_true c6
    clear c6
    have H' := Aside0.mk H
    clear H
    obtain ⟨hcz7_0, hcz7_1, hcz7_2, hfz7_0, hfz7_1, hfz7_2⟩ := cz3 BK313.out
    go_wp2
    go_meet
    case rel => exact ⟨_, (true), hsr, H', ⟨by first | omega | exact Nat.le_refl _⟩, ⟨pk BK313.out⟩, ⟨bl HB.out⟩⟩
   ·rw [if_neg c6] at H
    have c6b0 : decide (4503599627370496 < a0_0) = false := decide_eq_false c6
    clear c6
    by_cases c8 : (l0_1.length : Int) < 1
    ·rw [if_pos c8] at H
     have c8b0 : decide ((l0_1.length : Int) < 1) = true := decide_eq_true c8
     have c8b1 : decide (l0_1.length < 1) = true := decide_eq_true (by omega)
     clear c8
     have H' := Aside0.mk H
     clear H
     obtain ⟨hcz9_0, hcz9_1, hcz9_2, hfz9_0, hfz9_1, hfz9_2⟩ := cz3 BK313.out
     go_wp2
     go_meet
     case rel => exact ⟨_, (true), hsr, H', ⟨by first | omega | exact Nat.le_refl _⟩, ⟨pk BK313.out⟩, ⟨bl HB.out⟩⟩
    ·rw [if_neg c8] at H
     have c8b0 : decide ((l0_1.length : Int) < 1) = false := decide_eq_false c8
     have c8b1 : decide (l0_1.length < 1) = false := decide_eq_false (by omega)
     clear c8
     by_cases c10 : (l0_1.length : Int) > 4
     ·rw [if_pos c10] at H
      have c10b0 : decide (4 < (l0_1.length : Int)) = true := decide_eq_true c10
      have c10b1 : decide (4 < l0_1.length) = true := decide_eq_true (by omega)
      clear c10
      have H' := Aside0.mk H
      clear H
      obtain ⟨hcz11_0, hcz11_1, hcz11_2, hfz11_0, hfz11_1, hfz11_2⟩ := cz3 BK313.out
      go_wp2
      go_meet
      case rel => exact ⟨_, (true), hsr, H', ⟨by first | omega | exact Nat.le_refl _⟩, ⟨pk BK313.out⟩, ⟨bl HB.out⟩⟩
     ·rw [if_neg c10] at H
      have c10b0 : decide (4 < (l0_1.length : Int)) = false := decide_eq_false c10
      have c10b1 : decide (4 < l0_1.length) = false := decide_eq_false (by omega)
      clear c10
      have H' := Aside0.mk H
      clear H
      obtain ⟨hcz12_0, hcz12_1, hcz12_2, hfz12_0, hfz12_1, hfz12_2⟩ := cz3 BK313.out
      go_wp2
      go_meet
      case rel => exact ⟨_, (decide ((l0_2.length : Int) > 16)), hsr, H', ⟨by first | omega | exact Nat.le_refl _⟩, ⟨pk BK313.out⟩, ⟨bl HB.out⟩⟩
 case rest =>
  clear HC2
  try clear c1
  try clear p2
  try clear c4
  try clear c4b0
  try clear c6
  try clear c6b0
  try clear c8
  try clear c8b0
  try clear c8b1
  try clear c10
  try clear c10b0
  try clear c10b1
  try clear hcz12_0 hcz12_1 hcz12_2 hfz12_0 hfz12_1 hfz12_2
  try clear hcz11_0 hcz11_1 hcz11_2 hfz11_0 hfz11_1 hfz11_2
  try clear hcz9_0 hcz9_1 hcz9_2 hfz9_0 hfz9_1 hfz9_2
  try clear hcz7_0 hcz7_1 hcz7_2 hfz7_0 hfz7_1 hfz7_2
  try clear hcz5_0 hcz5_1 hcz5_2 hfz5_0 hfz5_1 hfz5_2
  obtain ⟨kq, x32_1, rfl, HA, HJ1, BK313, HB⟩ := hcut
  cases kq with
  | zero => exact absurd HA.out (by simp [lodestarref05_shape.j0])
  | succ kj1 =>
   have H := HA.out
   clear HA
   simp only [lodestarref05_shape.j0] at H
   by_cases c13 : x32_1 = true
   ·subst c13
    have H1 : (some false) = some r := by rw [if_pos rfl] at H; exact H
    clear H
    have H := H1
    clear H1
    obtain rfl := Option.some.inj H
    go_wp2
    go_ret
    exact ⟨er0, bl HB.out⟩
   ·replace c13 := Bool.eq_false_iff.mpr c13
    subst c13
    have H1 : (lodestarref05_shape.l0 kj1 ([] : List ByteArray) 0 a0_0 l0_1 l0_2) = some r := by rw [if_neg (show ¬ (false = true) by decide)] at H; exact H
    clear H
    have H := H1
    clear H1
    have H' := Aside0.mk H
    clear H
    go_wp2
    go_loopg [3, 5] kj1 (fun kq v3 v5 w' => ∃ (x3_2 : List ByteArray) (x5_2 : Int), v5 = .int .i64 x5_2 ∧ Aside0 (lodestarref05_shape.l0 kq x3_2 x5_2 a0_0 l0_1 l0_2 = some r) ∧ Aside0 (kq ≤ kj1) ∧ Aside0 (Kd.R Kd.string 9 w' w.heap.size (fun _ => True) v3 x3_2) ∧ Aside0 (w'.heap[gb313]? = some (.cells #[.int .i64 a0_0, (.slice A0_1 l0_1.length c0_1), (.slice A0_2 l0_2.length c0_2)] 25 (0, 0))) ∧ Aside0 (Below w.heap.size w w'))
    case atStart => exact ⟨(([] : List ByteArray)), (0), hsr, H', ⟨Nat.le_refl _⟩, ⟨by first | exact Kd.R_nil _ _ _ _ _ | exact Kd.N_nil _ _ _ _ _ | exact Kd.V_nil _ _ _ _ _ | exact Kd.Q_nil _ _ _ _ _ | exact Kd.S_nil _ _ _ _ _⟩, ⟨pk BK313.out⟩, ⟨bl HB.out⟩⟩
    case round =>
     clear H'
     try clear c1
     try clear p2
     try clear c4
     try clear c4b0
     try clear c6
     try clear c6b0
     try clear c8
     try clear c8b0
     try clear c8b1
     try clear c10
     try clear c10b0
     try clear c10b1
     try clear c13
     try clear hcz12_0 hcz12_1 hcz12_2 hfz12_0 hfz12_1 hfz12_2
     try clear hcz11_0 hcz11_1 hcz11_2 hfz11_0 hfz11_1 hfz11_2
     try clear hcz9_0 hcz9_1 hcz9_2 hfz9_0 hfz9_1 hfz9_2
     try clear hcz7_0 hcz7_1 hcz7_2 hfz7_0 hfz7_1 hfz7_2
     try clear hcz5_0 hcz5_1 hcz5_2 hfz5_0 hfz5_1 hfz5_2
     try clear p2
     obtain ⟨x3_2, x5_2, rfl, HA, HK2, HO_3, BK313, HB⟩ := hrel
     cases gk with
     | zero => exact absurd HA.out (by simp [lodestarref05_shape.l0])
     | succ k2 =>
      have H := HA.out
      clear HA
      simp only [lodestarref05_shape.l0] at H
      by_cases c14 : x5_2 < (l0_1.length : Int)
      ·rw [if_pos c14] at H
       have c14b0 : decide (x5_2 < (l0_1.length : Int)) = true := decide_eq_true c14
       clear c14
       by_cases c15 : 0 ≤ x5_2
       ·rw [if_pos c15] at H
        have c15b0 : decide (0 ≤ x5_2) = true := decide_eq_true c15
        clear c15
        by_cases c16 : x3_2.length < 8796093022208
        ·rw [if_pos c16] at H
         have LMc16 := Aside0.mk c16
         clear c16
         obtain ⟨y315, hy315⟩ : ∃ y_ : List ByteArray, y_ = (x3_2 ++ [(rd_T59 l0_1 x5_2).f0]) := ⟨_, rfl⟩
         replace H : (lodestarref05_shape.l0 k2 y315 (wrap64 (x5_2 + 1)) a0_0 l0_1 l0_2) = some r := by first | (rw [hy315]; with_reducible exact H) | (have H2_ := (Option.bind_some _ _).symm.trans H; rw [hy315]; with_reducible exact H2_) | (have H2_ := (Option.bind_some _ _).symm.trans H; with_reducible exact H2_) | with_reducible exact H | (rw [hy315]; exact H) | exact H
         have Ny315 := Aside0.mk hy315
         clear hy315
         have H' := Aside0.mk H
         clear H
         obtain ⟨hcz17_0, hcz17_1, hcz17_2, hfz17_0, hfz17_1, hfz17_2⟩ := cz3 BK313.out
         have p314 : 0 ≤ (x5_2 : Int) := of_decide_eq_true ha
         have q314 : x5_2 < (l0_1.length : Int) := of_decide_eq_true ha
         obtain ⟨ad314, A314_1, c314_1, e314, hx314_0, hx314_1, hl314_1, hi314_1⟩ := at_T59 HR0_1.out x5_2 p314 q314
         cases e314
         replace hx314_0 := (HB.out.cell (World.block_lt_of_cell? w _ hx314_0)).trans hx314_0
         replace hx314_1 := (HB.out.cell (World.block_lt_of_cell? w _ hx314_1)).trans hx314_1
         have HR314_1 := Aside0.mk hi314_1
         have HC314_1 := Aside0.mk hl314_1
         clear hi314_1 hl314_1
         replace p314 := eq_true p314
         replace q314 := eq_true q314
         go_wp2_with (first | ((with_reducible refine gate_builtin (b := .append) (xs := #[.tmp 40, .tmp 47]) rfl ?_); (try (refine gate_guard (by rfl) ?_; dsimp only)); at_builtin; refine Kd.R_append Kd.string (w0 := w) w.heap.size rfl (.tmp 40) (.tmp 47) 35 9 (.string ⟨#[]⟩) 16 rfl Tryd.underlying35 info9 rfl (by decide) (by omega) u3 x3_2 ((rd_T59 l0_1 x5_2).f0) [.string ((rd_T59 l0_1 x5_2).f0)] (fun _ => True) (fun _ => False) rfl rfl ?aP (fun _ hk => hk.elim) ?aF ?aO ?aB ?aS ?aL ?_; (case aP => exact rfl); (case aB => exact (bl HB.out)); (case aF => exact (fun _ _ => trivial)); (case aO => exact (pR HO_3.out)); (case aS => exact (below_size (bl HB.out))); (case aL => have := LMc16.out; omega); intro v316 w18 ho hb hg hat; rw [← Ny315.out] at ho; replace BK313 := Aside0.mk (blk_grown (g := gb313) (o := .cells #[.int .i64 a0_0, .slice (some ad314) l0_1.length c0_1, .slice A0_2 l0_2.length c0_2] 25 (0, 0)) (pk BK313.out) hg (Kd.R_ne HO_3.out BK313.out (by decide))); replace HB := Aside0.mk (hb); have HO317 := Aside0.mk (ho); clear HO_3; clear ho hb hg hat))
         go_roundg k2
         case measure => have := HJ1.out; have := HK2.out; omega
         case rel => exact ⟨(y315), (wrap64 (x5_2 + 1)), hsr, H', ⟨by have := HJ1.out; have := HK2.out; omega⟩, ⟨pR HO317.out⟩, ⟨pk BK313.out⟩, ⟨bl HB.out⟩⟩
        ·rw [if_neg c16] at H
         exact absurd H (by simp)
       ·rw [if_neg c15] at H
        exact absurd H (by simp)
      ·rw [if_neg c14] at H
       have c14b0 : decide (x5_2 < (l0_1.length : Int)) = false := decide_eq_false c14
       clear c14
       have H' := Aside0.mk H
       clear H
       obtain ⟨hcz19_0, hcz19_1, hcz19_2, hfz19_0, hfz19_1, hfz19_2⟩ := cz3 BK313.out
       go_wp2
       go_loopg [4, 6] k2 (fun kq v4 v6 w' => ∃ (x4_3 : List ByteArray) (x6_3 : Int), v6 = .int .i64 x6_3 ∧ Aside0 (lodestarref05_shape.l1 kq x3_2 x4_3 x6_3 a0_0 l0_1 l0_2 = some r) ∧ Aside0 (kq ≤ k2) ∧ Aside0 (Kd.R Kd.string 9 w' w.heap.size (fun k_ => some k_ ≠ (v4 : Value).ownBlock) u3 x3_2) ∧ Aside0 (Kd.R Kd.string 9 w' w.heap.size (fun k_ => some k_ ≠ (u3 : Value).ownBlock) v4 x4_3) ∧ Aside0 (w'.heap[gb313]? = some (.cells #[.int .i64 a0_0, (.slice A0_1 l0_1.length c0_1), (.slice A0_2 l0_2.length c0_2)] 25 (0, 0))) ∧ Aside0 (Below w.heap.size w w'))
       case atStart => exact ⟨(([] : List ByteArray)), (0), hsr, H', ⟨Nat.le_refl _⟩, ⟨by (with_reducible repeat (first | apply Kd.R_alloc | apply Kd.R_drewN | apply Kd.R_drew)); exact Kd.R_mono HO_3.out (fun _ hk => (by simp [Value.ownBlock]))⟩, ⟨by first | exact Kd.R_nil _ _ _ _ _ | exact Kd.N_nil _ _ _ _ _ | exact Kd.V_nil _ _ _ _ _ | exact Kd.Q_nil _ _ _ _ _ | exact Kd.S_nil _ _ _ _ _⟩, ⟨pk BK313.out⟩, ⟨bl HB.out⟩⟩
       case round =>
        clear H'
        try clear c1
        try clear p2
        try clear c3
        try clear p3
        try clear q3
        try clear hx3
        try clear c4
        try clear c4b0
        try clear c6
        try clear c6b0
        try clear p6
        try clear c8
        try clear c8b0
        try clear c8b1
        try clear c10
        try clear c10b0
        try clear c10b1
        try clear c13
        try clear c14
        try clear c14b0
        try clear c15
        try clear c15b0
        try clear c16
        try clear hcz19_0 hcz19_1 hcz19_2 hfz19_0 hfz19_1 hfz19_2
        try clear hcz17_0 hcz17_1 hcz17_2 hfz17_0 hfz17_1 hfz17_2
        try clear hcz12_0 hcz12_1 hcz12_2 hfz12_0 hfz12_1 hfz12_2
        try clear hcz11_0 hcz11_1 hcz11_2 hfz11_0 hfz11_1 hfz11_2
        try clear hcz9_0 hcz9_1 hcz9_2 hfz9_0 hfz9_1 hfz9_2
        try clear hcz7_0 hcz7_1 hcz7_2 hfz7_0 hfz7_1 hfz7_2
        try clear hcz5_0 hcz5_1 hcz5_2 hfz5_0 hfz5_1 hfz5_2
        try clear hx314_0
        try clear hx314_1
        try clear p2
        try clear p314
        try clear q314
        obtain ⟨x4_3, x6_3, rfl, HA, HK3, HO_3, HO_4, BK313, HB⟩ := hrel
        cases gk with
        | zero => exact absurd HA.out (by simp [lodestarref05_shape.l1])
        | succ k3 =>
         have H := HA.out
         clear HA
         simp only [lodestarref05_shape.l1] at H
         by_cases c20 : x6_3 < (l0_2.length : Int)
         ·rw [if_pos c20] at H
          have c20b0 : decide (x6_3 < (l0_2.length : Int)) = true := decide_eq_true c20
          clear c20
          by_cases c21 : 0 ≤ x6_3
          ·rw [if_pos c21] at H
           have c21b0 : decide (0 ≤ x6_3) = true := decide_eq_true c21
           clear c21
           by_cases c22 : x4_3.length < 8796093022208
           ·rw [if_pos c22] at H
            have LMc22 := Aside0.mk c22
            clear c22
            obtain ⟨y319, hy319⟩ : ∃ y_ : List ByteArray, y_ = (x4_3 ++ [(rd_T61 l0_2 x6_3).f0]) := ⟨_, rfl⟩
            replace H : (lodestarref05_shape.l1 k3 x3_2 y319 (wrap64 (x6_3 + 1)) a0_0 l0_1 l0_2) = some r := by first | (rw [hy319]; with_reducible exact H) | (have H2_ := (Option.bind_some _ _).symm.trans H; rw [hy319]; with_reducible exact H2_) | (have H2_ := (Option.bind_some _ _).symm.trans H; with_reducible exact H2_) | with_reducible exact H | (rw [hy319]; exact H) | exact H
            have Ny319 := Aside0.mk hy319
            clear hy319
            have H' := Aside0.mk H
            clear H
            obtain ⟨hcz23_0, hcz23_1, hcz23_2, hfz23_0, hfz23_1, hfz23_2⟩ := cz3 BK313.out
            have p318 : 0 ≤ (x6_3 : Int) := of_decide_eq_true ha
            have q318 : x6_3 < (l0_2.length : Int) := of_decide_eq_true ha
            obtain ⟨ad318, e318, hx318_0, hx318_1, hx318_2, hx318_3⟩ := at_T61 HR0_2.out x6_3 p318 q318
            cases e318
            replace hx318_0 := (HB.out.cell (World.block_lt_of_cell? w _ hx318_0)).trans hx318_0
            replace hx318_1 := (HB.out.cell (World.block_lt_of_cell? w _ hx318_1)).trans hx318_1
            replace hx318_2 := (HB.out.cell (World.block_lt_of_cell? w _ hx318_2)).trans hx318_2
            replace hx318_3 := (HB.out.cell (World.block_lt_of_cell? w _ hx318_3)).trans hx318_3
            replace p318 := eq_true p318
            replace q318 := eq_true q318
            go_wp2_with (first | ((with_reducible refine gate_builtin (b := .append) (xs := #[.tmp 56, .tmp 63]) rfl ?_); (try (refine gate_guard (by rfl) ?_; dsimp only)); at_builtin; refine Kd.R_append Kd.string (w0 := w) w.heap.size rfl (.tmp 56) (.tmp 63) 35 9 (.string ⟨#[]⟩) 16 rfl Tryd.underlying35 info9 rfl (by decide) (by omega) u4 x4_3 ((rd_T61 l0_2 x6_3).f0) [.string ((rd_T61 l0_2 x6_3).f0)] (fun k_ => some k_ ≠ (u3 : Value).ownBlock) (fun _ => False) rfl rfl ?aP (fun _ hk => hk.elim) ?aF ?aO ?aB ?aS ?aL ?_; (case aP => exact rfl); (case aB => exact (bl HB.out)); (case aF => exact (fun k_ hk => Kd.fresh' (Kd.R_lt (pR HO_3.out)) k_ hk)); (case aO => exact (pR HO_4.out)); (case aS => exact (below_size (bl HB.out))); (case aL => have := LMc22.out; omega); intro v320 w24 ho hb hg hat; rw [← Ny319.out] at ho; replace HO_3 := Aside0.mk (Kd.R_after (ok := (fun _ => True)) (by (with_reducible repeat (first | apply Kd.R_alloc | apply Kd.R_drewN | apply Kd.R_drew)); exact Kd.R_mono HO_3.out (fun _ hk => ⟨trivial, hk⟩)) hg hat); replace BK313 := Aside0.mk (blk_grown (g := gb313) (o := .cells #[.int .i64 a0_0, .slice A0_1 l0_1.length c0_1, .slice (some ad318) l0_2.length c0_2] 25 (0, 0)) (pk BK313.out) hg (Kd.R_ne HO_4.out BK313.out (by decide))); replace HB := Aside0.mk (hb); have HO321 := Aside0.mk (ho); clear HO_4; clear ho hb hg hat))
            go_roundg k3
            case measure => have := HJ1.out; have := HK2.out; have := HK3.out; omega
            case rel => exact ⟨(y319), (wrap64 (x6_3 + 1)), hsr, H', ⟨by have := HJ1.out; have := HK2.out; have := HK3.out; omega⟩, ⟨by (with_reducible repeat (first | apply Kd.R_alloc | apply Kd.R_drewN | apply Kd.R_drew)); exact Kd.R_mono HO_3.out (fun _ hk => hk.2)⟩, ⟨pR HO321.out⟩, ⟨pk BK313.out⟩, ⟨bl HB.out⟩⟩
           ·rw [if_neg c22] at H
            exact absurd H (by simp)
          ·rw [if_neg c21] at H
           exact absurd H (by simp)
         ·rw [if_neg c20] at H
          have c20b0 : decide (x6_3 < (l0_2.length : Int)) = false := decide_eq_false c20
          clear c20
          replace H := Option.bind_eq_some_iff.mp H
          obtain ⟨t322, A250, H⟩ := H
          replace H : (if t322 = true then ((lodestarref05_Names.f k3 x4_3).bind fun t323 => (some t323)) else (some false)) = some r := H
          have A25 := Aside0.mk A250
          clear A250
          by_cases c26 : t322 = true
          ·subst c26
           have H1 : ((lodestarref05_Names.f k3 x4_3).bind fun t323 => (some t323)) = some r := by rw [if_pos rfl] at H; exact H
           clear H
           have H := H1
           clear H1
           replace H := Option.bind_eq_some_iff.mp H
           obtain ⟨t323, A270, H⟩ := H
           replace H : (some t323) = some r := H
           have A27 := Aside0.mk A270
           clear A270
           obtain rfl := Option.some.inj H
           obtain ⟨hcz28_0, hcz28_1, hcz28_2, hfz28_0, hfz28_1, hfz28_2⟩ := cz3 BK313.out
           obtain ⟨Ao29, co29, eo29⟩ := Kd.R_slice HO_3.out
           subst eo29
           go_wp2_with (first | ((with_reducible refine gate_callee (f := 51) rfl ?_); refine goesL_ (some 66) rfl rfl Tryd.func51 kr rfl #[.slice Ao29 x3_2.length co29] rfl ga ?_; (with_reducible refine (lodestarref05_Names.calls k3 _ _ x3_2 true _ ?side1 ?side2 A25.out).mono ?_); (case side1 => repeat (first | exact (Kd.R_reads' HO_3.out).2.2 | (with_reducible refine Kd.C_alloc ?_ _) | (with_reducible refine Kd.C_drewN ?_ _) | (with_reducible refine Kd.C_drew ?_))); (case side2 => exact (Kd.R_reads' HO_3.out).2.1); rintro e w' ⟨rfl, ⟨nd, rfl⟩⟩; refine ⟨_, rfl, ?_⟩; obtain ⟨Ao30, co30, eo30⟩ := Kd.R_slice HO_4.out; subst eo30) | (go_at_call 51; (with_reducible refine (lodestarref05_Names.calls k3 _ _ x4_3 t323 _ ?side1 ?side2 A27.out).mono ?_); (case side1 => repeat (first | exact (Kd.R_reads' HO_4.out).2.2 | (with_reducible refine Kd.C_alloc ?_ _) | (with_reducible refine Kd.C_drewN ?_ _) | (with_reducible refine Kd.C_drew ?_))); (case side2 => exact (Kd.R_reads' HO_4.out).2.1); rintro e w' ⟨rfl, ⟨nd, rfl⟩⟩))
           go_ret
           exact ⟨er0, bl HB.out⟩
          ·replace c26 := Bool.eq_false_iff.mpr c26
           subst c26
           have H1 : (some false) = some r := by rw [if_neg (show ¬ (false = true) by decide)] at H; exact H
           clear H
           have H := H1
           clear H1
           obtain rfl := Option.some.inj H
           obtain ⟨hcz31_0, hcz31_1, hcz31_2, hfz31_0, hfz31_1, hfz31_2⟩ := cz3 BK313.out
           obtain ⟨Ao32, co32, eo32⟩ := Kd.R_slice HO_3.out
           subst eo32
           go_wp2_with (first | ((with_reducible refine gate_callee (f := 51) rfl ?_); refine goesL_ (some 66) rfl rfl Tryd.func51 kr rfl #[.slice Ao32 x3_2.length co32] rfl ga ?_; (with_reducible refine (lodestarref05_Names.calls k3 _ _ x3_2 false _ ?side1 ?side2 A25.out).mono ?_); (case side1 => repeat (first | exact (Kd.R_reads' HO_3.out).2.2 | (with_reducible refine Kd.C_alloc ?_ _) | (with_reducible refine Kd.C_drewN ?_ _) | (with_reducible refine Kd.C_drew ?_))); (case side2 => exact (Kd.R_reads' HO_3.out).2.1); rintro e w' ⟨rfl, ⟨nd, rfl⟩⟩; refine ⟨_, rfl, ?_⟩))
           go_ret
           exact ⟨er0, bl HB.out⟩

/-! ### lodestarref05_Range: function 44 -/
def lodestarref05_Range.l0 : Nat → List Int → Int → Option (Bool)
 | 0, _, _ => none
 | k + 1, x0, x3 => if x3 < (x0.length : Int) then (if 0 ≤ x3 then (if (rd x0 x3) < (-32768) then (some false) else (if (rd x0 x3) > 32767 then (some false) else (lodestarref05_Range.l0 k x0 (wrap64 (x3 + 1))))) else (none)) else (some true)
def lodestarref05_Range.f (k : Nat) (l0 : List Int) : Option (Bool) := lodestarref05_Range.l0 k l0 0
theorem lodestarref05_Range.mono_l : ∀ k, (∀ y0 y1, LeO (lodestarref05_Range.l0 k y0 y1) (lodestarref05_Range.l0 (k + 1) y0 y1))
 | 0 => fun _ _ r h => by simp [lodestarref05_Range.l0] at h
 | k + 1 => by
  have ih0 := lodestarref05_Range.mono_l k
  ·intro y0 y1
   unfold lodestarref05_Range.l0
   repeat' first
   | (with_reducible exact ih0 _ _)
   | (with_reducible exact LeO.refl _)
   | (with_reducible exact LeO.none _)
   | (with_reducible refine LeO.ite ?_ ?_)
   | (with_reducible refine LeO.bind ?_ (fun _ => ?_))
   | exact ih0 _ _
   | exact LeO.none _
   | refine LeO.ite ?_ ?_
   | refine LeO.bind ?_ (fun _ => ?_)
theorem lodestarref05_Range.mono : ∀ a0 k, LeO (lodestarref05_Range.f k a0) (lodestarref05_Range.f (k + 1) a0) := by
 intro a0 k
 have ih0 := lodestarref05_Range.mono_l k
 unfold lodestarref05_Range.f
 repeat' first
   | (with_reducible exact ih0 _ _)
   | (with_reducible exact LeO.refl _)
   | (with_reducible exact LeO.none _)
   | (with_reducible refine LeO.ite ?_ ?_)
   | (with_reducible refine LeO.bind ?_ (fun _ => ?_))
   | exact ih0 _ _
   | exact LeO.none _
   | refine LeO.ite ?_ ?_
   | refine LeO.bind ?_ (fun _ => ?_)
set_option maxHeartbeats 8000000 in
set_option maxRecDepth 100000 in
theorem lodestarref05_Range.calls (k : Nat) (A0 : Option Addr) (c0 : Nat) (l0 : List Int) (r : Bool) (w : World) (hr0 : Kd.C (Kd.int .i64) w A0 l0.length l0) (hc0 : l0.length ≤ c0) (h : lodestarref05_Range.f k l0 = some r) :
  Calls Tryd.prog 44 #[.slice A0 l0.length c0] w fun e w' => e = .returned (.bool r) ∧ Drawn0 w w' := by
 have HR0 := Aside0.mk hr0
 have HC0 := Aside0.mk hc0
 clear hr0 hc0
 have H : (lodestarref05_Range.l0 k l0 0) = some r := h
 clear h
 have H' := Aside0.mk H
 clear H
 go_enter Tryd.func44, Tryd.ntmps44
 go_wp2
 go_loopg [3] k (fun kq v3 w' => ∃ (x3_1 : Int), v3 = .int .i64 x3_1 ∧ Aside0 (lodestarref05_Range.l0 kq l0 x3_1 = some r) ∧ Aside0 (kq ≤ k) ∧ Drawn0 w w')
 case atStart => exact ⟨(0), hsr, H', ⟨Nat.le_refl _⟩, by repeat (first | exact Drawn0.refl _ | apply Drawn0.step)⟩
 case round =>
  clear H'
  obtain ⟨x3_1, rfl, HA, HK1, ⟨m1, rfl⟩⟩ := hrel
  cases gk with
  | zero => exact absurd HA.out (by simp [lodestarref05_Range.l0])
  | succ k1 =>
   have H := HA.out
   clear HA
   simp only [lodestarref05_Range.l0] at H
   by_cases c2 : x3_1 < (l0.length : Int)
   ·rw [if_pos c2] at H
    have c2b0 : decide (x3_1 < (l0.length : Int)) = true := decide_eq_true c2
    clear c2
    by_cases c3 : 0 ≤ x3_1
    ·rw [if_pos c3] at H
     have c3b0 : decide (0 ≤ x3_1) = true := decide_eq_true c3
     clear c3
     by_cases c4 : (rd l0 x3_1) < (-32768)
     ·rw [if_pos c4] at H
      have c4b0 : decide ((rd l0 x3_1) < (-32768)) = true := decide_eq_true c4
      clear c4
      obtain rfl := Option.some.inj H
      have p324 : 0 ≤ (x3_1 : Int) := of_decide_eq_true ha
      have q324 : x3_1 < (l0.length : Int) := of_decide_eq_true ha
      obtain ⟨ad324, e324, hx324_0⟩ := Kd.at_int HR0.out x3_1 p324 q324
      cases e324
      replace p324 := eq_true p324
      replace q324 := eq_true q324
      go_wp2
      go_ret
      exact ⟨by first | rfl | (simp; done) | (simp [*]; done), by repeat (first | exact Drawn0.refl _ | apply Drawn0.step)⟩
     ·rw [if_neg c4] at H
      have c4b0 : decide ((rd l0 x3_1) < (-32768)) = false := decide_eq_false c4
      clear c4
      by_cases c5 : (rd l0 x3_1) > 32767
      ·rw [if_pos c5] at H
       have c5b0 : decide (32767 < (rd l0 x3_1)) = true := decide_eq_true c5
       clear c5
       obtain rfl := Option.some.inj H
       have p324 : 0 ≤ (x3_1 : Int) := of_decide_eq_true ha
       have q324 : x3_1 < (l0.length : Int) := of_decide_eq_true ha
       obtain ⟨ad324, e324, hx324_0⟩ := Kd.at_int HR0.out x3_1 p324 q324
       cases e324
       replace p324 := eq_true p324
       replace q324 := eq_true q324
       have p325 : 0 ≤ (x3_1 : Int) := of_decide_eq_true ha
       have q325 : x3_1 < (l0.length : Int) := of_decide_eq_true ha
       obtain ⟨ad325, e325, hx325_0⟩ := Kd.at_int HR0.out x3_1 p325 q325
       obtain rfl : ad324 = ad325 := (by injection e325)
       replace p325 := eq_true p325
       replace q325 := eq_true q325
       go_wp2
       go_ret
       exact ⟨by first | rfl | (simp; done) | (simp [*]; done), by repeat (first | exact Drawn0.refl _ | apply Drawn0.step)⟩
      ·rw [if_neg c5] at H
       have c5b0 : decide (32767 < (rd l0 x3_1)) = false := decide_eq_false c5
       clear c5
       have H' := Aside0.mk H
       clear H
       have p324 : 0 ≤ (x3_1 : Int) := of_decide_eq_true ha
       have q324 : x3_1 < (l0.length : Int) := of_decide_eq_true ha
       obtain ⟨ad324, e324, hx324_0⟩ := Kd.at_int HR0.out x3_1 p324 q324
       cases e324
       replace p324 := eq_true p324
       replace q324 := eq_true q324
       have p325 : 0 ≤ (x3_1 : Int) := of_decide_eq_true ha
       have q325 : x3_1 < (l0.length : Int) := of_decide_eq_true ha
       obtain ⟨ad325, e325, hx325_0⟩ := Kd.at_int HR0.out x3_1 p325 q325
       obtain rfl : ad324 = ad325 := (by injection e325)
       replace p325 := eq_true p325
       replace q325 := eq_true q325
       go_wp2
       go_roundg k1
       case measure => have := HK1.out; omega
       case rel => exact ⟨(wrap64 (x3_1 + 1)), hsr, H', ⟨by have := HK1.out; omega⟩, by repeat (first | exact Drawn0.refl _ | apply Drawn0.step)⟩
    ·rw [if_neg c3] at H
     exact absurd H (by simp)
   ·rw [if_neg c2] at H
    have c2b0 : decide (x3_1 < (l0.length : Int)) = false := decide_eq_false c2
    clear c2
    obtain rfl := Option.some.inj H
    go_wp2
    go_ret
    exact ⟨by first | rfl | (simp; done) | (simp [*]; done), by repeat (first | exact Drawn0.refl _ | apply Drawn0.step)⟩

end Go.Proofs.YtbeljekpknpadaaDoor.PPayU
