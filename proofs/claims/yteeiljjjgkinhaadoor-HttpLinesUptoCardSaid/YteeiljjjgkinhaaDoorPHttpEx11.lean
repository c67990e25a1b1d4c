-- Written by a program of this session on top of the print: some functions by hand.
import Derived.Test.YteeiljjjgkinhaaDoorPHttpEx0
import Derived.Test.YteeiljjjgkinhaaDoorPHttpEx1
import Derived.Test.YteeiljjjgkinhaaDoorPHttpEx3
import Derived.Test.YteeiljjjgkinhaaDoorPHttpEx9
import Derived.Test.YteeiljjjgkinhaaDoorPHttpEx10
namespace Go.Proofs.YteeiljjjgkinhaaDoor.PHttpE
open Go.RowKit Go.Proofs.YteeiljjjgkinhaaDoorW.PrintWords Go.Proofs.YteeiljjjgkinhaaDoorW.PrintLast Go.Proofs.YteeiljjjgkinhaaDoorW.PrintMore
attribute [local go_sem] max2_int min2_int max_two min_two max_three min_three max_four min_four   -- for this text's walks alone
set_option linter.unusedVariables false
set_option linter.unusedSimpArgs false

attribute [local go_sem high] eqA23
/-! ### lodestarlaw04_HttpLines: function 4 -/
mutual
def lodestarlaw04_HttpLines.j0 : Nat → ByteArray → ByteArray → ByteArray → Bool → ByteArray → ByteArray → ByteArray → Option (Bool)
 | 0, _, _, _, _, _, _, _ => none
 | k + 1, x1, x2, x7, x27, x240000, x240001, x240002 => if x27 = true then ((lodestarlaw04_sure.f k).bind fun t243 => (some t243)) else (lodestarlaw04_HttpLines.l0 k x1 x2 x7 0 x240000 x240001 x240002)
def lodestarlaw04_HttpLines.l0 : Nat → ByteArray → ByteArray → ByteArray → Int → ByteArray → ByteArray → ByteArray → Option (Bool)
 | 0, _, _, _, _, _, _, _ => none
 | k + 1, x1, x2, x7, x9, x240000, x240001, x240002 => if x9 < (x2.size : Int) then (if 0 ≤ x9 then (if (bt x2 x9) < 32 then ((lodestarlaw04_sure.f k).bind fun t244 => (some t244)) else (lodestarlaw04_HttpLines.l0 k x1 x2 x7 (wrap64 (x9 + 1)) x240000 x240001 x240002)) else (none)) else (if (x7.size : Int) < 2 then (some false) else (lodestarlaw04_HttpLines.l1 k x1 x2 x7 0 x240000 x240001 x240002))
def lodestarlaw04_HttpLines.j3 : Nat → ByteArray → ByteArray → ByteArray → Int → ByteArray → ByteArray → ByteArray → Option (Bool)
 | 0, _, _, _, _, _, _, _ => none
 | k + 1, x1, x2, x7, x10, x240000, x240001, x240002 => if 0 ≤ (wrap64 (x10 + 1)) then (if (wrap64 (x10 + 1)) ≤ (x7.size : Int) then (if (x7.extract 0 ((wrap64 (x10 + 1)) : Int).toNat).size + x1.size ≤ 9223372036854775807 then (if ((x7.extract 0 ((wrap64 (x10 + 1)) : Int).toNat) ++ x1).size + 2 ≤ 9223372036854775807 then (if (((x7.extract 0 ((wrap64 (x10 + 1)) : Int).toNat) ++ x1) ++ (⟨#[58, 32]⟩ : ByteArray)).size + x2.size ≤ 9223372036854775807 then (if ((((x7.extract 0 ((wrap64 (x10 + 1)) : Int).toNat) ++ x1) ++ (⟨#[58, 32]⟩ : ByteArray)) ++ x2).size + 2 ≤ 9223372036854775807 then (if (((((x7.extract 0 ((wrap64 (x10 + 1)) : Int).toNat) ++ x1) ++ (⟨#[58, 32]⟩ : ByteArray)) ++ x2) ++ (⟨#[13, 10]⟩ : ByteArray)).size + (x7.extract ((wrap64 (x10 + 1)) : Int).toNat x7.size).size ≤ 9223372036854775807 then (if (wrap64 ((((((((x7.extract 0 ((wrap64 (x10 + 1)) : Int).toNat) ++ x1) ++ (⟨#[58, 32]⟩ : ByteArray)) ++ x2) ++ (⟨#[13, 10]⟩ : ByteArray)) ++ (x7.extract ((wrap64 (x10 + 1)) : Int).toNat x7.size)).size : Int) - (x240002.size : Int))) > 4096 then ((http_Parse.f k ((((((x7.extract 0 ((wrap64 (x10 + 1)) : Int).toNat) ++ x1) ++ (⟨#[58, 32]⟩ : ByteArray)) ++ x2) ++ (⟨#[13, 10]⟩ : ByteArray)) ++ (x7.extract ((wrap64 (x10 + 1)) : Int).toNat x7.size))).bind fun bt245 => (if bt245.2.2.2 = 41 then ((lodestarlaw04_sure.f k).bind fun t250 => (some t250)) else (some false))) else ((http_Parse.f k ((((((x7.extract 0 ((wrap64 (x10 + 1)) : Int).toNat) ++ x1) ++ (⟨#[58, 32]⟩ : ByteArray)) ++ x2) ++ (⟨#[13, 10]⟩ : ByteArray)) ++ (x7.extract ((wrap64 (x10 + 1)) : Int).toNat x7.size))).bind fun bt251 => (if (bt251.1.toList == x240000.toList && (bt251.2.1.toList == x240001.toList && (bt251.2.2.1.toList == x240002.toList))) = true then (if bt251.2.2.2 = 0 then ((lodestarlaw04_sure.f k).bind fun t256 => (some t256)) else (some false)) else (some false)))) else (none)) else (none)) else (none)) else (none)) else (none)) else (none)) else (none)
def lodestarlaw04_HttpLines.l1 : Nat → ByteArray → ByteArray → ByteArray → Int → ByteArray → ByteArray → ByteArray → Option (Bool)
 | 0, _, _, _, _, _, _, _ => none
 | k + 1, x1, x2, x7, x10, x240000, x240001, x240002 => if (wrap64 (x10 + 1)) < (x7.size : Int) then (if 0 ≤ x10 then (if x10 < (x7.size : Int) then (if (bt x7 x10) = 10 then (lodestarlaw04_HttpLines.j3 k x1 x2 x7 x10 x240000 x240001 x240002) else (lodestarlaw04_HttpLines.l1 k x1 x2 x7 (wrap64 (x10 + 1)) x240000 x240001 x240002)) else (none)) else (none)) else (lodestarlaw04_HttpLines.j3 k x1 x2 x7 x10 x240000 x240001 x240002)
end
def lodestarlaw04_HttpLines.f (k : Nat) (a0_0 : ByteArray) (a0_1 : ByteArray) (a0_2 : ByteArray) (a1 : ByteArray) (a2 : ByteArray) : Option (Bool) := (http_Write.f k a0_0 a0_1 a0_2).bind fun bt240 => (if bt240.2 = 0 then ((lodestarlaw04_plain.f k a1).bind fun t242 => (lodestarlaw04_HttpLines.j0 k a1 a2 bt240.1 (!t242) a0_0 a0_1 a0_2)) else (lodestarlaw04_HttpLines.j0 k a1 a2 bt240.1 true a0_0 a0_1 a0_2))
theorem lodestarlaw04_HttpLines.mono_l : ∀ k, (∀ y0 y1 y2 y3 y4 y5 y6, LeO (lodestarlaw04_HttpLines.j0 k y0 y1 y2 y3 y4 y5 y6) (lodestarlaw04_HttpLines.j0 (k + 1) y0 y1 y2 y3 y4 y5 y6)) ∧ (∀ y0 y1 y2 y3 y4 y5 y6, LeO (lodestarlaw04_HttpLines.l0 k y0 y1 y2 y3 y4 y5 y6) (lodestarlaw04_HttpLines.l0 (k + 1) y0 y1 y2 y3 y4 y5 y6)) ∧ (∀ y0 y1 y2 y3 y4 y5 y6, LeO (lodestarlaw04_HttpLines.j3 k y0 y1 y2 y3 y4 y5 y6) (lodestarlaw04_HttpLines.j3 (k + 1) y0 y1 y2 y3 y4 y5 y6)) ∧ (∀ y0 y1 y2 y3 y4 y5 y6, LeO (lodestarlaw04_HttpLines.l1 k y0 y1 y2 y3 y4 y5 y6) (lodestarlaw04_HttpLines.l1 (k + 1) y0 y1 y2 y3 y4 y5 y6))
 | 0 => ⟨fun _ _ _ _ _ _ _ r h => by simp [lodestarlaw04_HttpLines.j0] at h, fun _ _ _ _ _ _ _ r h => by simp [lodestarlaw04_HttpLines.l0] at h, fun _ _ _ _ _ _ _ r h => by simp [lodestarlaw04_HttpLines.j3] at h, fun _ _ _ _ _ _ _ r h => by simp [lodestarlaw04_HttpLines.l1] at h⟩
 | k + 1 => by
  obtain ⟨ih0, ih1, ih2, ih3⟩ := lodestarlaw04_HttpLines.mono_l k
  refine ⟨?_, ?_, ?_, ?_⟩
  all_goals intros
  all_goals first | unfold lodestarlaw04_HttpLines.j0 | unfold lodestarlaw04_HttpLines.l0 | unfold lodestarlaw04_HttpLines.j3 | unfold lodestarlaw04_HttpLines.l1
  all_goals repeat' first
   | (with_reducible exact ih0 _ _ _ _ _ _ _)
   | (with_reducible exact ih1 _ _ _ _ _ _ _)
   | (with_reducible exact ih2 _ _ _ _ _ _ _)
   | (with_reducible exact ih3 _ _ _ _ _ _ _)
   | (with_reducible exact http_Parse.mono _ _)
   | (with_reducible exact http_Write.mono _ _ _ _)
   | (with_reducible exact lodestarlaw04_plain.mono _ _)
   | (with_reducible exact lodestarlaw04_sure.mono _)
   | (with_reducible exact LeO.refl _)
   | (with_reducible exact LeO.none _)
   | (with_reducible refine LeO.ite ?_ ?_)
   | (with_reducible refine LeO.bind ?_ (fun _ => ?_))
   | exact ih0 _ _ _ _ _ _ _
   | exact ih1 _ _ _ _ _ _ _
   | exact ih2 _ _ _ _ _ _ _
   | exact ih3 _ _ _ _ _ _ _
   | exact http_Parse.mono _ _
   | exact http_Write.mono _ _ _ _
   | exact lodestarlaw04_plain.mono _ _
   | exact lodestarlaw04_sure.mono _
   | exact LeO.none _
   | refine LeO.ite ?_ ?_
   | refine LeO.bind ?_ (fun _ => ?_)
theorem lodestarlaw04_HttpLines.mono : ∀ a0 a1 a2 a3 a4 k, LeO (lodestarlaw04_HttpLines.f k a0 a1 a2 a3 a4) (lodestarlaw04_HttpLines.f (k + 1) a0 a1 a2 a3 a4) := by
 intro a0 a1 a2 a3 a4 k
 obtain ⟨ih0, ih1, ih2, ih3⟩ := lodestarlaw04_HttpLines.mono_l k
 unfold lodestarlaw04_HttpLines.f
 repeat' first
   | (with_reducible exact ih0 _ _ _ _ _ _ _)
   | (with_reducible exact ih1 _ _ _ _ _ _ _)
   | (with_reducible exact ih2 _ _ _ _ _ _ _)
   | (with_reducible exact ih3 _ _ _ _ _ _ _)
   | (with_reducible exact http_Parse.mono _ _)
   | (with_reducible exact http_Write.mono _ _ _ _)
   | (with_reducible exact lodestarlaw04_plain.mono _ _)
   | (with_reducible exact lodestarlaw04_sure.mono _)
   | (with_reducible exact LeO.refl _)
   | (with_reducible exact LeO.none _)
   | (with_reducible refine LeO.ite ?_ ?_)
   | (with_reducible refine LeO.bind ?_ (fun _ => ?_))
   | exact ih0 _ _ _ _ _ _ _
   | exact ih1 _ _ _ _ _ _ _
   | exact ih2 _ _ _ _ _ _ _
   | exact ih3 _ _ _ _ _ _ _
   | exact http_Parse.mono _ _
   | exact http_Write.mono _ _ _ _
   | exact lodestarlaw04_plain.mono _ _
   | exact lodestarlaw04_sure.mono _
   | exact LeO.none _
   | refine LeO.ite ?_ ?_
   | refine LeO.bind ?_ (fun _ => ?_)
set_option maxHeartbeats 8000000 in
set_option maxRecDepth 100000 in
theorem lodestarlaw04_HttpLines.calls (k : Nat) (a0_0 : ByteArray) (a0_1 : ByteArray) (a0_2 : ByteArray) (a1 : ByteArray) (a2 : ByteArray) (w : World) (hU : LaidU w) (h : lodestarlaw04_HttpLines.f k a0_0 a0_1 a0_2 a1 a2 = some true) :
  Calls Tryd.prog 4 #[.agg #[.string a0_0, .string a0_1, .string a0_2], .string a1, .string a2] w fun e w' => e = .returned (.bool true) ∧ Below w.heap.size w w' := by
 have hu23 := Tryd.underlying23
 have HU := Aside0.mk hU
 clear hU
 have HB := Aside0.mk (Below.refl w.heap.size w)
 have H : ((http_Write.f k a0_0 a0_1 a0_2).bind fun bt240 => (if bt240.2 = 0 then ((lodestarlaw04_plain.f k a1).bind fun t242 => (lodestarlaw04_HttpLines.j0 k a1 a2 bt240.1 (!t242) a0_0 a0_1 a0_2)) else (lodestarlaw04_HttpLines.j0 k a1 a2 bt240.1 true a0_0 a0_1 a0_2))) = some true := h
 clear h
 replace H := Option.bind_eq_some_iff.mp H
 obtain ⟨⟨t240, t241⟩, A40, H⟩ := H
 replace H : (if t241 = 0 then ((lodestarlaw04_plain.f k a1).bind fun t242 => (lodestarlaw04_HttpLines.j0 k a1 a2 t240 (!t242) a0_0 a0_1 a0_2)) else (lodestarlaw04_HttpLines.j0 k a1 a2 t240 true a0_0 a0_1 a0_2)) = some true := H
 have A4 := Aside0.mk A40
 clear A40
 have HC5 := Aside0.mk H
 clear H
 go_enter Tryd.func4, Tryd.ntmps4
 go_upto_region 2 with (first | ((with_reducible refine gate_dst (N := 3) rfl ?_); refine box_event ?hg (N := 3) ?hd (cs := #[.string a0_0, .string a0_1, .string a0_2]) (t := 23) ?hr ?_; (case hd => rfl); (case hg => rfl); (case hr => first | (go_simp; done) | (go_simp; rfl)); intro gb239 hg w6 hbox hb; have BK239 := Aside0.mk (hbox); have GW239 := Aside0.mk (gs (w := w) hg (bl HB.out)); have GE239 := Aside0.mk (gs (w := w) hg (bl HB.out)); replace HB := Aside0.mk (below_step (bl HB.out) hb); clear hb hbox hg; obtain ⟨hcz7_0, hcz7_1, hcz7_2, hfz7_0, hfz7_1, hfz7_2⟩ := cz3 BK239.out) | (go_at_call 6; (with_reducible refine (http_Write.calls k a0_0 a0_1 a0_2 t240 t241 _ ?side1 A4.out).mono ?_); (case side1 => exact LaidU.below HU.out (bl HB.out)); rintro e w8 ⟨rfl, hb⟩; replace BK239 := Aside0.mk (blk_below (pk BK239.out) hb); replace HB := Aside0.mk (below_step (bl HB.out) hb); (try clear hb); (try clear hb2); (try clear hk); (try clear hi)))
 repeat (go_quiet (first | ((with_reducible refine gate_dst (N := 3) rfl ?_); refine box_event ?hg (N := 3) ?hd (cs := #[.string a0_0, .string a0_1, .string a0_2]) (t := 23) ?hr ?_; (case hd => rfl); (case hg => rfl); (case hr => first | (go_simp; done) | (go_simp; rfl)); intro gb239 hg w6 hbox hb; have BK239 := Aside0.mk (hbox); have GW239 := Aside0.mk (gs (w := w) hg (bl HB.out)); have GE239 := Aside0.mk (gs (w := w) hg (bl HB.out)); replace HB := Aside0.mk (below_step (bl HB.out) hb); clear hb hbox hg; obtain ⟨hcz7_0, hcz7_1, hcz7_2, hfz7_0, hfz7_1, hfz7_2⟩ := cz3 BK239.out) | (go_at_call 6; (with_reducible refine (http_Write.calls k a0_0 a0_1 a0_2 t240 t241 _ ?side1 A4.out).mono ?_); (case side1 => exact LaidU.below HU.out (bl HB.out)); rintro e w8 ⟨rfl, hb⟩; replace BK239 := Aside0.mk (blk_below (pk BK239.out) hb); replace HB := Aside0.mk (below_step (bl HB.out) hb); (try clear hb); (try clear hb2); (try clear hk); (try clear hi))); go_upto_region 2 with (first | ((with_reducible refine gate_dst (N := 3) rfl ?_); refine box_event ?hg (N := 3) ?hd (cs := #[.string a0_0, .string a0_1, .string a0_2]) (t := 23) ?hr ?_; (case hd => rfl); (case hg => rfl); (case hr => first | (go_simp; done) | (go_simp; rfl)); intro gb239 hg w6 hbox hb; have BK239 := Aside0.mk (hbox); have GW239 := Aside0.mk (gs (w := w) hg (bl HB.out)); have GE239 := Aside0.mk (gs (w := w) hg (bl HB.out)); replace HB := Aside0.mk (below_step (bl HB.out) hb); clear hb hbox hg; obtain ⟨hcz7_0, hcz7_1, hcz7_2, hfz7_0, hfz7_1, hfz7_2⟩ := cz3 BK239.out) | (go_at_call 6; (with_reducible refine (http_Write.calls k a0_0 a0_1 a0_2 t240 t241 _ ?side1 A4.out).mono ?_); (case side1 => exact LaidU.below HU.out (bl HB.out)); rintro e w8 ⟨rfl, hb⟩; replace BK239 := Aside0.mk (blk_below (pk BK239.out) hb); replace HB := Aside0.mk (below_step (bl HB.out) hb); (try clear hb); (try clear hb2); (try clear hk); (try clear hi))))
 (try simp only [Act.put, List.setIfInBounds_toArray, List.set_cons_zero, List.set_cons_succ])
 go_cut [27] (fun v27 wc => ∃ (kq : Nat) (x27_4 : Bool), v27 = .bool x27_4 ∧ Aside0 (lodestarlaw04_HttpLines.j0 kq a1 a2 t240 x27_4 a0_0 a0_1 a0_2 = some true) ∧ Aside0 (kq ≤ k) ∧ Aside0 (wc.heap[gb239]? = some (.cells #[.string a0_0, .string a0_1, .string a0_2] 23 (0, 0))) ∧ Aside0 (Below w.heap.size w wc))
 case first =>
  have H := HC5.out
  clear HC5
  by_cases c9 : t241 = 0
  ·rw [if_pos c9] at H
   have c9b0 : (t241 == 0) = true := beq_iff_eq.mpr c9
   have c9b1 : (t241 != 0) = false := bne_eq_false_iff_eq.mpr c9
   clear c9
   (first | rw [c9b0] | (simp only [i64_w, i32_w]; rw [c9b0]) | skip)
   replace H := Option.bind_eq_some_iff.mp H
   obtain ⟨t242, A100, H⟩ := H
   replace H : (lodestarlaw04_HttpLines.j0 k a1 a2 t240 (!t242) a0_0 a0_1 a0_2) = some true := H
   have A10 := Aside0.mk A100
   clear A100
   have H' := Aside0.mk H
   clear H
   go_wp2_with (first | (go_at_call 9; (with_reducible refine (lodestarlaw04_plain.calls k a1 t242 _ A10.out).mono ?_); rintro e w' ⟨rfl, ⟨nd, rfl⟩⟩; (try first | exact ⟨rfl, _, World.drewN_drewN _ _ _⟩ | exact ⟨rfl, _, Eq.trans (World.drewN_drewN _ _ _) (congrArg (World.drewN _) (Nat.add_assoc _ _ _))⟩)))
   repeat (go_quiet (first | (go_at_call 9; (with_reducible refine (lodestarlaw04_plain.calls k a1 t242 _ A10.out).mono ?_); rintro e w' ⟨rfl, ⟨nd, rfl⟩⟩; (try first | exact ⟨rfl, _, World.drewN_drewN _ _ _⟩ | exact ⟨rfl, _, Eq.trans (World.drewN_drewN _ _ _) (congrArg (World.drewN _) (Nat.add_assoc _ _ _))⟩))); try go_wp2_with (first | (go_at_call 9; (with_reducible refine (lodestarlaw04_plain.calls k a1 t242 _ A10.out).mono ?_); rintro e w' ⟨rfl, ⟨nd, rfl⟩⟩; (try first | exact ⟨rfl, _, World.drewN_drewN _ _ _⟩ | exact ⟨rfl, _, Eq.trans (World.drewN_drewN _ _ _) (congrArg (World.drewN _) (Nat.add_assoc _ _ _))⟩))))
   go_meet
   case rel => exact ⟨_, (!t242), hsr, H', ⟨by first | omega | exact Nat.le_refl _⟩, ⟨pk BK239.out⟩, ⟨bl HB.out⟩⟩
  ·rw [if_neg c9] at H
   have c9b0 : (t241 == 0) = false := beq_eq_false_iff_ne.mpr c9
   have c9b1 : (t241 != 0) = true := bne_iff_ne.mpr c9
   (first | rw [c9b0] | (simp only [i64_w, i32_w]; rw [c9b0]) | skip)
   have H' := Aside0.mk H
   clear H
   go_wp2
   repeat (go_quiet (fail); try go_wp2)
   go_meet
   case rel => exact ⟨_, (true), hsr, H', ⟨by first | omega | exact Nat.le_refl _⟩, ⟨pk BK239.out⟩, ⟨bl HB.out⟩⟩
 case rest =>
  clear HC5
  try clear p2
  try clear c4
  try clear c9
  try clear c9b0
  try clear c9b1
  try clear hcz7_0 hcz7_1 hcz7_2 hfz7_0 hfz7_1 hfz7_2
  obtain ⟨kq, x27_4, rfl, HA, HJ4, BK239, HB⟩ := hcut
  cases kq with
  | zero => exact absurd HA.out (by simp [lodestarlaw04_HttpLines.j0])
  | succ kj4 =>
   have H := HA.out
   clear HA
   simp only [lodestarlaw04_HttpLines.j0] at H
   by_cases c11 : x27_4 = true
   ·subst c11
    have H1 : ((lodestarlaw04_sure.f kj4).bind fun t243 => (some t243)) = some true := by rw [if_pos rfl] at H; exact H
    clear H
    have H := H1
    clear H1
    replace H := Option.bind_eq_some_iff.mp H
    obtain ⟨t243, A120, H⟩ := H
    replace H : (some t243) = some true := H
    have A12 := Aside0.mk A120
    clear A120
    have hE_ := Aside0.mk (Option.some.inj H)
    clear H
    go_wp2_with (first | (go_at_call 7; (with_reducible refine (lodestarlaw04_sure.calls kj4  t243 _ ?side1 A12.out).mono ?_); (case side1 => exact LaidU.below HU.out (bl HB.out)); rintro e w13 ⟨rfl, hb⟩; replace BK239 := Aside0.mk (blk_below (pk BK239.out) hb); replace HB := Aside0.mk (below_step (bl HB.out) hb); (try clear hb); (try clear hb2); (try clear hk); (try clear hi)))
    repeat (go_quiet (first | (go_at_call 7; (with_reducible refine (lodestarlaw04_sure.calls kj4  t243 _ ?side1 A12.out).mono ?_); (case side1 => exact LaidU.below HU.out (bl HB.out)); rintro e w13 ⟨rfl, hb⟩; replace BK239 := Aside0.mk (blk_below (pk BK239.out) hb); replace HB := Aside0.mk (below_step (bl HB.out) hb); (try clear hb); (try clear hb2); (try clear hk); (try clear hi))); try go_wp2_with (first | (go_at_call 7; (with_reducible refine (lodestarlaw04_sure.calls kj4  t243 _ ?side1 A12.out).mono ?_); (case side1 => exact LaidU.below HU.out (bl HB.out)); rintro e w13 ⟨rfl, hb⟩; replace BK239 := Aside0.mk (blk_below (pk BK239.out) hb); replace HB := Aside0.mk (below_step (bl HB.out) hb); (try clear hb); (try clear hb2); (try clear hk); (try clear hi))))
    go_ret
    exact ⟨er1, bl HB.out⟩
   ·replace c11 := Bool.eq_false_iff.mpr c11
    subst c11
    have H1 : (lodestarlaw04_HttpLines.l0 kj4 a1 a2 t240 0 a0_0 a0_1 a0_2) = some true := by rw [if_neg (show ¬ (false = true) by decide)] at H; exact H
    clear H
    have H := H1
    clear H1
    have H' := Aside0.mk H
    clear H
    go_wp2
    repeat (go_quiet (fail); try go_wp2)
    go_loopg [9] kj4 (fun kq v9 w' => ∃ (x9_2 : Int), v9 = .int .i64 x9_2 ∧ Aside0 (lodestarlaw04_HttpLines.l0 kq a1 a2 t240 x9_2 a0_0 a0_1 a0_2 = some true) ∧ Aside0 (kq ≤ kj4) ∧ Aside0 (w'.heap[gb239]? = some (.cells #[.string a0_0, .string a0_1, .string a0_2] 23 (0, 0))) ∧ Aside0 (Below w.heap.size w w'))
    case atStart => exact ⟨(0), hsr, H', ⟨Nat.le_refl _⟩, ⟨pk BK239.out⟩, ⟨bl HB.out⟩⟩
    case round =>
     clear H'
     try clear c1
     try clear p2
     try clear c4
     try clear c9
     try clear c9b0
     try clear c9b1
     try clear c11
     try clear hcz7_0 hcz7_1 hcz7_2 hfz7_0 hfz7_1 hfz7_2
     try clear p2
     obtain ⟨x9_2, rfl, HA, HK2, BK239, HB⟩ := hrel
     cases gk with
     | zero => exact absurd HA.out (by simp [lodestarlaw04_HttpLines.l0])
     | succ k2 =>
      have H := HA.out
      clear HA
      simp only [lodestarlaw04_HttpLines.l0] at H
      by_cases c14 : x9_2 < (a2.size : Int)
      ·rw [if_pos c14] at H
       have c14b0 : decide (x9_2 < (a2.size : Int)) = true := decide_eq_true c14
       clear c14
       by_cases c15 : 0 ≤ x9_2
       ·rw [if_pos c15] at H
        have c15b0 : decide (0 ≤ x9_2) = true := decide_eq_true c15
        clear c15
        by_cases c17 : (bt a2 x9_2) < 32
        ·rw [if_pos c17] at H
         have c17b0 : decide ((bt a2 x9_2) < 32) = true := decide_eq_true c17
         clear c17
         replace H := Option.bind_eq_some_iff.mp H
         obtain ⟨t244, A180, H⟩ := H
         replace H : (some t244) = some true := H
         have A18 := Aside0.mk A180
         clear A180
         have hE_ := Aside0.mk (Option.some.inj H)
         clear H
         have p16 : 0 ≤ (x9_2 : Int) := of_decide_eq_true ha
         have q16 : x9_2 < (a2.size : Int) := of_decide_eq_true ha
         have hx16 := bt_at a2 x9_2
         replace p16 := eq_true p16
         replace q16 := eq_true q16
         go_wp2_with (first | (go_at_call 7; (with_reducible refine (lodestarlaw04_sure.calls k2  t244 _ ?side1 A18.out).mono ?_); (case side1 => exact LaidU.below HU.out (bl HB.out)); rintro e w19 ⟨rfl, hb⟩; replace BK239 := Aside0.mk (blk_below (pk BK239.out) hb); replace HB := Aside0.mk (below_step (bl HB.out) hb); (try clear hb); (try clear hb2); (try clear hk); (try clear hi)))
         repeat (go_quiet (first | (go_at_call 7; (with_reducible refine (lodestarlaw04_sure.calls k2  t244 _ ?side1 A18.out).mono ?_); (case side1 => exact LaidU.below HU.out (bl HB.out)); rintro e w19 ⟨rfl, hb⟩; replace BK239 := Aside0.mk (blk_below (pk BK239.out) hb); replace HB := Aside0.mk (below_step (bl HB.out) hb); (try clear hb); (try clear hb2); (try clear hk); (try clear hi))); try go_wp2_with (first | (go_at_call 7; (with_reducible refine (lodestarlaw04_sure.calls k2  t244 _ ?side1 A18.out).mono ?_); (case side1 => exact LaidU.below HU.out (bl HB.out)); rintro e w19 ⟨rfl, hb⟩; replace BK239 := Aside0.mk (blk_below (pk BK239.out) hb); replace HB := Aside0.mk (below_step (bl HB.out) hb); (try clear hb); (try clear hb2); (try clear hk); (try clear hi))))
         go_ret
         exact ⟨er1, bl HB.out⟩
        ·rw [if_neg c17] at H
         have c17b0 : decide ((bt a2 x9_2) < 32) = false := decide_eq_false c17
         clear c17
         have H' := Aside0.mk H
         clear H
         have p16 : 0 ≤ (x9_2 : Int) := of_decide_eq_true ha
         have q16 : x9_2 < (a2.size : Int) := of_decide_eq_true ha
         have hx16 := bt_at a2 x9_2
         replace p16 := eq_true p16
         replace q16 := eq_true q16
         go_wp2
         repeat (go_quiet (fail); try go_wp2)
         go_roundg k2
         case measure => have := HJ4.out; have := HK2.out; omega
         case rel => exact ⟨(wrap64 (x9_2 + 1)), hsr, H', ⟨by have := HJ4.out; have := HK2.out; omega⟩, ⟨pk BK239.out⟩, ⟨bl HB.out⟩⟩
       ·rw [if_neg c15] at H
        exact absurd H (by simp)
      ·rw [if_neg c14] at H
       have c14b0 : decide (x9_2 < (a2.size : Int)) = false := decide_eq_false c14
       clear c14
       by_cases c20 : (t240.size : Int) < 2
       ·rw [if_pos c20] at H
        have c20b0 : decide ((t240.size : Int) < 2) = true := decide_eq_true c20
        have c20b1 : decide (t240.size < 2) = true := decide_eq_true (by omega)
        clear c20
        exact absurd (Option.some.inj H) (by simp)
       ·rw [if_neg c20] at H
        have c20b0 : decide ((t240.size : Int) < 2) = false := decide_eq_false c20
        have c20b1 : decide (t240.size < 2) = false := decide_eq_false (by omega)
        clear c20
        have HC21 := Aside0.mk H
        clear H
        go_upto_block 2 with (fail)
        repeat (go_quiet (fail); go_upto_block 2 with (fail))
        go_cut [10] (fun v10 wc => ∃ (kq : Nat) (x10_20 : Int), v10 = .int .i64 x10_20 ∧ Aside0 (lodestarlaw04_HttpLines.j3 kq a1 a2 t240 x10_20 a0_0 a0_1 a0_2 = some true) ∧ Aside0 (kq ≤ k2) ∧ Aside0 (wc.heap[gb239]? = some (.cells #[.string a0_0, .string a0_1, .string a0_2] 23 (0, 0))) ∧ Aside0 (Below w.heap.size w wc))
        case first =>
         have H := HC21.out
         clear HC21
         have H' := Aside0.mk H
         clear H
         go_wp2
         repeat (go_quiet (fail); try go_wp2)
         go_loopg [10] k2 (fun kq v10 w' => ∃ (x10_3 : Int), v10 = .int .i64 x10_3 ∧ Aside0 (lodestarlaw04_HttpLines.l1 kq a1 a2 t240 x10_3 a0_0 a0_1 a0_2 = some true) ∧ Aside0 (kq ≤ k2) ∧ Aside0 (w'.heap[gb239]? = some (.cells #[.string a0_0, .string a0_1, .string a0_2] 23 (0, 0))) ∧ Aside0 (Below w.heap.size w w'))
         case atStart => exact ⟨(0), hsr, H', ⟨Nat.le_refl _⟩, ⟨pk BK239.out⟩, ⟨bl HB.out⟩⟩
         case round =>
          clear H'
          try clear c1
          try clear p1
          try clear q1
          try clear hx1
          try clear c2
          try clear p2
          try clear c4
          try clear p6
          try clear c9
          try clear c9b0
          try clear c9b1
          try clear c11
          try clear c14
          try clear c14b0
          try clear c15
          try clear c15b0
          try clear p16
          try clear q16
          try clear hx16
          try clear c17
          try clear c17b0
          try clear c20
          try clear c20b0
          try clear c20b1
          try clear hcz7_0 hcz7_1 hcz7_2 hfz7_0 hfz7_1 hfz7_2
          try clear p16
          try clear p2
          try clear q16
          obtain ⟨x10_3, rfl, HA, HK3, BK239, HB⟩ := hrel
          cases gk with
          | zero => exact absurd HA.out (by simp [lodestarlaw04_HttpLines.l1])
          | succ k3 =>
           have H := HA.out
           clear HA
           simp only [lodestarlaw04_HttpLines.l1] at H
           by_cases c22 : (wrap64 (x10_3 + 1)) < (t240.size : Int)
           ·rw [if_pos c22] at H
            have c22b0 : decide ((wrap64 (x10_3 + 1)) < (t240.size : Int)) = true := decide_eq_true c22
            clear c22
            (first | rw [c22b0] | (simp only [i64_w, i32_w]; rw [c22b0]) | skip)
            by_cases c23 : 0 ≤ x10_3
            ·rw [if_pos c23] at H
             have c23b0 : decide (0 ≤ x10_3) = true := decide_eq_true c23
             clear c23
             by_cases c24 : x10_3 < (t240.size : Int)
             ·rw [if_pos c24] at H
              have c24b0 : decide (x10_3 < (t240.size : Int)) = true := decide_eq_true c24
              clear c24
              by_cases c26 : (bt t240 x10_3) = 10
              ·rw [if_pos c26] at H
               have c26b0 : ((bt t240 x10_3) == 10) = true := beq_iff_eq.mpr c26
               have c26b1 : ((bt t240 x10_3) != 10) = false := bne_eq_false_iff_eq.mpr c26
               clear c26
               have H' := Aside0.mk H
               clear H
               have p25 : 0 ≤ (x10_3 : Int) := of_decide_eq_true ha
               have q25 : x10_3 < (t240.size : Int) := of_decide_eq_true ha
               have hx25 := bt_at t240 x10_3
               replace p25 := eq_true p25
               replace q25 := eq_true q25
               go_wp2
               repeat (go_quiet (fail); try go_wp2)
               go_meet
               case rel => exact ⟨_, (x10_3), hsr, H', ⟨by have := HJ4.out; have := HK2.out; have := HK3.out; first | omega | exact Nat.le_refl _⟩, ⟨pk BK239.out⟩, ⟨bl HB.out⟩⟩
              ·rw [if_neg c26] at H
               have c26b0 : ((bt t240 x10_3) == 10) = false := beq_eq_false_iff_ne.mpr c26
               have c26b1 : ((bt t240 x10_3) != 10) = true := bne_iff_ne.mpr c26
               have H' := Aside0.mk H
               clear H
               have p25 : 0 ≤ (x10_3 : Int) := of_decide_eq_true ha
               have q25 : x10_3 < (t240.size : Int) := of_decide_eq_true ha
               have hx25 := bt_at t240 x10_3
               replace p25 := eq_true p25
               replace q25 := eq_true q25
               go_wp2
               repeat (go_quiet (fail); try go_wp2)
               go_roundg k3
               case measure => have := HJ4.out; have := HK2.out; have := HK3.out; omega
               case rel => exact ⟨(wrap64 (x10_3 + 1)), hsr, H', ⟨by have := HJ4.out; have := HK2.out; have := HK3.out; omega⟩, ⟨pk BK239.out⟩, ⟨bl HB.out⟩⟩
             ·rw [if_neg c24] at H
              exact absurd H (by simp)
            ·rw [if_neg c23] at H
             exact absurd H (by simp)
           ·rw [if_neg c22] at H
            have c22b0 : decide ((wrap64 (x10_3 + 1)) < (t240.size : Int)) = false := decide_eq_false c22
            clear c22
            (first | rw [c22b0] | (simp only [i64_w, i32_w]; rw [c22b0]) | skip)
            have H' := Aside0.mk H
            clear H
            go_wp2
            repeat (go_quiet (fail); try go_wp2)
            go_meet
            case rel => exact ⟨_, (x10_3), hsr, H', ⟨by have := HJ4.out; have := HK2.out; have := HK3.out; first | omega | exact Nat.le_refl _⟩, ⟨pk BK239.out⟩, ⟨bl HB.out⟩⟩
        case rest =>
         clear HC21
         try clear c1
         try clear p1
         try clear q1
         try clear hx1
         try clear c2
         try clear p2
         try clear q2
         try clear hx2
         try clear c4
         try clear p6
         try clear c9
         try clear c9b0
         try clear c9b1
         try clear c11
         try clear c14
         try clear c14b0
         try clear c15
         try clear c15b0
         try clear p16
         try clear q16
         try clear hx16
         try clear c17
         try clear c17b0
         try clear c20
         try clear c20b0
         try clear c20b1
         try clear c22
         try clear c22b0
         try clear c23
         try clear c23b0
         try clear c24
         try clear c24b0
         try clear p25
         try clear q25
         try clear hx25
         try clear c26
         try clear c26b0
         try clear c26b1
         try clear hcz7_0 hcz7_1 hcz7_2 hfz7_0 hfz7_1 hfz7_2
         try clear p1
         try clear p16
         try clear p2
         try clear p25
         try clear p6
         try clear q1
         try clear q16
         try clear q25
         obtain ⟨kq, x10_20, rfl, HA, HJ20, BK239, HB⟩ := hcut
         cases kq with
         | zero => exact absurd HA.out (by simp [lodestarlaw04_HttpLines.j3])
         | succ kj20 =>
          have H := HA.out
          clear HA
          simp only [lodestarlaw04_HttpLines.j3] at H
          obtain ⟨ji27, hji27⟩ : ∃ j_ : Int, (wrap64 (x10_20 + 1)) = j_ := ⟨_, rfl⟩
          replace H : (if 0 ≤ (ji27) then (if (ji27) ≤ (t240.size : Int) then (if (t240.extract 0 ((ji27) : Int).toNat).size + a1.size ≤ 9223372036854775807 then (if ((t240.extract 0 ((ji27) : Int).toNat) ++ a1).size + 2 ≤ 9223372036854775807 then (if (((t240.extract 0 ((ji27) : Int).toNat) ++ a1) ++ (⟨#[58, 32]⟩ : ByteArray)).size + a2.size ≤ 9223372036854775807 then (if ((((t240.extract 0 ((ji27) : Int).toNat) ++ a1) ++ (⟨#[58, 32]⟩ : ByteArray)) ++ a2).size + 2 ≤ 9223372036854775807 then (if (((((t240.extract 0 ((ji27) : Int).toNat) ++ a1) ++ (⟨#[58, 32]⟩ : ByteArray)) ++ a2) ++ (⟨#[13, 10]⟩ : ByteArray)).size + (t240.extract ((ji27) : Int).toNat t240.size).size ≤ 9223372036854775807 then (if (wrap64 ((((((((t240.extract 0 ((ji27) : Int).toNat) ++ a1) ++ (⟨#[58, 32]⟩ : ByteArray)) ++ a2) ++ (⟨#[13, 10]⟩ : ByteArray)) ++ (t240.extract ((ji27) : Int).toNat t240.size)).size : Int) - (a0_2.size : Int))) > 4096 then ((http_Parse.f kj20 ((((((t240.extract 0 ((ji27) : Int).toNat) ++ a1) ++ (⟨#[58, 32]⟩ : ByteArray)) ++ a2) ++ (⟨#[13, 10]⟩ : ByteArray)) ++ (t240.extract ((ji27) : Int).toNat t240.size))).bind fun bt245 => (if bt245.2.2.2 = 41 then ((lodestarlaw04_sure.f kj20).bind fun t250 => (some t250)) else (some false))) else ((http_Parse.f kj20 ((((((t240.extract 0 ((ji27) : Int).toNat) ++ a1) ++ (⟨#[58, 32]⟩ : ByteArray)) ++ a2) ++ (⟨#[13, 10]⟩ : ByteArray)) ++ (t240.extract ((ji27) : Int).toNat t240.size))).bind fun bt251 => (if (bt251.1.toList == a0_0.toList && (bt251.2.1.toList == a0_1.toList && (bt251.2.2.1.toList == a0_2.toList))) = true then (if bt251.2.2.2 = 0 then ((lodestarlaw04_sure.f kj20).bind fun t256 => (some t256)) else (some false)) else (some false)))) else (none)) else (none)) else (none)) else (none)) else (none)) else (none)) else (none)) = some true := by first | (rw [hji27] at H; exact H) | (simp only [hji27] at H ⊢; exact H)
          have hji27w : (IntKind.i64.wrap (x10_20 + 1)) = ji27 := (i64_w _).trans hji27
          by_cases c28 : 0 ≤ (ji27)
          ·rw [if_pos c28] at H
           have c28b0 := eq_true c28
           have c28b1 : decide (0 ≤ (ji27)) = true := decide_eq_true c28
           clear c28
           by_cases c29 : (ji27) ≤ (t240.size : Int)
           ·rw [if_pos c29] at H
            have c29b0 := eq_true c29
            have c29b1 : decide ((ji27) ≤ (t240.size : Int)) = true := decide_eq_true c29
            clear c29
            by_cases c30 : (t240.extract 0 ((ji27) : Int).toNat).size + a1.size ≤ 9223372036854775807
            ·rw [if_pos c30] at H
             have c30b0 := eq_true c30
             have c30b1 : decide ((t240.extract 0 ((ji27) : Int).toNat).size + a1.size ≤ 9223372036854775807) = true := decide_eq_true c30
             try have c30b2 : (9223372036854775807 < (t240.extract 0 ((ji27) : Int).toNat).size + a1.size) = False := eq_false (Nat.not_lt.2 c30)
             by_cases c31 : ((t240.extract 0 ((ji27) : Int).toNat) ++ a1).size + 2 ≤ 9223372036854775807
             ·rw [if_pos c31] at H
              have c31b0 := eq_true c31
              have c31b1 : decide (((t240.extract 0 ((ji27) : Int).toNat) ++ a1).size + 2 ≤ 9223372036854775807) = true := decide_eq_true c31
              try have c31b2 : (9223372036854775807 < ((t240.extract 0 ((ji27) : Int).toNat) ++ a1).size + 2) = False := eq_false (Nat.not_lt.2 c31)
              (try (have c31z0 := c31b0; simp only [ByteArray.size_append] at c31z0))
              (try (have c31z1 := c31b1; simp only [ByteArray.size_append] at c31z1))
              (try (have c31z2 := c31b2; simp only [ByteArray.size_append] at c31z2))
              by_cases c32 : (((t240.extract 0 ((ji27) : Int).toNat) ++ a1) ++ (⟨#[58, 32]⟩ : ByteArray)).size + a2.size ≤ 9223372036854775807
              ·rw [if_pos c32] at H
               have c32b0 := eq_true c32
               have c32b1 : decide ((((t240.extract 0 ((ji27) : Int).toNat) ++ a1) ++ (⟨#[58, 32]⟩ : ByteArray)).size + a2.size ≤ 9223372036854775807) = true := decide_eq_true c32
               try have c32b2 : (9223372036854775807 < (((t240.extract 0 ((ji27) : Int).toNat) ++ a1) ++ (⟨#[58, 32]⟩ : ByteArray)).size + a2.size) = False := eq_false (Nat.not_lt.2 c32)
               (try (have c32z0 := c32b0; simp only [ByteArray.size_append] at c32z0))
               (try (have c32z1 := c32b1; simp only [ByteArray.size_append] at c32z1))
               (try (have c32z2 := c32b2; simp only [ByteArray.size_append] at c32z2))
               by_cases c33 : ((((t240.extract 0 ((ji27) : Int).toNat) ++ a1) ++ (⟨#[58, 32]⟩ : ByteArray)) ++ a2).size + 2 ≤ 9223372036854775807
               ·rw [if_pos c33] at H
                have c33b0 := eq_true c33
                have c33b1 : decide (((((t240.extract 0 ((ji27) : Int).toNat) ++ a1) ++ (⟨#[58, 32]⟩ : ByteArray)) ++ a2).size + 2 ≤ 9223372036854775807) = true := decide_eq_true c33
                try have c33b2 : (9223372036854775807 < ((((t240.extract 0 ((ji27) : Int).toNat) ++ a1) ++ (⟨#[58, 32]⟩ : ByteArray)) ++ a2).size + 2) = False := eq_false (Nat.not_lt.2 c33)
                (try (have c33z0 := c33b0; simp only [ByteArray.size_append] at c33z0))
                (try (have c33z1 := c33b1; simp only [ByteArray.size_append] at c33z1))
                (try (have c33z2 := c33b2; simp only [ByteArray.size_append] at c33z2))
                have c34b0 := eq_true (of_decide_eq_true ha : 0 ≤ (ji27))
                have c35b0 := eq_true (of_decide_eq_true ha : (ji27) ≤ (t240.size : Int))
                by_cases c36 : (((((t240.extract 0 ((ji27) : Int).toNat) ++ a1) ++ (⟨#[58, 32]⟩ : ByteArray)) ++ a2) ++ (⟨#[13, 10]⟩ : ByteArray)).size + (t240.extract ((ji27) : Int).toNat t240.size).size ≤ 9223372036854775807
                ·rw [if_pos c36] at H
                 have c36b0 := eq_true c36
                 have c36b1 : decide ((((((t240.extract 0 ((ji27) : Int).toNat) ++ a1) ++ (⟨#[58, 32]⟩ : ByteArray)) ++ a2) ++ (⟨#[13, 10]⟩ : ByteArray)).size + (t240.extract ((ji27) : Int).toNat t240.size).size ≤ 9223372036854775807) = true := decide_eq_true c36
                 try have c36b2 : (9223372036854775807 < (((((t240.extract 0 ((ji27) : Int).toNat) ++ a1) ++ (⟨#[58, 32]⟩ : ByteArray)) ++ a2) ++ (⟨#[13, 10]⟩ : ByteArray)).size + (t240.extract ((ji27) : Int).toNat t240.size).size) = False := eq_false (Nat.not_lt.2 c36)
                 (try (have c36z0 := c36b0; simp only [ByteArray.size_append] at c36z0))
                 (try (have c36z1 := c36b1; simp only [ByteArray.size_append] at c36z1))
                 (try (have c36z2 := c36b2; simp only [ByteArray.size_append] at c36z2))
                 by_cases c37 : (wrap64 ((((((((t240.extract 0 ((ji27) : Int).toNat) ++ a1) ++ (⟨#[58, 32]⟩ : ByteArray)) ++ a2) ++ (⟨#[13, 10]⟩ : ByteArray)) ++ (t240.extract ((ji27) : Int).toNat t240.size)).size : Int) - (a0_2.size : Int))) > 4096
                 ·rw [if_pos c37] at H
                  have c37b0 : decide (4096 < (wrap64 ((((((((t240.extract 0 ((ji27) : Int).toNat) ++ a1) ++ (⟨#[58, 32]⟩ : ByteArray)) ++ a2) ++ (⟨#[13, 10]⟩ : ByteArray)) ++ (t240.extract ((ji27) : Int).toNat t240.size)).size : Int) - (a0_2.size : Int)))) = true := decide_eq_true c37
                  (try (have c37l0 := c37b0; simp only [ByteArray.size_append, lit_size, List.length_cons, List.length_nil, Nat.zero_add, Nat.reduceAdd, Int.natCast_add, Int.cast_ofNat_Int] at c37l0))
                  (try (have c37l1 := c37b1; simp only [ByteArray.size_append, lit_size, List.length_cons, List.length_nil, Nat.zero_add, Nat.reduceAdd, Int.natCast_add, Int.cast_ofNat_Int] at c37l1))
                  clear c37
                  replace H := Option.bind_eq_some_iff.mp H
                  obtain ⟨⟨t245, t246, t247, t248⟩, A380, H⟩ := H
                  replace H : (if t248 = 41 then ((lodestarlaw04_sure.f kj20).bind fun t250 => (some t250)) else (some false)) = some true := H
                  have A38 := Aside0.mk A380
                  clear A380
                  by_cases c39 : t248 = 41
                  ·rw [if_pos c39] at H
                   have c39b0 : (t248 == 41) = true := beq_iff_eq.mpr c39
                   have c39b1 : (t248 != 41) = false := bne_eq_false_iff_eq.mpr c39
                   clear c39
                   replace H := Option.bind_eq_some_iff.mp H
                   obtain ⟨t250, A400, H⟩ := H
                   replace H : (some t250) = some true := H
                   have A40 := Aside0.mk A400
                   clear A400
                   have hE_ := Aside0.mk (Option.some.inj H)
                   clear H
                   obtain ⟨hcz41_0, hcz41_1, hcz41_2, hfz41_0, hfz41_1, hfz41_2⟩ := cz3 BK239.out
                   have hy0 : (t240.extract 0 ((ji27) : Int).toNat).size = ji27.toNat := by rw [ByteArray.size_extract]; have := of_eq_true c28b0; have := of_eq_true c29b0; omega
                   have hy1 : (t240.extract ((ji27) : Int).toNat t240.size).size = t240.size - ji27.toNat := by rw [ByteArray.size_extract]; omega
                   have hyT := of_eq_true c36b0
                   simp only [ByteArray.size_append, hy0, hy1, show (⟨#[58, 32]⟩ : ByteArray).size = 2 from rfl, show (⟨#[13, 10]⟩ : ByteArray).size = 2 from rfl] at hyT
                   have hz0 : (9223372036854775807 < ji27.toNat + a1.size) = False := eq_false (by omega)
                   have hz1 : (9223372036854775807 < ji27.toNat + a1.size + 2) = False := eq_false (by omega)
                   have hz2 : (9223372036854775807 < ji27.toNat + a1.size + 2 + a2.size) = False := eq_false (by omega)
                   have hz3 : (9223372036854775807 < ji27.toNat + a1.size + 2 + a2.size + 2) = False := eq_false (by omega)
                   have hz4 : (9223372036854775807 < ji27.toNat + a1.size + 2 + a2.size + 2 + (t240.size - ji27.toNat)) = False := eq_false (by omega)
                   have hyC := c37l0
                   rw [hy0, hy1, Int.ofNat_toNat] at hyC
                   clear hyT hy0 hy1
                   go_wp2_with (first | (go_at_call 8; (with_reducible refine (http_Parse.calls kj20 ((((((t240.extract 0 ((ji27) : Int).toNat) ++ a1) ++ (⟨#[58, 32]⟩ : ByteArray)) ++ a2) ++ (⟨#[13, 10]⟩ : ByteArray)) ++ (t240.extract ((ji27) : Int).toNat t240.size)) t245 t246 t247 t248 _ ?side1 A38.out).mono ?_); (case side1 => exact LaidU.below HU.out (bl HB.out)); rintro e w42 ⟨rfl, hb⟩; replace BK239 := Aside0.mk (blk_below (pk BK239.out) hb); replace HB := Aside0.mk (below_step (bl HB.out) hb); (try clear hb); (try clear hb2); (try clear hk); (try clear hi)) | ((with_reducible refine gate_dst (N := 12) rfl ?_); refine box_event ?hg (N := 12) ?hd (cs := #[.string (⟨#[]⟩ : ByteArray), .string (⟨#[]⟩ : ByteArray), .string (⟨#[]⟩ : ByteArray)]) (t := 23) ?hr ?_; (case hd => rfl); (case hg => rfl); (case hr => first | (go_simp; done) | (go_simp; rfl)); intro gb249 hg w43 hbox hb; have BK249 := Aside0.mk (hbox); have GW249 := Aside0.mk (gs (w := w) hg (bl HB.out)); have GE249 := Aside0.mk (gs (w := w) hg (bl HB.out)); replace HB := Aside0.mk (below_step (bl HB.out) hb); have NB239_249 := Aside0.mk ((gl (g := gb239) hg (pk BK239.out))); have NB249_239 := Aside0.mk ((gm (g := gb239) hg (pk BK239.out))); replace BK239 := Aside0.mk (blk_below (pk BK239.out) hb); clear hb hbox hg; have hnb44 := NB249_239.out; have hnc44 := NB239_249.out; obtain ⟨hcz45_0, hcz45_1, hcz45_2, hfz45_0, hfz45_1, hfz45_2⟩ := cz3 BK249.out) | (go_at_call 7; (with_reducible refine (lodestarlaw04_sure.calls kj20  t250 _ ?side1 A40.out).mono ?_); (case side1 => exact LaidU.below HU.out (bl HB.out)); rintro e w46 ⟨rfl, hb⟩; replace BK239 := Aside0.mk (blk_below (g := gb239) (o := .cells #[.string a0_0, .string a0_1, .string a0_2] 23 (0, 0)) (by refine pk ?_; refine blk_far ?_ NB239_249.out _; refine pk ?_; refine blk_far ?_ NB239_249.out _; refine pk ?_; refine blk_far ?_ NB239_249.out _; exact pk BK239.out) hb); replace BK249 := Aside0.mk (blk_below (g := gb249) (o := .cells #[.string t245, .string t246, .string t247] 23 (0, 0)) (by refine pk ?_; refine blk_put (cs := #[.string t245, .string t246, .string (⟨#[]⟩ : ByteArray)]) ?_ 2 _ rfl; refine pk ?_; refine blk_put (cs := #[.string t245, .string (⟨#[]⟩ : ByteArray), .string (⟨#[]⟩ : ByteArray)]) ?_ 1 _ rfl; refine pk ?_; refine blk_put (cs := #[.string (⟨#[]⟩ : ByteArray), .string (⟨#[]⟩ : ByteArray), .string (⟨#[]⟩ : ByteArray)]) ?_ 0 _ rfl; exact pk BK249.out) hb); replace HB := Aside0.mk (below_step (bl HB.out) hb); (try clear hb); (try clear hb2); (try clear hk); (try clear hi)))
                   repeat (go_quiet (first | (go_at_call 8; (with_reducible refine (http_Parse.calls kj20 ((((((t240.extract 0 ((ji27) : Int).toNat) ++ a1) ++ (⟨#[58, 32]⟩ : ByteArray)) ++ a2) ++ (⟨#[13, 10]⟩ : ByteArray)) ++ (t240.extract ((ji27) : Int).toNat t240.size)) t245 t246 t247 t248 _ ?side1 A38.out).mono ?_); (case side1 => exact LaidU.below HU.out (bl HB.out)); rintro e w42 ⟨rfl, hb⟩; replace BK239 := Aside0.mk (blk_below (pk BK239.out) hb); replace HB := Aside0.mk (below_step (bl HB.out) hb); (try clear hb); (try clear hb2); (try clear hk); (try clear hi)) | ((with_reducible refine gate_dst (N := 12) rfl ?_); refine box_event ?hg (N := 12) ?hd (cs := #[.string (⟨#[]⟩ : ByteArray), .string (⟨#[]⟩ : ByteArray), .string (⟨#[]⟩ : ByteArray)]) (t := 23) ?hr ?_; (case hd => rfl); (case hg => rfl); (case hr => first | (go_simp; done) | (go_simp; rfl)); intro gb249 hg w43 hbox hb; have BK249 := Aside0.mk (hbox); have GW249 := Aside0.mk (gs (w := w) hg (bl HB.out)); have GE249 := Aside0.mk (gs (w := w) hg (bl HB.out)); replace HB := Aside0.mk (below_step (bl HB.out) hb); have NB239_249 := Aside0.mk ((gl (g := gb239) hg (pk BK239.out))); have NB249_239 := Aside0.mk ((gm (g := gb239) hg (pk BK239.out))); replace BK239 := Aside0.mk (blk_below (pk BK239.out) hb); clear hb hbox hg; have hnb44 := NB249_239.out; have hnc44 := NB239_249.out; obtain ⟨hcz45_0, hcz45_1, hcz45_2, hfz45_0, hfz45_1, hfz45_2⟩ := cz3 BK249.out) | (go_at_call 7; (with_reducible refine (lodestarlaw04_sure.calls kj20  t250 _ ?side1 A40.out).mono ?_); (case side1 => exact LaidU.below HU.out (bl HB.out)); rintro e w46 ⟨rfl, hb⟩; replace BK239 := Aside0.mk (blk_below (g := gb239) (o := .cells #[.string a0_0, .string a0_1, .string a0_2] 23 (0, 0)) (by refine pk ?_; refine blk_far ?_ NB239_249.out _; refine pk ?_; refine blk_far ?_ NB239_249.out _; refine pk ?_; refine blk_far ?_ NB239_249.out _; exact pk BK239.out) hb); replace BK249 := Aside0.mk (blk_below (g := gb249) (o := .cells #[.string t245, .string t246, .string t247] 23 (0, 0)) (by refine pk ?_; refine blk_put (cs := #[.string t245, .string t246, .string (⟨#[]⟩ : ByteArray)]) ?_ 2 _ rfl; refine pk ?_; refine blk_put (cs := #[.string t245, .string (⟨#[]⟩ : ByteArray), .string (⟨#[]⟩ : ByteArray)]) ?_ 1 _ rfl; refine pk ?_; refine blk_put (cs := #[.string (⟨#[]⟩ : ByteArray), .string (⟨#[]⟩ : ByteArray), .string (⟨#[]⟩ : ByteArray)]) ?_ 0 _ rfl; exact pk BK249.out) hb); replace HB := Aside0.mk (below_step (bl HB.out) hb); (try clear hb); (try clear hb2); (try clear hk); (try clear hi))); try go_wp2_with (first | (go_at_call 8; (with_reducible refine (http_Parse.calls kj20 ((((((t240.extract 0 ((ji27) : Int).toNat) ++ a1) ++ (⟨#[58, 32]⟩ : ByteArray)) ++ a2) ++ (⟨#[13, 10]⟩ : ByteArray)) ++ (t240.extract ((ji27) : Int).toNat t240.size)) t245 t246 t247 t248 _ ?side1 A38.out).mono ?_); (case side1 => exact LaidU.below HU.out (bl HB.out)); rintro e w42 ⟨rfl, hb⟩; replace BK239 := Aside0.mk (blk_below (pk BK239.out) hb); replace HB := Aside0.mk (below_step (bl HB.out) hb); (try clear hb); (try clear hb2); (try clear hk); (try clear hi)) | ((with_reducible refine gate_dst (N := 12) rfl ?_); refine box_event ?hg (N := 12) ?hd (cs := #[.string (⟨#[]⟩ : ByteArray), .string (⟨#[]⟩ : ByteArray), .string (⟨#[]⟩ : ByteArray)]) (t := 23) ?hr ?_; (case hd => rfl); (case hg => rfl); (case hr => first | (go_simp; done) | (go_simp; rfl)); intro gb249 hg w43 hbox hb; have BK249 := Aside0.mk (hbox); have GW249 := Aside0.mk (gs (w := w) hg (bl HB.out)); have GE249 := Aside0.mk (gs (w := w) hg (bl HB.out)); replace HB := Aside0.mk (below_step (bl HB.out) hb); have NB239_249 := Aside0.mk ((gl (g := gb239) hg (pk BK239.out))); have NB249_239 := Aside0.mk ((gm (g := gb239) hg (pk BK239.out))); replace BK239 := Aside0.mk (blk_below (pk BK239.out) hb); clear hb hbox hg; have hnb44 := NB249_239.out; have hnc44 := NB239_249.out; obtain ⟨hcz45_0, hcz45_1, hcz45_2, hfz45_0, hfz45_1, hfz45_2⟩ := cz3 BK249.out) | (go_at_call 7; (with_reducible refine (lodestarlaw04_sure.calls kj20  t250 _ ?side1 A40.out).mono ?_); (case side1 => exact LaidU.below HU.out (bl HB.out)); rintro e w46 ⟨rfl, hb⟩; replace BK239 := Aside0.mk (blk_below (g := gb239) (o := .cells #[.string a0_0, .string a0_1, .string a0_2] 23 (0, 0)) (by refine pk ?_; refine blk_far ?_ NB239_249.out _; refine pk ?_; refine blk_far ?_ NB239_249.out _; refine pk ?_; refine blk_far ?_ NB239_249.out _; exact pk BK239.out) hb); replace BK249 := Aside0.mk (blk_below (g := gb249) (o := .cells #[.string t245, .string t246, .string t247] 23 (0, 0)) (by refine pk ?_; refine blk_put (cs := #[.string t245, .string t246, .string (⟨#[]⟩ : ByteArray)]) ?_ 2 _ rfl; refine pk ?_; refine blk_put (cs := #[.string t245, .string (⟨#[]⟩ : ByteArray), .string (⟨#[]⟩ : ByteArray)]) ?_ 1 _ rfl; refine pk ?_; refine blk_put (cs := #[.string (⟨#[]⟩ : ByteArray), .string (⟨#[]⟩ : ByteArray), .string (⟨#[]⟩ : ByteArray)]) ?_ 0 _ rfl; exact pk BK249.out) hb); replace HB := Aside0.mk (below_step (bl HB.out) hb); (try clear hb); (try clear hb2); (try clear hk); (try clear hi))))
                   go_ret
                   exact ⟨by first | rfl | (simp [errW_none, errW_some] <;> rfl) | (simp only [← hji27]; first | rfl | (simp [errW_none, errW_some] <;> rfl)) | exact congrArg (fun b_ => Ending.returned (.bool b_)) hE_.out | (simp [*, errW_none, errW_some] <;> rfl), bl HB.out⟩
                  ·rw [if_neg c39] at H
                   have c39b0 : (t248 == 41) = false := beq_eq_false_iff_ne.mpr c39
                   have c39b1 : (t248 != 41) = true := bne_iff_ne.mpr c39
                   exact absurd (Option.some.inj H) (by simp)
                 ·rw [if_neg c37] at H
                  have c37b0 : decide (4096 < (wrap64 ((((((((t240.extract 0 ((ji27) : Int).toNat) ++ a1) ++ (⟨#[58, 32]⟩ : ByteArray)) ++ a2) ++ (⟨#[13, 10]⟩ : ByteArray)) ++ (t240.extract ((ji27) : Int).toNat t240.size)).size : Int) - (a0_2.size : Int)))) = false := decide_eq_false c37
                  (try (have c37l0 := c37b0; simp only [ByteArray.size_append, lit_size, List.length_cons, List.length_nil, Nat.zero_add, Nat.reduceAdd, Int.natCast_add, Int.cast_ofNat_Int] at c37l0))
                  (try (have c37l1 := c37b1; simp only [ByteArray.size_append, lit_size, List.length_cons, List.length_nil, Nat.zero_add, Nat.reduceAdd, Int.natCast_add, Int.cast_ofNat_Int] at c37l1))
                  clear c37
                  replace H := Option.bind_eq_some_iff.mp H
                  obtain ⟨⟨t251, t252, t253, t254⟩, A470, H⟩ := H
                  replace H : (if (t251.toList == a0_0.toList && (t252.toList == a0_1.toList && (t253.toList == a0_2.toList))) = true then (if t254 = 0 then ((lodestarlaw04_sure.f kj20).bind fun t256 => (some t256)) else (some false)) else (some false)) = some true := H
                  have A47 := Aside0.mk A470
                  clear A470
                  by_cases c48 : (t251.toList == a0_0.toList && (t252.toList == a0_1.toList && (t253.toList == a0_2.toList))) = true
                  ·rw [if_pos c48] at H
                   have c48b0 : (t251.toList == a0_0.toList && (t252.toList == a0_1.toList && (t253.toList == a0_2.toList))) = true := c48
                   (try (have c48b1 : decide (t251.toList = a0_0.toList && (t252.toList == a0_1.toList && (t253.toList == a0_2.toList))) = true := by simpa using c48))
                   (try (have c48b2 : (t251.toList == a0_0.toList && (t252.toList == a0_1.toList && (t253.toList == a0_2.toList))) = true := by simpa using c48))
                   clear c48
                   by_cases c49 : t254 = 0
                   ·rw [if_pos c49] at H
                    have c49b0 : (t254 == 0) = true := beq_iff_eq.mpr c49
                    have c49b1 : (t254 != 0) = false := bne_eq_false_iff_eq.mpr c49
                    clear c49
                    replace H := Option.bind_eq_some_iff.mp H
                    obtain ⟨t256, A500, H⟩ := H
                    replace H : (some t256) = some true := H
                    have A50 := Aside0.mk A500
                    clear A500
                    have hE_ := Aside0.mk (Option.some.inj H)
                    clear H
                    obtain ⟨hcz51_0, hcz51_1, hcz51_2, hfz51_0, hfz51_1, hfz51_2⟩ := cz3 BK239.out
                    have hy0 : (t240.extract 0 ((ji27) : Int).toNat).size = ji27.toNat := by rw [ByteArray.size_extract]; have := of_eq_true c28b0; have := of_eq_true c29b0; omega
                    have hy1 : (t240.extract ((ji27) : Int).toNat t240.size).size = t240.size - ji27.toNat := by rw [ByteArray.size_extract]; omega
                    have hyT := of_eq_true c36b0
                    simp only [ByteArray.size_append, hy0, hy1, show (⟨#[58, 32]⟩ : ByteArray).size = 2 from rfl, show (⟨#[13, 10]⟩ : ByteArray).size = 2 from rfl] at hyT
                    have hz0 : (9223372036854775807 < ji27.toNat + a1.size) = False := eq_false (by omega)
                    have hz1 : (9223372036854775807 < ji27.toNat + a1.size + 2) = False := eq_false (by omega)
                    have hz2 : (9223372036854775807 < ji27.toNat + a1.size + 2 + a2.size) = False := eq_false (by omega)
                    have hz3 : (9223372036854775807 < ji27.toNat + a1.size + 2 + a2.size + 2) = False := eq_false (by omega)
                    have hz4 : (9223372036854775807 < ji27.toNat + a1.size + 2 + a2.size + 2 + (t240.size - ji27.toNat)) = False := eq_false (by omega)
                    have hyC := c37l0
                    rw [hy0, hy1, Int.ofNat_toNat] at hyC
                    clear hyT hy0 hy1
                    go_wp2_with (first | (go_at_call 8; (with_reducible refine (http_Parse.calls kj20 ((((((t240.extract 0 ((ji27) : Int).toNat) ++ a1) ++ (⟨#[58, 32]⟩ : ByteArray)) ++ a2) ++ (⟨#[13, 10]⟩ : ByteArray)) ++ (t240.extract ((ji27) : Int).toNat t240.size)) t251 t252 t253 t254 _ ?side1 A47.out).mono ?_); (case side1 => exact LaidU.below HU.out (bl HB.out)); rintro e w52 ⟨rfl, hb⟩; replace BK239 := Aside0.mk (blk_below (pk BK239.out) hb); replace HB := Aside0.mk (below_step (bl HB.out) hb); (try clear hb); (try clear hb2); (try clear hk); (try clear hi)) | ((with_reducible refine gate_dst (N := 14) rfl ?_); refine box_event ?hg (N := 14) ?hd (cs := #[.string (⟨#[]⟩ : ByteArray), .string (⟨#[]⟩ : ByteArray), .string (⟨#[]⟩ : ByteArray)]) (t := 23) ?hr ?_; (case hd => rfl); (case hg => rfl); (case hr => first | (go_simp; done) | (go_simp; rfl)); intro gb255 hg w53 hbox hb; have BK255 := Aside0.mk (hbox); have GW255 := Aside0.mk (gs (w := w) hg (bl HB.out)); have GE255 := Aside0.mk (gs (w := w) hg (bl HB.out)); replace HB := Aside0.mk (below_step (bl HB.out) hb); have NB239_255 := Aside0.mk ((gl (g := gb239) hg (pk BK239.out))); have NB255_239 := Aside0.mk ((gm (g := gb239) hg (pk BK239.out))); replace BK239 := Aside0.mk (blk_below (pk BK239.out) hb); clear hb hbox hg; have hnb54 := NB255_239.out; have hnc54 := NB239_255.out; obtain ⟨hcz55_0, hcz55_1, hcz55_2, hfz55_0, hfz55_1, hfz55_2⟩ := cz3 BK255.out; obtain ⟨hcz56_0, hcz56_1, hcz56_2, hfz56_0, hfz56_1, hfz56_2⟩ := cz3 BK239.out) | (go_at_call 7; (with_reducible refine (lodestarlaw04_sure.calls kj20  t256 _ ?side1 A50.out).mono ?_); (case side1 => exact LaidU.below HU.out (bl HB.out)); rintro e w57 ⟨rfl, hb⟩; replace BK239 := Aside0.mk (blk_below (g := gb239) (o := .cells #[.string a0_0, .string a0_1, .string a0_2] 23 (0, 0)) (by refine pk ?_; refine blk_far ?_ NB239_255.out _; refine pk ?_; refine blk_far ?_ NB239_255.out _; refine pk ?_; refine blk_far ?_ NB239_255.out _; exact pk BK239.out) hb); replace BK255 := Aside0.mk (blk_below (g := gb255) (o := .cells #[.string t251, .string t252, .string t253] 23 (0, 0)) (by refine pk ?_; refine blk_put (cs := #[.string t251, .string t252, .string (⟨#[]⟩ : ByteArray)]) ?_ 2 _ rfl; refine pk ?_; refine blk_put (cs := #[.string t251, .string (⟨#[]⟩ : ByteArray), .string (⟨#[]⟩ : ByteArray)]) ?_ 1 _ rfl; refine pk ?_; refine blk_put (cs := #[.string (⟨#[]⟩ : ByteArray), .string (⟨#[]⟩ : ByteArray), .string (⟨#[]⟩ : ByteArray)]) ?_ 0 _ rfl; exact pk BK255.out) hb); replace HB := Aside0.mk (below_step (bl HB.out) hb); (try clear hb); (try clear hb2); (try clear hk); (try clear hi)))
                    repeat (go_quiet (first | (go_at_call 8; (with_reducible refine (http_Parse.calls kj20 ((((((t240.extract 0 ((ji27) : Int).toNat) ++ a1) ++ (⟨#[58, 32]⟩ : ByteArray)) ++ a2) ++ (⟨#[13, 10]⟩ : ByteArray)) ++ (t240.extract ((ji27) : Int).toNat t240.size)) t251 t252 t253 t254 _ ?side1 A47.out).mono ?_); (case side1 => exact LaidU.below HU.out (bl HB.out)); rintro e w52 ⟨rfl, hb⟩; replace BK239 := Aside0.mk (blk_below (pk BK239.out) hb); replace HB := Aside0.mk (below_step (bl HB.out) hb); (try clear hb); (try clear hb2); (try clear hk); (try clear hi)) | ((with_reducible refine gate_dst (N := 14) rfl ?_); refine box_event ?hg (N := 14) ?hd (cs := #[.string (⟨#[]⟩ : ByteArray), .string (⟨#[]⟩ : ByteArray), .string (⟨#[]⟩ : ByteArray)]) (t := 23) ?hr ?_; (case hd => rfl); (case hg => rfl); (case hr => first | (go_simp; done) | (go_simp; rfl)); intro gb255 hg w53 hbox hb; have BK255 := Aside0.mk (hbox); have GW255 := Aside0.mk (gs (w := w) hg (bl HB.out)); have GE255 := Aside0.mk (gs (w := w) hg (bl HB.out)); replace HB := Aside0.mk (below_step (bl HB.out) hb); have NB239_255 := Aside0.mk ((gl (g := gb239) hg (pk BK239.out))); have NB255_239 := Aside0.mk ((gm (g := gb239) hg (pk BK239.out))); replace BK239 := Aside0.mk (blk_below (pk BK239.out) hb); clear hb hbox hg; have hnb54 := NB255_239.out; have hnc54 := NB239_255.out; obtain ⟨hcz55_0, hcz55_1, hcz55_2, hfz55_0, hfz55_1, hfz55_2⟩ := cz3 BK255.out; obtain ⟨hcz56_0, hcz56_1, hcz56_2, hfz56_0, hfz56_1, hfz56_2⟩ := cz3 BK239.out) | (go_at_call 7; (with_reducible refine (lodestarlaw04_sure.calls kj20  t256 _ ?side1 A50.out).mono ?_); (case side1 => exact LaidU.below HU.out (bl HB.out)); rintro e w57 ⟨rfl, hb⟩; replace BK239 := Aside0.mk (blk_below (g := gb239) (o := .cells #[.string a0_0, .string a0_1, .string a0_2] 23 (0, 0)) (by refine pk ?_; refine blk_far ?_ NB239_255.out _; refine pk ?_; refine blk_far ?_ NB239_255.out _; refine pk ?_; refine blk_far ?_ NB239_255.out _; exact pk BK239.out) hb); replace BK255 := Aside0.mk (blk_below (g := gb255) (o := .cells #[.string t251, .string t252, .string t253] 23 (0, 0)) (by refine pk ?_; refine blk_put (cs := #[.string t251, .string t252, .string (⟨#[]⟩ : ByteArray)]) ?_ 2 _ rfl; refine pk ?_; refine blk_put (cs := #[.string t251, .string (⟨#[]⟩ : ByteArray), .string (⟨#[]⟩ : ByteArray)]) ?_ 1 _ rfl; refine pk ?_; refine blk_put (cs := #[.string (⟨#[]⟩ : ByteArray), .string (⟨#[]⟩ : ByteArray), .string (⟨#[]⟩ : ByteArray)]) ?_ 0 _ rfl; exact pk BK255.out) hb); replace HB := Aside0.mk (below_step (bl HB.out) hb); (try clear hb); (try clear hb2); (try clear hk); (try clear hi))); try go_wp2_with (first | (go_at_call 8; (with_reducible refine (http_Parse.calls kj20 ((((((t240.extract 0 ((ji27) : Int).toNat) ++ a1) ++ (⟨#[58, 32]⟩ : ByteArray)) ++ a2) ++ (⟨#[13, 10]⟩ : ByteArray)) ++ (t240.extract ((ji27) : Int).toNat t240.size)) t251 t252 t253 t254 _ ?side1 A47.out).mono ?_); (case side1 => exact LaidU.below HU.out (bl HB.out)); rintro e w52 ⟨rfl, hb⟩; replace BK239 := Aside0.mk (blk_below (pk BK239.out) hb); replace HB := Aside0.mk (below_step (bl HB.out) hb); (try clear hb); (try clear hb2); (try clear hk); (try clear hi)) | ((with_reducible refine gate_dst (N := 14) rfl ?_); refine box_event ?hg (N := 14) ?hd (cs := #[.string (⟨#[]⟩ : ByteArray), .string (⟨#[]⟩ : ByteArray), .string (⟨#[]⟩ : ByteArray)]) (t := 23) ?hr ?_; (case hd => rfl); (case hg => rfl); (case hr => first | (go_simp; done) | (go_simp; rfl)); intro gb255 hg w53 hbox hb; have BK255 := Aside0.mk (hbox); have GW255 := Aside0.mk (gs (w := w) hg (bl HB.out)); have GE255 := Aside0.mk (gs (w := w) hg (bl HB.out)); replace HB := Aside0.mk (below_step (bl HB.out) hb); have NB239_255 := Aside0.mk ((gl (g := gb239) hg (pk BK239.out))); have NB255_239 := Aside0.mk ((gm (g := gb239) hg (pk BK239.out))); replace BK239 := Aside0.mk (blk_below (pk BK239.out) hb); clear hb hbox hg; have hnb54 := NB255_239.out; have hnc54 := NB239_255.out; obtain ⟨hcz55_0, hcz55_1, hcz55_2, hfz55_0, hfz55_1, hfz55_2⟩ := cz3 BK255.out; obtain ⟨hcz56_0, hcz56_1, hcz56_2, hfz56_0, hfz56_1, hfz56_2⟩ := cz3 BK239.out) | (go_at_call 7; (with_reducible refine (lodestarlaw04_sure.calls kj20  t256 _ ?side1 A50.out).mono ?_); (case side1 => exact LaidU.below HU.out (bl HB.out)); rintro e w57 ⟨rfl, hb⟩; replace BK239 := Aside0.mk (blk_below (g := gb239) (o := .cells #[.string a0_0, .string a0_1, .string a0_2] 23 (0, 0)) (by refine pk ?_; refine blk_far ?_ NB239_255.out _; refine pk ?_; refine blk_far ?_ NB239_255.out _; refine pk ?_; refine blk_far ?_ NB239_255.out _; exact pk BK239.out) hb); replace BK255 := Aside0.mk (blk_below (g := gb255) (o := .cells #[.string t251, .string t252, .string t253] 23 (0, 0)) (by refine pk ?_; refine blk_put (cs := #[.string t251, .string t252, .string (⟨#[]⟩ : ByteArray)]) ?_ 2 _ rfl; refine pk ?_; refine blk_put (cs := #[.string t251, .string (⟨#[]⟩ : ByteArray), .string (⟨#[]⟩ : ByteArray)]) ?_ 1 _ rfl; refine pk ?_; refine blk_put (cs := #[.string (⟨#[]⟩ : ByteArray), .string (⟨#[]⟩ : ByteArray), .string (⟨#[]⟩ : ByteArray)]) ?_ 0 _ rfl; exact pk BK255.out) hb); replace HB := Aside0.mk (below_step (bl HB.out) hb); (try clear hb); (try clear hb2); (try clear hk); (try clear hi))))
                    go_ret
                    exact ⟨by first | rfl | (simp [errW_none, errW_some] <;> rfl) | (simp only [← hji27]; first | rfl | (simp [errW_none, errW_some] <;> rfl)) | exact congrArg (fun b_ => Ending.returned (.bool b_)) hE_.out | (simp [*, errW_none, errW_some] <;> rfl), bl HB.out⟩
                   ·rw [if_neg c49] at H
                    have c49b0 : (t254 == 0) = false := beq_eq_false_iff_ne.mpr c49
                    have c49b1 : (t254 != 0) = true := bne_iff_ne.mpr c49
                    exact absurd (Option.some.inj H) (by simp)
                  ·rw [if_neg c48] at H
                   have c48b0 : (t251.toList == a0_0.toList && (t252.toList == a0_1.toList && (t253.toList == a0_2.toList))) = false := by simpa using c48
                   (try (have c48b1 : decide (t251.toList = a0_0.toList && (t252.toList == a0_1.toList && (t253.toList == a0_2.toList))) = false := by simpa using c48))
                   (try (have c48b2 : (t251.toList == a0_0.toList && (t252.toList == a0_1.toList && (t253.toList == a0_2.toList))) = false := by simpa using c48))
                   (try (have c48b3 : ¬ (t251.toList = a0_0.toList && (t252.toList == a0_1.toList && (t253.toList == a0_2.toList))) := by simpa using c48))
                   clear c48
                   exact absurd (Option.some.inj H) (by simp)
                ·rw [if_neg c36] at H
                 exact absurd H (by simp)
               ·rw [if_neg c33] at H
                exact absurd H (by simp)
              ·rw [if_neg c32] at H
               exact absurd H (by simp)
             ·rw [if_neg c31] at H
              exact absurd H (by simp)
            ·rw [if_neg c30] at H
             exact absurd H (by simp)
           ·rw [if_neg c29] at H
            exact absurd H (by simp)
          ·rw [if_neg c28] at H
           exact absurd H (by simp)

end Go.Proofs.YteeiljjjgkinhaaDoor.PHttpE
