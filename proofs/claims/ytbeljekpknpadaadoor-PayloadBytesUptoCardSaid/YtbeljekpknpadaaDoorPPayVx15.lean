-- Written by a program of this session on top of the print: some functions by hand.
import Derived.Test.YtbeljekpknpadaaDoorPPayVx0
import Derived.Test.YtbeljekpknpadaaDoorPPayVx10
import Derived.Test.YtbeljekpknpadaaDoorPPayVx14
namespace Go.Proofs.YtbeljekpknpadaaDoor.PPayV
open Go.RowKit Go.Proofs.YtbeljekpknpadaaDoorW.PrintWords Go.Proofs.YtbeljekpknpadaaDoorW.PrintLast Go.Proofs.YtbeljekpknpadaaDoorW.PrintMore
attribute [local go_sem] max2_int min2_int max_two min_two max_three min_three max_four min_four   -- for this text's walks alone
set_option linter.unusedVariables false
set_option linter.unusedSimpArgs false

/-! ### lodestarref05_Decode: function 20 -/
mutual
def lodestarref05_Decode.l0 : Nat → Int → Int → ByteArray → Int → Bool → Int → List (S59) → Option (Int × (List (S59)) × (List (S61)) × Int × Int)
 | 0, _, _, _, _, _, _, _ => none
 | k + 1, x7, x8, x363000, x363001, x363002, x368000, x368001 => if x8 < x7 then (lodestarref05_Decode.j1 k x7 x8 (!x363002) x363000 x363001 x363002 x368000 x368001) else (lodestarref05_Decode.j1 k x7 x8 false x363000 x363001 x363002 x368000 x368001)
def lodestarref05_Decode.j1 : Nat → Int → Int → Bool → ByteArray → Int → Bool → Int → List (S59) → Option (Int × (List (S59)) × (List (S61)) × Int × Int)
 | 0, _, _, _, _, _, _, _, _ => none
 | k + 1, x7, x8, x33, x363000, x363001, x363002, x368000, x368001 => if x33 = true then ((lodestarref05_B_Num.f k x363000 x363001 x363002 1).bind fun bt372 => ((lodestarref05_B_Cut.f bt372.2.1 bt372.2.2.1 bt372.2.2.2 (wrap64 (bt372.1))).bind fun bt376 => ((lodestarref05_B_Num.f k bt376.2.1 bt376.2.2.1 bt376.2.2.2 1).bind fun bt381 => (lodestarref05_Decode.l1 k x7 x8 (wrap64 (bt381.1)) 0 bt381.2.1 bt381.2.2.1 bt381.2.2.2 x368000 x368001 bt376.1 ([] : List Int))))) else ((lodestarref05_B_Num.f k x363000 x363001 x363002 1).bind fun bt398 => (lodestarref05_Decode.l2 k (wrap64 (bt398.1)) 0 bt398.2.1 bt398.2.2.1 bt398.2.2.2 x368000 x368001 ([] : List (S61))))
def lodestarref05_Decode.l1 : Nat → Int → Int → Int → Int → ByteArray → Int → Bool → Int → List (S59) → ByteArray → List Int → Option (Int × (List (S59)) × (List (S61)) × Int × Int)
 | 0, _, _, _, _, _, _, _, _, _, _, _ => none
 | k + 1, x7, x8, x10, x11, x363000, x363001, x363002, x368000, x368001, x381000, x381001 => if x11 < x10 then (if x363002 = true then (if x368001.length < 3518437208883 then (lodestarref05_Decode.l0 k x7 (wrap64 (x8 + 1)) x363000 x363001 x363002 x368000 (x368001 ++ [(⟨x381000, x381001⟩ : S59)])) else (none)) else ((lodestarref05_B_Num.f k x363000 x363001 x363002 2).bind fun bt388 => (if x381001.length < 17592186044416 then (lodestarref05_Decode.l1 k x7 x8 x10 (wrap64 (x11 + 1)) bt388.2.1 bt388.2.2.1 bt388.2.2.2 x368000 x368001 x381000 (x381001 ++ [wrap64 ((wrap64 (bt388.1)) - 32768)])) else (none)))) else (if x368001.length < 3518437208883 then (lodestarref05_Decode.l0 k x7 (wrap64 (x8 + 1)) x363000 x363001 x363002 x368000 (x368001 ++ [(⟨x381000, x381001⟩ : S59)])) else (none))
def lodestarref05_Decode.l2 : Nat → Int → Int → ByteArray → Int → Bool → Int → List (S59) → List (S61) → Option (Int × (List (S59)) × (List (S61)) × Int × Int)
 | 0, _, _, _, _, _, _, _, _ => none
 | k + 1, x7, x12, x363000, x363001, x363002, x368000, x368001, x368002 => if x12 < x7 then (lodestarref05_Decode.j4 k x7 x12 (!x363002) x363000 x363001 x363002 x368000 x368001 x368002) else (lodestarref05_Decode.j4 k x7 x12 false x363000 x363001 x363002 x368000 x368001 x368002)
def lodestarref05_Decode.j4 : Nat → Int → Int → Bool → ByteArray → Int → Bool → Int → List (S59) → List (S61) → Option (Int × (List (S59)) × (List (S61)) × Int × Int)
 | 0, _, _, _, _, _, _, _, _, _ => none
 | k + 1, x7, x12, x84, x363000, x363001, x363002, x368000, x368001, x368002 => if x84 = true then ((lodestarref05_B_Num.f k x363000 x363001 x363002 1).bind fun bt403 => ((lodestarref05_B_Cut.f bt403.2.1 bt403.2.2.1 bt403.2.2.2 (wrap64 (bt403.1))).bind fun bt407 => ((lodestarref05_B_Num.f k bt407.2.1 bt407.2.2.1 bt407.2.2.2 1).bind fun bt412 => (if (wrap64 (bt412.1)) = 1 then ((lodestarref05_B_Num.f k bt412.2.1 bt412.2.2.1 bt412.2.2.2 8).bind fun bt416 => (if x368002.length < 2932031007402 then (lodestarref05_Decode.l2 k x7 (wrap64 (x12 + 1)) bt416.2.1 bt416.2.2.1 bt416.2.2.2 x368000 x368001 (x368002 ++ [(⟨bt407.1, (⟨wrap64 (bt412.1), wrap64 (bt416.1), (⟨#[]⟩ : ByteArray)⟩ : S33)⟩ : S61)])) else (none))) else (if (wrap64 (bt412.1)) = 2 then ((lodestarref05_B_Num.f k bt412.2.1 bt412.2.2.1 bt412.2.2.2 2).bind fun bt423 => ((lodestarref05_B_Cut.f bt423.2.1 bt423.2.2.1 bt423.2.2.2 (wrap64 (bt423.1))).bind fun bt427 => (if x368002.length < 2932031007402 then (lodestarref05_Decode.l2 k x7 (wrap64 (x12 + 1)) bt427.2.1 bt427.2.2.1 bt427.2.2.2 x368000 x368001 (x368002 ++ [(⟨bt407.1, (⟨wrap64 (bt412.1), 0, bt427.1⟩ : S33)⟩ : S61)])) else (none)))) else (if (wrap64 (bt412.1)) = 3 then ((lodestarref05_B_Num.f k bt412.2.1 bt412.2.2.1 bt412.2.2.2 1).bind fun bt434 => (if x368002.length < 2932031007402 then (lodestarref05_Decode.l2 k x7 (wrap64 (x12 + 1)) bt434.2.1 bt434.2.2.1 bt434.2.2.2 x368000 x368001 (x368002 ++ [(⟨bt407.1, (⟨wrap64 (bt412.1), wrap64 (bt434.1), (⟨#[]⟩ : ByteArray)⟩ : S33)⟩ : S61)])) else (none))) else (if x368002.length < 2932031007402 then (lodestarref05_Decode.l2 k x7 (wrap64 (x12 + 1)) bt412.2.1 bt412.2.2.1 bt412.2.2.2 x368000 x368001 (x368002 ++ [(⟨bt407.1, (⟨wrap64 (bt412.1), 0, (⟨#[]⟩ : ByteArray)⟩ : S33)⟩ : S61)])) else (none)))))))) else (if x363002 = true then (some (0, ([] : List (S59)), ([] : List (S61)), 0, 52)) else ((lodestarref05_May.f k x368000 x368001 x368002).bind fun t402 => (if t402 = true then (some (x368000, x368001, x368002, x363001, 0)) else (some (0, ([] : List (S59)), ([] : List (S61)), 0, 52)))))
end
def lodestarref05_Decode.f (k : Nat) (a0 : ByteArray) : Option (Int × (List (S59)) × (List (S61)) × Int × Int) := (lodestarref05_B_Num.f k a0 0 false 8).bind fun bt363 => ((lodestarref05_B_Num.f k bt363.2.1 bt363.2.2.1 bt363.2.2.2 1).bind fun bt368 => (lodestarref05_Decode.l0 k (wrap64 (bt368.1)) 0 bt368.2.1 bt368.2.2.1 bt368.2.2.2 (wrap64 (bt363.1)) ([] : List (S59))))
theorem lodestarref05_Decode.mono_l : ∀ k, (∀ y0 y1 y2 y3 y4 y5 y6, LeO (lodestarref05_Decode.l0 k y0 y1 y2 y3 y4 y5 y6) (lodestarref05_Decode.l0 (k + 1) y0 y1 y2 y3 y4 y5 y6)) ∧ (∀ y0 y1 y2 y3 y4 y5 y6 y7, LeO (lodestarref05_Decode.j1 k y0 y1 y2 y3 y4 y5 y6 y7) (lodestarref05_Decode.j1 (k + 1) y0 y1 y2 y3 y4 y5 y6 y7)) ∧ (∀ y0 y1 y2 y3 y4 y5 y6 y7 y8 y9 y10, LeO (lodestarref05_Decode.l1 k y0 y1 y2 y3 y4 y5 y6 y7 y8 y9 y10) (lodestarref05_Decode.l1 (k + 1) y0 y1 y2 y3 y4 y5 y6 y7 y8 y9 y10)) ∧ (∀ y0 y1 y2 y3 y4 y5 y6 y7, LeO (lodestarref05_Decode.l2 k y0 y1 y2 y3 y4 y5 y6 y7) (lodestarref05_Decode.l2 (k + 1) y0 y1 y2 y3 y4 y5 y6 y7)) ∧ (∀ y0 y1 y2 y3 y4 y5 y6 y7 y8, LeO (lodestarref05_Decode.j4 k y0 y1 y2 y3 y4 y5 y6 y7 y8) (lodestarref05_Decode.j4 (k + 1) y0 y1 y2 y3 y4 y5 y6 y7 y8))
 | 0 => ⟨fun _ _ _ _ _ _ _ r h => by simp [lodestarref05_Decode.l0] at h, fun _ _ _ _ _ _ _ _ r h => by simp [lodestarref05_Decode.j1] at h, fun _ _ _ _ _ _ _ _ _ _ _ r h => by simp [lodestarref05_Decode.l1] at h, fun _ _ _ _ _ _ _ _ r h => by simp [lodestarref05_Decode.l2] at h, fun _ _ _ _ _ _ _ _ _ r h => by simp [lodestarref05_Decode.j4] at h⟩
 | k + 1 => by
  obtain ⟨ih0, ih1, ih2, ih3, ih4⟩ := lodestarref05_Decode.mono_l k
  refine ⟨?_, ?_, ?_, ?_, ?_⟩
  all_goals intros
  all_goals first | unfold lodestarref05_Decode.l0 | unfold lodestarref05_Decode.j1 | unfold lodestarref05_Decode.l1 | unfold lodestarref05_Decode.l2 | unfold lodestarref05_Decode.j4
  all_goals repeat' first
   | (with_reducible exact ih0 _ _ _ _ _ _ _)
   | (with_reducible exact ih1 _ _ _ _ _ _ _ _)
   | (with_reducible exact ih2 _ _ _ _ _ _ _ _ _ _ _)
   | (with_reducible exact ih3 _ _ _ _ _ _ _ _)
   | (with_reducible exact ih4 _ _ _ _ _ _ _ _ _)
   | (with_reducible exact lodestarref05_B_Num.mono _ _ _ _ _)
   | (with_reducible exact lodestarref05_May.mono _ _ _ _)
   | (with_reducible exact LeO.refl _)
   | (with_reducible exact LeO.none _)
   | (with_reducible refine LeO.ite ?_ ?_)
   | (with_reducible refine LeO.bind ?_ (fun _ => ?_))
   | exact ih0 _ _ _ _ _ _ _
   | exact ih1 _ _ _ _ _ _ _ _
   | exact ih2 _ _ _ _ _ _ _ _ _ _ _
   | exact ih3 _ _ _ _ _ _ _ _
   | exact ih4 _ _ _ _ _ _ _ _ _
   | exact lodestarref05_B_Num.mono _ _ _ _ _
   | exact lodestarref05_May.mono _ _ _ _
   | exact LeO.none _
   | refine LeO.ite ?_ ?_
   | refine LeO.bind ?_ (fun _ => ?_)
theorem lodestarref05_Decode.mono : ∀ a0 k, LeO (lodestarref05_Decode.f k a0) (lodestarref05_Decode.f (k + 1) a0) := by
 intro a0 k
 obtain ⟨ih0, ih1, ih2, ih3, ih4⟩ := lodestarref05_Decode.mono_l k
 unfold lodestarref05_Decode.f
 repeat' first
   | (with_reducible exact ih0 _ _ _ _ _ _ _)
   | (with_reducible exact ih1 _ _ _ _ _ _ _ _)
   | (with_reducible exact ih2 _ _ _ _ _ _ _ _ _ _ _)
   | (with_reducible exact ih3 _ _ _ _ _ _ _ _)
   | (with_reducible exact ih4 _ _ _ _ _ _ _ _ _)
   | (with_reducible exact lodestarref05_B_Num.mono _ _ _ _ _)
   | (with_reducible exact lodestarref05_May.mono _ _ _ _)
   | (with_reducible exact LeO.refl _)
   | (with_reducible exact LeO.none _)
   | (with_reducible refine LeO.ite ?_ ?_)
   | (with_reducible refine LeO.bind ?_ (fun _ => ?_))
   | exact ih0 _ _ _ _ _ _ _
   | exact ih1 _ _ _ _ _ _ _ _
   | exact ih2 _ _ _ _ _ _ _ _ _ _ _
   | exact ih3 _ _ _ _ _ _ _ _
   | exact ih4 _ _ _ _ _ _ _ _ _
   | exact lodestarref05_B_Num.mono _ _ _ _ _
   | exact lodestarref05_May.mono _ _ _ _
   | exact LeO.none _
   | refine LeO.ite ?_ ?_
   | refine LeO.bind ?_ (fun _ => ?_)
def lodestarref05_Decode.T12 : Bool × List (List Nat × List Nat) := (true, [([], []), ([0], [0]), ([], []), ([2], [2]), ([3], [3]), ([4], [4]), ([5], [5]), ([1, 6, 3], [1, 6]), ([0, 1, 2, 3, 4, 5, 6, 7], []), ([8, 7, 7, 0, 1, 2, 3, 4, 5, 6, 7], [7, 8])])
def lodestarref05_Decode.B12 : List Nat := [0, 1, 0, 4, 12, 28, 60, 127, 255, 511]
theorem lodestarref05_Decode.tab12 : rtab .any (opsOf Tryd.f20 12) = lodestarref05_Decode.T12 := by kernel_rfl
theorem lodestarref05_Decode.bits12 : waitsOk lodestarref05_Decode.T12.2 lodestarref05_Decode.B12 = true := by kernel_rfl
def lodestarref05_Decode.T30 : Bool × List (List Nat × List Nat) := (true, [([], []), ([], []), ([1], [1]), ([2], [2]), ([3], [3]), ([0, 0], [0]), ([4, 5, 0, 1, 2, 3, 4, 5], [4]), ([6, 0, 1, 2, 3, 4, 5, 6], [])])
def lodestarref05_Decode.B30 : List Nat := [0, 0, 2, 6, 14, 1, 63, 127]
theorem lodestarref05_Decode.tab30 : rtab .any (opsOf Tryd.f20 30) = lodestarref05_Decode.T30 := by kernel_rfl
theorem lodestarref05_Decode.bits30 : waitsOk lodestarref05_Decode.T30.2 lodestarref05_Decode.B30 = true := by kernel_rfl
set_option maxHeartbeats 8000000 in
set_option maxRecDepth 100000 in
theorem lodestarref05_Decode.calls (k : Nat) (a0 : ByteArray) (r1 : Int) (r2 : List (S59)) (r3 : List (S61)) (r4 : Int) (r5 : Int) (w : World) (h : lodestarref05_Decode.f k a0 = some (r1, r2, r3, r4, r5)) :
  Calls Tryd.prog 20 #[.string a0] w fun e w' => ∃ v1_ v2_ : Value, e = .returned (.tuple #[.agg #[.int .i64 r1, v1_, v2_], .int .i64 r4, .int .i64 r5]) ∧ Kd.S k59 59 w' w.heap.size (fun _ => True) v1_ r2 ∧ Kd.R k61 61 w' w.heap.size (fun _ => True) v2_ r3 ∧ Below w.heap.size w w' := by
 have hu25 := Tryd.underlying25
 have hu82 := Tryd.underlying82
 have hu59 := Tryd.underlying59
 have hu61 := Tryd.underlying61
 have HB := Aside0.mk (Below.refl w.heap.size w)
 have H : ((lodestarref05_B_Num.f k a0 0 false 8).bind fun bt363 => ((lodestarref05_B_Num.f k bt363.2.1 bt363.2.2.1 bt363.2.2.2 1).bind fun bt368 => (lodestarref05_Decode.l0 k (wrap64 (bt368.1)) 0 bt368.2.1 bt368.2.2.1 bt368.2.2.2 (wrap64 (bt363.1)) ([] : List (S59))))) = some (r1, r2, r3, r4, r5) := h
 clear h
 replace H := Option.bind_eq_some_iff.mp H
 obtain ⟨⟨t363, t364, t365, t366⟩, A20, H⟩ := H
 replace H : ((lodestarref05_B_Num.f k t364 t365 t366 1).bind fun bt368 => (lodestarref05_Decode.l0 k (wrap64 (bt368.1)) 0 bt368.2.1 bt368.2.2.1 bt368.2.2.2 (wrap64 (t363)) ([] : List (S59)))) = some (r1, r2, r3, r4, r5) := H
 have A2 := Aside0.mk A20
 clear A20
 replace H := Option.bind_eq_some_iff.mp H
 obtain ⟨⟨t368, t369, t370, t371⟩, A30, H⟩ := H
 replace H : (lodestarref05_Decode.l0 k (wrap64 (t368)) 0 t369 t370 t371 (wrap64 (t363)) ([] : List (S59))) = some (r1, r2, r3, r4, r5) := H
 have A3 := Aside0.mk A30
 clear A30
 have H' := Aside0.mk H
 clear H
 go_enter Tryd.func20, Tryd.ntmps20
 go_wp2_with (first | ((with_reducible refine gate_dst (N := 2) rfl ?_); refine box_event ?hg (N := 2) ?hd (cs := #[.int .i64 0, .slice none 0 0, .slice none 0 0]) (t := 25) ?hr ?_; (case hd => rfl); (case hg => rfl); (case hr => first | (go_simp; done) | (go_simp; rfl)); intro gb361 hg w4 hbox hb; have BK361 := Aside0.mk (hbox); have GW361 := Aside0.mk (gs (w := w) hg (bl HB.out)); have GE361 := Aside0.mk (gs (w := w) hg (bl HB.out)); replace HB := Aside0.mk (below_step (bl HB.out) hb); clear hb hbox hg) | ((with_reducible refine gate_dst (N := 16) rfl ?_); refine box_event ?hg (N := 16) ?hd (cs := #[.string a0, .int .i64 0, .bool false]) (t := 82) ?hr ?_; (case hd => rfl); (case hg => rfl); (case hr => first | (go_simp; done) | (go_simp; rfl)); intro gb362 hg w5 hbox hb; have BK362 := Aside0.mk (hbox); have GW362 := Aside0.mk (gs (w := w) hg (bl HB.out)); have GE362 := Aside0.mk (gs (w := w) hg (bl HB.out)); replace HB := Aside0.mk (below_step (bl HB.out) hb); have NB361_362 := Aside0.mk ((gl (g := gb361) hg (pk BK361.out))); have NB362_361 := Aside0.mk ((gm (g := gb361) hg (pk BK361.out))); replace BK361 := Aside0.mk (blk_below (pk BK361.out) hb); clear hb hbox hg) | ((with_reducible refine gate_callee (f := 41) rfl ?_); refine goesL_ (some 18) rfl rfl Tryd.func41 kr rfl #[.pointer (some ⟨gb362, 0, none⟩), .int .i64 8] rfl ga ?_; (with_reducible refine (lodestarref05_B_Num.calls k gb362 a0 0 false 8 t363 t364 t365 t366 w _ ?side1 ?side2 A2.out).mono ?_); (case side1 => exact ⟨pk BK362.out, GE362.out⟩); (case side2 => exact bl HB.out); rintro e w6 ⟨rfl, hi, hb, hk⟩; refine ⟨_, rfl, ?_⟩; replace BK361 := Aside0.mk (KeepBut.blk hk (g' := gb361) (o := .cells #[.int .i64 0, .slice none 0 0, .slice none 0 0] 25 (0, 0)) (pk BK361.out) NB361_362.out (by simp)); replace HB := Aside0.mk (hb); replace BK362 := Aside0.mk (hi.1); (try clear hb); (try clear hb2); (try clear hk); (try clear hi)) | ((with_reducible refine gate_dst (N := 6) rfl ?_); refine box_event ?hg (N := 6) ?hd (cs := #[.int .i64 0, .slice none 0 0, .slice none 0 0]) (t := 25) ?hr ?_; (case hd => rfl); (case hg => rfl); (case hr => first | (go_simp; done) | (go_simp; rfl)); intro gb367 hg w7 hbox hb; have BK367 := Aside0.mk (hbox); have GW367 := Aside0.mk (gs (w := w) hg (bl HB.out)); have GE367 := Aside0.mk (gs (w := w) hg (bl HB.out)); replace HB := Aside0.mk (below_step (bl HB.out) hb); have NB361_367 := Aside0.mk ((gl (g := gb361) hg (pk BK361.out))); have NB367_361 := Aside0.mk ((gm (g := gb361) hg (pk BK361.out))); replace BK361 := Aside0.mk (blk_below (pk BK361.out) hb); have NB362_367 := Aside0.mk ((gl (g := gb362) hg (pk BK362.out))); have NB367_362 := Aside0.mk ((gm (g := gb362) hg (pk BK362.out))); replace BK362 := Aside0.mk (blk_below (pk BK362.out) hb); clear hb hbox hg; have hnb8 := NB367_361.out; have hnc8 := NB361_367.out; have hnb9 := NB367_362.out; have hnc9 := NB362_367.out; obtain ⟨hcz10_0, hcz10_1, hcz10_2, hfz10_0, hfz10_1, hfz10_2⟩ := cz3 BK367.out) | ((with_reducible refine gate_callee (f := 41) rfl ?_); refine goesL_ (some 22) rfl rfl Tryd.func41 kr rfl #[.pointer (some ⟨gb362, 0, none⟩), .int .i64 1] rfl ga ?_; (with_reducible refine (lodestarref05_B_Num.calls k gb362 t364 t365 t366 1 t368 t369 t370 t371 w _ ?side1 ?side2 A3.out).mono ?_); (case side1 => exact ⟨by refine pk ?_; refine blk_far ?_ NB362_367.out _; refine pk ?_; refine blk_far ?_ NB362_367.out _; refine pk ?_; refine blk_far ?_ NB362_367.out _; exact pk BK362.out, GE362.out⟩); (case side2 => exact bl HB.out); rintro e w11 ⟨rfl, hi, hb, hk⟩; refine ⟨_, rfl, ?_⟩; replace BK361 := Aside0.mk (KeepBut.blk hk (g' := gb361) (o := .cells #[.int .i64 0, .slice none 0 0, .slice none 0 0] 25 (0, 0)) (by refine pk ?_; refine blk_far ?_ NB361_367.out _; refine pk ?_; refine blk_far ?_ NB361_367.out _; refine pk ?_; refine blk_far ?_ NB361_367.out _; exact pk BK361.out) NB361_362.out (by simp)); replace BK367 := Aside0.mk (KeepBut.blk hk (g' := gb367) (o := .cells #[.int .i64 (wrap64 (t363)), .slice none 0 0, .slice none 0 0] 25 (0, 0)) (by refine pk ?_; refine blk_put (cs := #[.int .i64 (wrap64 (t363)), .slice none 0 0, .slice none 0 0]) ?_ 2 _ rfl; refine pk ?_; refine blk_put (cs := #[.int .i64 (wrap64 (t363)), .slice none 0 0, .slice none 0 0]) ?_ 1 _ rfl; refine pk ?_; refine blk_put (cs := #[.int .i64 0, .slice none 0 0, .slice none 0 0]) ?_ 0 _ rfl; exact pk BK367.out) NB367_362.out (by simp)); replace HB := Aside0.mk (hb); replace BK362 := Aside0.mk (hi.1); (try clear hb); (try clear hb2); (try clear hk); (try clear hi)))
 go_loopg [8] k (fun kq v8 w' => ∃ (x8_1 : Int) (x363000_1 : ByteArray) (x363001_1 : Int) (x363002_1 : Bool) (x368001_1 : List (S59)) (u368001 : Value), v8 = .int .i64 x8_1 ∧ Aside0 (lodestarref05_Decode.l0 kq (wrap64 (t368)) x8_1 x363000_1 x363001_1 x363002_1 (wrap64 (t363)) x368001_1 = some (r1, r2, r3, r4, r5)) ∧ Aside0 (kq ≤ k) ∧ Aside0 (Kd.S k59 59 w' w.heap.size (fun _ => True) u368001 x368001_1) ∧ Aside0 (w'.heap[gb361]? = some (.cells #[.int .i64 0, (.slice none 0 0), (.slice none 0 0)] 25 (0, 0))) ∧ Aside0 (w'.heap[gb367]? = some (.cells #[.int .i64 (wrap64 (t363)), u368001, (.slice none 0 0)] 25 (0, 0))) ∧ Aside0 (w'.heap[gb362]? = some (.cells #[.string x363000_1, .int .i64 x363001_1, .bool x363002_1] 82 (0, 0))) ∧ Aside0 (Below w.heap.size w w'))
 case atStart => exact ⟨(0), (t369), (t370), (t371), (([] : List (S59))), (.slice none 0 0), hsr, H', ⟨Nat.le_refl _⟩, ⟨by first | exact Kd.S_nil _ _ _ _ _ | exact Kd.N_nil _ _ _ _ _ | exact Kd.V_nil _ _ _ _ _ | exact Kd.Q_nil _ _ _ _ _ | exact Kd.R_nil _ _ _ _ _⟩, ⟨pk BK361.out⟩, ⟨pk BK367.out⟩, ⟨pk BK362.out⟩, ⟨bl HB.out⟩⟩
 case round =>
  clear H'
  try clear c2
  try clear p2
  try clear c4
  try clear p6
  try clear c8
  try clear c9
  try clear hcz10_0 hcz10_1 hcz10_2 hfz10_0 hfz10_1 hfz10_2
  obtain ⟨x8_1, x363000_1, x363001_1, x363002_1, x368001_1, u368001, rfl, HA, HK1, HO_368001, BK361, BK367, BK362, HB⟩ := hrel
  cases gk with
  | zero => exact absurd HA.out (by simp [lodestarref05_Decode.l0])
  | succ k1 =>
   have H := HA.out
   clear HA
   simp only [lodestarref05_Decode.l0] at H
   have HC12 := Aside0.mk H
   clear H
   go_upto_region 5 with (fail)
   go_cut [33] (fun v33 wc => ∃ (kq : Nat) (x33_11 : Bool), v33 = .bool x33_11 ∧ Aside0 (lodestarref05_Decode.j1 kq (wrap64 (t368)) x8_1 x33_11 x363000_1 x363001_1 x363002_1 (wrap64 (t363)) x368001_1 = some (r1, r2, r3, r4, r5)) ∧ Aside0 (kq ≤ k1) ∧ Aside0 (Kd.S k59 59 wc w.heap.size (fun _ => True) u368001 x368001_1) ∧ Aside0 (wc.heap[gb361]? = some (.cells #[.int .i64 0, (.slice none 0 0), (.slice none 0 0)] 25 (0, 0))) ∧ Aside0 (wc.heap[gb367]? = some (.cells #[.int .i64 (wrap64 (t363)), u368001, (.slice none 0 0)] 25 (0, 0))) ∧ Aside0 (wc.heap[gb362]? = some (.cells #[.string x363000_1, .int .i64 x363001_1, .bool x363002_1] 82 (0, 0))) ∧ Aside0 (Below w.heap.size w wc))
   case first =>
    have H := HC12.out
    clear HC12
    by_cases c13 : x8_1 < (wrap64 (t368))
    ·rw [if_pos c13] at H
     have c13b0 : decide (x8_1 < (wrap64 (t368))) = true := decide_eq_true c13
     clear c13
     (first | rw [c13b0] | (simp only [i64_w, i32_w]; rw [c13b0]) | skip)
     have H' := Aside0.mk H
     clear H
     have hnb14 := NB362_361.out
     have hnc14 := NB361_362.out
     have hnb15 := NB362_367.out
     have hnc15 := NB367_362.out
     obtain ⟨hcz16_0, hcz16_1, hcz16_2, hfz16_0, hfz16_1, hfz16_2⟩ := cz3 BK362.out
     go_wp2
     go_meet
     case rel => exact ⟨_, (!x363002_1), hsr, H', ⟨by have := HK1.out; first | omega | exact Nat.le_refl _⟩, ⟨pS HO_368001.out⟩, ⟨pk BK361.out⟩, ⟨pk BK367.out⟩, ⟨pk BK362.out⟩, ⟨bl HB.out⟩⟩
    ·rw [if_neg c13] at H
     have c13b0 : decide (x8_1 < (wrap64 (t368))) = false := decide_eq_false c13
     clear c13
     (first | rw [c13b0] | (simp only [i64_w, i32_w]; rw [c13b0]) | skip)
     have H' := Aside0.mk H
     clear H
     go_wp2
     go_meet
     case rel => exact ⟨_, (false), hsr, H', ⟨by have := HK1.out; first | omega | exact Nat.le_refl _⟩, ⟨pS HO_368001.out⟩, ⟨pk BK361.out⟩, ⟨pk BK367.out⟩, ⟨pk BK362.out⟩, ⟨bl HB.out⟩⟩
   case rest =>
    clear HC12
    try clear c1
    try clear c2
    try clear p2
    try clear c4
    try clear p6
    try clear c8
    try clear c9
    try clear c13
    try clear c13b0
    try clear c14
    try clear c15
    try clear hcz16_0 hcz16_1 hcz16_2 hfz16_0 hfz16_1 hfz16_2
    try clear hcz10_0 hcz10_1 hcz10_2 hfz10_0 hfz10_1 hfz10_2
    try clear p2
    try clear p6
    obtain ⟨kq, x33_11, rfl, HA, HJ11, HO_368001, BK361, BK367, BK362, HB⟩ := hcut
    cases kq with
    | zero => exact absurd HA.out (by simp [lodestarref05_Decode.j1])
    | succ kj11 =>
     have H := HA.out
     clear HA
     simp only [lodestarref05_Decode.j1] at H
     by_cases c17 : x33_11 = true
     ·subst c17
      have H1 : ((lodestarref05_B_Num.f kj11 x363000_1 x363001_1 x363002_1 1).bind fun bt372 => ((lodestarref05_B_Cut.f bt372.2.1 bt372.2.2.1 bt372.2.2.2 (wrap64 (bt372.1))).bind fun bt376 => ((lodestarref05_B_Num.f kj11 bt376.2.1 bt376.2.2.1 bt376.2.2.2 1).bind fun bt381 => (lodestarref05_Decode.l1 kj11 (wrap64 (t368)) x8_1 (wrap64 (bt381.1)) 0 bt381.2.1 bt381.2.2.1 bt381.2.2.2 (wrap64 (t363)) x368001_1 bt376.1 ([] : List Int))))) = some (r1, r2, r3, r4, r5) := by rw [if_pos rfl] at H; exact H
      clear H
      have H := H1
      clear H1
      replace H := Option.bind_eq_some_iff.mp H
      obtain ⟨⟨t372, t373, t374, t375⟩, A180, H⟩ := H
      replace H : ((lodestarref05_B_Cut.f t373 t374 t375 (wrap64 (t372))).bind fun bt376 => ((lodestarref05_B_Num.f kj11 bt376.2.1 bt376.2.2.1 bt376.2.2.2 1).bind fun bt381 => (lodestarref05_Decode.l1 kj11 (wrap64 (t368)) x8_1 (wrap64 (bt381.1)) 0 bt381.2.1 bt381.2.2.1 bt381.2.2.2 (wrap64 (t363)) x368001_1 bt376.1 ([] : List Int)))) = some (r1, r2, r3, r4, r5) := H
      have A18 := Aside0.mk A180
      clear A180
      replace H := Option.bind_eq_some_iff.mp H
      obtain ⟨⟨t376, t377, t378, t379⟩, A190, H⟩ := H
      replace H : ((lodestarref05_B_Num.f kj11 t377 t378 t379 1).bind fun bt381 => (lodestarref05_Decode.l1 kj11 (wrap64 (t368)) x8_1 (wrap64 (bt381.1)) 0 bt381.2.1 bt381.2.2.1 bt381.2.2.2 (wrap64 (t363)) x368001_1 t376 ([] : List Int))) = some (r1, r2, r3, r4, r5) := H
      have A19 := Aside0.mk A190
      clear A190
      replace H := Option.bind_eq_some_iff.mp H
      obtain ⟨⟨t381, t382, t383, t384⟩, A200, H⟩ := H
      replace H : (lodestarref05_Decode.l1 kj11 (wrap64 (t368)) x8_1 (wrap64 (t381)) 0 t382 t383 t384 (wrap64 (t363)) x368001_1 t376 ([] : List Int)) = some (r1, r2, r3, r4, r5) := H
      have A20 := Aside0.mk A200
      clear A200
      have H' := Aside0.mk H
      clear H
      go_wp2_with (first | ((with_reducible refine gate_callee (f := 41) rfl ?_); refine goesL_ (some 38) rfl rfl Tryd.func41 kr rfl #[.pointer (some ⟨gb362, 0, none⟩), .int .i64 1] rfl ga ?_; (with_reducible refine (lodestarref05_B_Num.calls kj11 gb362 x363000_1 x363001_1 x363002_1 1 t372 t373 t374 t375 w _ ?side1 ?side2 A18.out).mono ?_); (case side1 => exact ⟨pk BK362.out, GE362.out⟩); (case side2 => exact bl HB.out); rintro e w21 ⟨rfl, hi, hb, hk⟩; refine ⟨_, rfl, ?_⟩; replace HO_368001 := Aside0.mk (Kd.S_mono (Kd.S_keep (IsS82.apartS (show IsS82 w _ gb362 x363000_1 x363001_1 x363002_1 from by repeat (first | (with_reducible first | exact (Aside0.mk (⟨BK362.out, GE362.out⟩ : IsS82 w _ gb362 x363000_1 x363001_1 x363002_1)).out | apply IsS82.alloc | apply IsS82.drewN | apply IsS82.drew | apply IsS82.set_0 | apply IsS82.set_1 | apply IsS82.set_2 | refine IsS82.far ?_ NB362_361.out _ | refine IsS82.far ?_ NB362_367.out _) | exact (Aside0.mk (⟨BK362.out, GE362.out⟩ : IsS82 w _ gb362 x363000_1 x363001_1 x363002_1)).out)) (pS HO_368001.out) (by decide)) hk (fun _ h => h.2)) (fun _ h => h.1)); replace BK361 := Aside0.mk (KeepBut.blk hk (g' := gb361) (o := .cells #[.int .i64 0, .slice none 0 0, .slice none 0 0] 25 (0, 0)) (pk BK361.out) NB361_362.out (by simp)); replace BK367 := Aside0.mk (KeepBut.blk hk (g' := gb367) (o := .cells #[.int .i64 (wrap64 (t363)), u368001, .slice none 0 0] 25 (0, 0)) (pk BK367.out) NB367_362.out (by simp)); replace HB := Aside0.mk (hb); replace BK362 := Aside0.mk (hi.1); (try clear hb); (try clear hb2); (try clear hk); (try clear hi)) | ((with_reducible refine gate_callee (f := 42) rfl ?_); refine goesL_ (some 40) rfl rfl Tryd.func42 kr rfl #[.pointer (some ⟨gb362, 0, none⟩), .int .i64 (wrap64 (t372))] rfl ga ?_; (with_reducible refine (lodestarref05_B_Cut.calls gb362 t373 t374 t375 (wrap64 (t372)) t376 t377 t378 t379 w _ ?side1 ?side2 A19.out).mono ?_); (case side1 => exact ⟨pk BK362.out, GE362.out⟩); (case side2 => exact bl HB.out); rintro e w22 ⟨rfl, hi, hb, hk⟩; refine ⟨_, rfl, ?_⟩; replace HO_368001 := Aside0.mk (Kd.S_mono (Kd.S_keep (IsS82.apartS (show IsS82 w _ gb362 t373 t374 t375 from by repeat (first | (with_reducible first | exact (Aside0.mk (⟨BK362.out, GE362.out⟩ : IsS82 w _ gb362 t373 t374 t375)).out | apply IsS82.alloc | apply IsS82.drewN | apply IsS82.drew | apply IsS82.set_0 | apply IsS82.set_1 | apply IsS82.set_2 | refine IsS82.far ?_ NB362_361.out _ | refine IsS82.far ?_ NB362_367.out _) | exact (Aside0.mk (⟨BK362.out, GE362.out⟩ : IsS82 w _ gb362 t373 t374 t375)).out)) (pS HO_368001.out) (by decide)) hk (fun _ h => h.2)) (fun _ h => h.1)); replace BK361 := Aside0.mk (KeepBut.blk hk (g' := gb361) (o := .cells #[.int .i64 0, .slice none 0 0, .slice none 0 0] 25 (0, 0)) (pk BK361.out) NB361_362.out (by simp)); replace BK367 := Aside0.mk (KeepBut.blk hk (g' := gb367) (o := .cells #[.int .i64 (wrap64 (t363)), u368001, .slice none 0 0] 25 (0, 0)) (pk BK367.out) NB367_362.out (by simp)); replace HB := Aside0.mk (hb); replace BK362 := Aside0.mk (hi.1); (try clear hb); (try clear hb2); (try clear hk); (try clear hi)) | ((with_reducible refine gate_dst (N := 9) rfl ?_); refine box_event ?hg (N := 9) ?hd (cs := #[.string (⟨#[]⟩ : ByteArray), .slice none 0 0]) (t := 59) ?hr ?_; (case hd => rfl); (case hg => rfl); (case hr => first | (go_simp; done) | (go_simp; rfl)); intro gb380 hg w23 hbox hb; replace HO_368001 := Aside0.mk (Kd.S_below (Kd.S_elderB (pS HO_368001.out) gb380 (Nat.le_of_eq hg.symm)) hb); have BK380 := Aside0.mk (hbox); have GW380 := Aside0.mk (gs (w := w) hg (bl HB.out)); have GE380 := Aside0.mk (gs (w := w) hg (bl HB.out)); replace HB := Aside0.mk (below_step (bl HB.out) hb); have NB361_380 := Aside0.mk ((gl (g := gb361) hg (pk BK361.out))); have NB380_361 := Aside0.mk ((gm (g := gb361) hg (pk BK361.out))); replace BK361 := Aside0.mk (blk_below (pk BK361.out) hb); have NB367_380 := Aside0.mk ((gl (g := gb367) hg (pk BK367.out))); have NB380_367 := Aside0.mk ((gm (g := gb367) hg (pk BK367.out))); replace BK367 := Aside0.mk (blk_below (pk BK367.out) hb); have NB362_380 := Aside0.mk ((gl (g := gb362) hg (pk BK362.out))); have NB380_362 := Aside0.mk ((gm (g := gb362) hg (pk BK362.out))); replace BK362 := Aside0.mk (blk_below (pk BK362.out) hb); clear hb hbox hg; have hnb24 := NB380_361.out; have hnc24 := NB361_380.out; have hnb25 := NB380_367.out; have hnc25 := NB367_380.out; have hnb26 := NB380_362.out; have hnc26 := NB362_380.out; obtain ⟨hcz27_0, hcz27_1, hfz27_0, hfz27_1⟩ := cz2 BK380.out) | ((with_reducible refine gate_callee (f := 41) rfl ?_); refine goesL_ (some 43) rfl rfl Tryd.func41 kr rfl #[.pointer (some ⟨gb362, 0, none⟩), .int .i64 1] rfl ga ?_; (with_reducible refine (lodestarref05_B_Num.calls kj11 gb362 t377 t378 t379 1 t381 t382 t383 t384 w _ ?side1 ?side2 A20.out).mono ?_); (case side1 => exact ⟨by refine pk ?_; refine blk_far ?_ NB362_380.out _; refine pk ?_; refine blk_far ?_ NB362_380.out _; exact pk BK362.out, GE362.out⟩); (case side2 => exact bl HB.out); rintro e w28 ⟨rfl, hi, hb, hk⟩; refine ⟨_, rfl, ?_⟩; replace HO_368001 := Aside0.mk (Kd.S_mono (Kd.S_keep (IsS82.apartS (show IsS82 w _ gb362 t377 t378 t379 from by repeat (first | (with_reducible first | exact (Aside0.mk (⟨BK362.out, GE362.out⟩ : IsS82 w _ gb362 t377 t378 t379)).out | apply IsS82.alloc | apply IsS82.drewN | apply IsS82.drew | apply IsS82.set_0 | apply IsS82.set_1 | apply IsS82.set_2 | refine IsS82.far ?_ NB362_361.out _ | refine IsS82.far ?_ NB362_367.out _ | refine IsS82.far ?_ NB362_380.out _) | exact (Aside0.mk (⟨BK362.out, GE362.out⟩ : IsS82 w _ gb362 t377 t378 t379)).out)) (by (with_reducible repeat (first | apply Kd.S_alloc | apply Kd.S_drewN | apply Kd.S_drew)); exact (Kd.S_mono (Kd.S_far (p := ⟨gb380, 1, none⟩) (Kd.S_far (p := ⟨gb380, 0, none⟩) (Kd.S_mono HO_368001.out (fun k_ hk => (⟨hk, hk.2⟩ : _ ∧ k_ ≠ gb380))) (fun _ hk => hk.2) (.string t376)) (fun _ hk => hk.2) (.slice none 0 0)) (fun _ h_ => h_.1))) (by decide)) hk (fun _ h => h.2)) (fun _ h => h.1)); replace BK361 := Aside0.mk (KeepBut.blk hk (g' := gb361) (o := .cells #[.int .i64 0, .slice none 0 0, .slice none 0 0] 25 (0, 0)) (by refine pk ?_; refine blk_far ?_ NB361_380.out _; refine pk ?_; refine blk_far ?_ NB361_380.out _; exact pk BK361.out) NB361_362.out (by simp)); replace BK367 := Aside0.mk (KeepBut.blk hk (g' := gb367) (o := .cells #[.int .i64 (wrap64 (t363)), u368001, .slice none 0 0] 25 (0, 0)) (by refine pk ?_; refine blk_far ?_ NB367_380.out _; refine pk ?_; refine blk_far ?_ NB367_380.out _; exact pk BK367.out) NB367_362.out (by simp)); replace BK380 := Aside0.mk (KeepBut.blk hk (g' := gb380) (o := .cells #[.string t376, .slice none 0 0] 59 (0, 0)) (by refine pk ?_; refine blk_put (cs := #[.string t376, .slice none 0 0]) ?_ 1 _ rfl; refine pk ?_; refine blk_put (cs := #[.string (⟨#[]⟩ : ByteArray), .slice none 0 0]) ?_ 0 _ rfl; exact pk BK380.out) NB380_362.out (by simp)); replace HB := Aside0.mk (hb); replace BK362 := Aside0.mk (hi.1); (try clear hb); (try clear hb2); (try clear hk); (try clear hi)))
      go_loopg [11] kj11 (fun kq v11 w' => ∃ (x11_3 : Int) (x363000_3 : ByteArray) (x363001_3 : Int) (x363002_3 : Bool) (x381001_3 : List Int) (u381001 : Value), v11 = .int .i64 x11_3 ∧ Aside0 (lodestarref05_Decode.l1 kq (wrap64 (t368)) x8_1 (wrap64 (t381)) x11_3 x363000_3 x363001_3 x363002_3 (wrap64 (t363)) x368001_1 t376 x381001_3 = some (r1, r2, r3, r4, r5)) ∧ Aside0 (kq ≤ kj11) ∧ Aside0 (Kd.S k59 59 w' w.heap.size (fun k_ => some k_ ≠ (u381001 : Value).ownBlock ∧ k_ ≠ gb380) u368001 x368001_1) ∧ Aside0 (Kd.R (Kd.int .i64) 3 w' w.heap.size (fun _ => True) u381001 x381001_3) ∧ Aside0 (w'.heap[gb361]? = some (.cells #[.int .i64 0, (.slice none 0 0), (.slice none 0 0)] 25 (0, 0))) ∧ Aside0 (w'.heap[gb367]? = some (.cells #[.int .i64 (wrap64 (t363)), u368001, (.slice none 0 0)] 25 (0, 0))) ∧ Aside0 (w'.heap[gb380]? = some (.cells #[.string t376, u381001] 59 (0, 0))) ∧ Aside0 (w'.heap[gb362]? = some (.cells #[.string x363000_3, .int .i64 x363001_3, .bool x363002_3] 82 (0, 0))) ∧ Aside0 (Below w.heap.size w w'))
      case atStart => exact ⟨(0), (t382), (t383), (t384), (([] : List Int)), (.slice none 0 0), hsr, H', ⟨Nat.le_refl _⟩, ⟨by (with_reducible repeat (first | apply Kd.S_alloc | apply Kd.S_drewN | apply Kd.S_drew)); exact Kd.S_mono HO_368001.out (fun _ hk => ⟨(by simp [Value.ownBlock]), hk.2⟩)⟩, ⟨by first | exact Kd.R_nil _ _ _ _ _ | exact Kd.N_nil _ _ _ _ _ | exact Kd.V_nil _ _ _ _ _ | exact Kd.Q_nil _ _ _ _ _ | exact Kd.S_nil _ _ _ _ _⟩, ⟨pk BK361.out⟩, ⟨pk BK367.out⟩, ⟨pk BK380.out⟩, ⟨pk BK362.out⟩, ⟨bl HB.out⟩⟩
      case round =>
       clear H'
       try clear c1
       try clear c2
       try clear p2
       try clear c4
       try clear p6
       try clear c8
       try clear c9
       try clear c13
       try clear c13b0
       try clear c14
       try clear c15
       try clear c17
       try clear c20
       try clear c24
       try clear c25
       try clear c26
       try clear hcz27_0 hcz27_1 hfz27_0 hfz27_1
       try clear hcz16_0 hcz16_1 hcz16_2 hfz16_0 hfz16_1 hfz16_2
       try clear hcz10_0 hcz10_1 hcz10_2 hfz10_0 hfz10_1 hfz10_2
       try clear p2
       try clear p6
       obtain ⟨x11_3, x363000_3, x363001_3, x363002_3, x381001_3, u381001, rfl, HA, HK3, HO_368001, HO_381001, BK361, BK367, BK380, BK362, HB⟩ := hrel
       cases gk with
       | zero => exact absurd HA.out (by simp [lodestarref05_Decode.l1])
       | succ k3 =>
        have H := HA.out
        clear HA
        simp only [lodestarref05_Decode.l1] at H
        by_cases c29 : x11_3 < (wrap64 (t381))
        ·rw [if_pos c29] at H
         have c29b0 : decide (x11_3 < (wrap64 (t381))) = true := decide_eq_true c29
         clear c29
         by_cases c30 : x363002_3 = true
         ·subst c30
          have H1 : (if x368001_1.length < 3518437208883 then (lodestarref05_Decode.l0 k3 (wrap64 (t368)) (wrap64 (x8_1 + 1)) x363000_3 x363001_3 true (wrap64 (t363)) (x368001_1 ++ [(⟨t376, x381001_3⟩ : S59)])) else (none)) = some (r1, r2, r3, r4, r5) := by rw [if_pos rfl] at H; exact H
          clear H
          have H := H1
          clear H1
          by_cases c31 : x368001_1.length < 3518437208883
          ·rw [if_pos c31] at H
           have LMc31 := Aside0.mk c31
           clear c31
           obtain ⟨y385, hy385⟩ : ∃ y_ : List (S59), y_ = (x368001_1 ++ [(⟨t376, x381001_3⟩ : S59)]) := ⟨_, rfl⟩
           replace H : (lodestarref05_Decode.l0 k3 (wrap64 (t368)) (wrap64 (x8_1 + 1)) x363000_3 x363001_3 true (wrap64 (t363)) y385) = some (r1, r2, r3, r4, r5) := by first | (rw [hy385]; with_reducible exact H) | (have H2_ := (Option.bind_some _ _).symm.trans H; rw [hy385]; with_reducible exact H2_) | (have H2_ := (Option.bind_some _ _).symm.trans H; with_reducible exact H2_) | with_reducible exact H | (rw [hy385]; exact H) | exact H
           have Ny385 := Aside0.mk hy385
           clear hy385
           have H' := Aside0.mk H
           clear H
           have hnb32 := NB362_361.out
           have hnc32 := NB361_362.out
           have hnb33 := NB362_367.out
           have hnc33 := NB367_362.out
           have hnb34 := NB362_380.out
           have hnc34 := NB380_362.out
           obtain ⟨hcz35_0, hcz35_1, hcz35_2, hfz35_0, hfz35_1, hfz35_2⟩ := cz3 BK362.out
           have hnb36 := NB367_361.out
           have hnc36 := NB361_367.out
           have hnb37 := NB367_380.out
           have hnc37 := NB380_367.out
           obtain ⟨hcz38_0, hcz38_1, hcz38_2, hfz38_0, hfz38_1, hfz38_2⟩ := cz3 BK367.out
           have hnb39 := NB380_361.out
           have hnc39 := NB361_380.out
           obtain ⟨hcz40_0, hcz40_1, hfz40_0, hfz40_1⟩ := cz2 BK380.out
           obtain ⟨Ao42, co42, eo42⟩ := Kd.R_slice HO_381001.out
           subst eo42
           go_wp2_with (first | ((with_reducible refine gate_builtin (b := .append) (xs := #[.tmp 67, .tmp 69]) rfl ?_); at_builtin; refine Kd.S_append k59 (w0 := w) w.heap.size rfl (.tmp 67) (.tmp 69) 22 59 (.agg #[(.string ⟨#[]⟩), (.slice none 0 0)]) 40 rfl Tryd.underlying22 info59 rfl (by decide) (by omega) u368001 x368001_1 (⟨t376, x381001_3⟩ : S59) [.string t376, .slice Ao42 x381001_3.length co42] (fun k_ => k_ ≠ gb380) (fun k_ => some k_ = (.slice Ao42 x381001_3.length co42 : Value).ownBlock) rfl rfl ?aP (fun k_ hk_ => ((Kd.R_mono (ok' := fun k_ => ((fun k_ => k_ ≠ gb380)) k_ ∧ some k_ ≠ (u368001 : Value).ownBlock) (Kd.R_types (Kd.R_apart' (HO_381001.out) (Kd.S_typed HO_368001.out) (by decide)) BK380.out (by decide)) (fun k_ hk => ⟨hk.2, hk.1.2⟩))).1 k_ hk_.symm) ?aF ?aO ?aB ?aS ?aL ?_; (case aP => exact k59_mkM _ _ _ (⟨t376, x381001_3⟩ : S59) (Kd.R_mono (Kd.R_tight rfl (Kd.R_mono (ok' := fun k_ => ((fun k_ => k_ ≠ gb380)) k_ ∧ some k_ ≠ (u368001 : Value).ownBlock) (Kd.R_types (Kd.R_apart' (HO_381001.out) (Kd.S_typed HO_368001.out) (by decide)) BK380.out (by decide)) (fun k_ hk => ⟨hk.2, hk.1.2⟩))) (fun _ h_ => h_))); (case aB => exact (bl HB.out)); (case aF => exact (fun k_ hk => Kd.freshB (g := gb380) (o := .cells #[.string t376, .slice Ao42 x381001_3.length co42] 59 (0, 0)) (pk BK380.out) k_ hk)); (case aO => exact (by (with_reducible repeat (first | apply Kd.S_alloc | apply Kd.S_drewN | apply Kd.S_drew)); exact Kd.S_mono HO_368001.out (fun k_ hk => ⟨hk.2, fun e_ => hk.1 e_⟩))); (case aS => exact (below_size (bl HB.out))); (case aL => have := LMc31.out; omega); intro v386 w41 ho hb hg hat; rw [← Ny385.out] at ho; replace BK361 := Aside0.mk (blk_grown (g := gb361) (o := .cells #[.int .i64 0, .slice none 0 0, .slice none 0 0] 25 (0, 0)) (pk BK361.out) hg (Kd.S_ne HO_368001.out BK361.out (by decide))); replace BK367 := Aside0.mk (blk_grown (g := gb367) (o := .cells #[.int .i64 (wrap64 (t363)), u368001, .slice none 0 0] 25 (0, 0)) (pk BK367.out) hg (Kd.S_ne HO_368001.out BK367.out (by decide))); replace BK380 := Aside0.mk (blk_grown (g := gb380) (o := .cells #[.string t376, .slice Ao42 x381001_3.length co42] 59 (0, 0)) (pk BK380.out) hg (Kd.S_away HO_368001.out (fun _ hk => hk.2))); replace BK362 := Aside0.mk (blk_grown (g := gb362) (o := .cells #[.string x363000_3, .int .i64 x363001_3, .bool true] 82 (0, 0)) (pk BK362.out) hg (Kd.S_ne HO_368001.out BK362.out (by decide))); replace HB := Aside0.mk (hb); have HO387 := Aside0.mk (ho); clear HO_368001 HO_381001; clear ho hb hg hat; obtain ⟨Ao43, co43, eo43⟩ := Kd.S_slice HO387.out; subst eo43; obtain ⟨hcz44_0, hcz44_1, hcz44_2, hfz44_0, hfz44_1, hfz44_2⟩ := cz3 BK367.out))
           go_roundg k3
           case measure => have := HK1.out; have := HJ11.out; have := HK3.out; omega
           case rel => exact ⟨(wrap64 (x8_1 + 1)), (x363000_3), (x363001_3), (true), (y385), (.slice Ao43 y385.length co43), hsr, H', ⟨by have := HK1.out; have := HJ11.out; have := HK3.out; omega⟩, ⟨by (with_reducible repeat (first | apply Kd.S_alloc | apply Kd.S_drewN | apply Kd.S_drew)); exact Kd.S_mono (Kd.S_far (p := ⟨gb367, 1, none⟩) (Kd.S_types HO387.out BK367.out (by decide)) (fun _ hk => hk.2) (.slice Ao43 y385.length co43)) (fun _ hk => trivial)⟩, ⟨by refine pk ?_; refine blk_far ?_ NB361_367.out _; exact pk BK361.out⟩, ⟨by refine pk ?_; refine blk_put (cs := #[.int .i64 (wrap64 (t363)), u368001, .slice none 0 0]) ?_ 1 _ rfl; exact pk BK367.out⟩, ⟨by refine pk ?_; refine blk_far ?_ NB362_367.out _; exact pk BK362.out⟩, ⟨bl HB.out⟩⟩
          ·rw [if_neg c31] at H
           exact absurd H (by simp)
         ·replace c30 := Bool.eq_false_iff.mpr c30
          subst c30
          have H1 : ((lodestarref05_B_Num.f k3 x363000_3 x363001_3 false 2).bind fun bt388 => (if x381001_3.length < 17592186044416 then (lodestarref05_Decode.l1 k3 (wrap64 (t368)) x8_1 (wrap64 (t381)) (wrap64 (x11_3 + 1)) bt388.2.1 bt388.2.2.1 bt388.2.2.2 (wrap64 (t363)) x368001_1 t376 (x381001_3 ++ [wrap64 ((wrap64 (bt388.1)) - 32768)])) else (none))) = some (r1, r2, r3, r4, r5) := by rw [if_neg (show ¬ (false = true) by decide)] at H; exact H
          clear H
          have H := H1
          clear H1
          replace H := Option.bind_eq_some_iff.mp H
          obtain ⟨⟨t388, t389, t390, t391⟩, A450, H⟩ := H
          replace H : (if x381001_3.length < 17592186044416 then (lodestarref05_Decode.l1 k3 (wrap64 (t368)) x8_1 (wrap64 (t381)) (wrap64 (x11_3 + 1)) t389 t390 t391 (wrap64 (t363)) x368001_1 t376 (x381001_3 ++ [wrap64 ((wrap64 (t388)) - 32768)])) else (none)) = some (r1, r2, r3, r4, r5) := H
          have A45 := Aside0.mk A450
          clear A450
          by_cases c46 : x381001_3.length < 17592186044416
          ·rw [if_pos c46] at H
           have LMc46 := Aside0.mk c46
           clear c46
           obtain ⟨y392, hy392⟩ : ∃ y_ : List Int, y_ = (x381001_3 ++ [wrap64 ((wrap64 (t388)) - 32768)]) := ⟨_, rfl⟩
           replace H : (lodestarref05_Decode.l1 k3 (wrap64 (t368)) x8_1 (wrap64 (t381)) (wrap64 (x11_3 + 1)) t389 t390 t391 (wrap64 (t363)) x368001_1 t376 y392) = some (r1, r2, r3, r4, r5) := by first | (rw [hy392]; with_reducible exact H) | (have H2_ := (Option.bind_some _ _).symm.trans H; rw [hy392]; with_reducible exact H2_) | (have H2_ := (Option.bind_some _ _).symm.trans H; with_reducible exact H2_) | with_reducible exact H | (rw [hy392]; exact H) | exact H
           have Ny392 := Aside0.mk hy392
           clear hy392
           have H' := Aside0.mk H
           clear H
           have hnb47 := NB362_361.out
           have hnc47 := NB361_362.out
           have hnb48 := NB362_367.out
           have hnc48 := NB367_362.out
           have hnb49 := NB362_380.out
           have hnc49 := NB380_362.out
           obtain ⟨hcz50_0, hcz50_1, hcz50_2, hfz50_0, hfz50_1, hfz50_2⟩ := cz3 BK362.out
           try go_wp2
           replace HO_368001 := Aside0.mk (Kd.S_drew HO_368001.out)
           replace HO_381001 := Aside0.mk (Kd.R_drew HO_381001.out)
           replace BK361 := Aside0.mk (blk_drew BK361.out)
           replace BK367 := Aside0.mk (blk_drew BK367.out)
           replace BK380 := Aside0.mk (blk_drew BK380.out)
           replace BK362 := Aside0.mk (blk_drew BK362.out)
           replace HB := Aside0.mk (below_drew1 HB.out)
           refine start_ (n := 10) (S := fun w' => w'.cell? ⟨gb380, 0, none⟩ = some (.string t376) ∧ w'.cell? ⟨gb380, 1, none⟩ = some (u381001)) (ds := [9]) #[false, false, false, false, false, false, false, false, false, false] kr rfl rfl ⟨(blk_cell BK380.out 0).trans rfl, (blk_cell BK380.out 1).trans rfl⟩ (fun hHeld => ?_); refine with_tabW lodestarref05_Decode.tab12 lodestarref05_Decode.bits12 (fun HT_ HW_ => ?_)
           generalize wr.drew = w51 at HO_368001 HO_381001 BK361 BK367 BK380 BK362 HB hHeld ⊢
           refine pure_ (i := 0) (N := some 57) (v := ?_) (a' := ?_) #[true, false, false, false, false, false, false, false, false, false] rfl rfl (any_of HT_.out kr) (fun _ _ _ h => h) (Or.inl ⟨by rfl, ?_⟩) ?_ ?_
           rotate_left
           ·exact wl
           rotate_left
           ·exact ap
           refine pure_ (i := 2) (N := some 59) (v := ?_) (a' := ?_) #[true, false, true, false, false, false, false, false, false, false] rfl rfl (any_of HT_.out kr) (fun _ _ _ h => h) (Or.inl ⟨by rfl, ?_⟩) ?_ ?_
           rotate_left
           ·exact wl
           rotate_left
           ·exact ap
           refine take_ (i := 1) (N := some 58) (v := ?_) (a' := ?_) #[true, true, true, false, false, false, false, false, false, false] rfl rfl (take_ofW HT_.out HW_.out kr) (fun _ _ _ h => h) (Or.inl ⟨by rfl, ?_⟩) hHeld ?_ ?_
           rotate_left
           ·rintro w' ⟨s0, s1⟩
            go_simp
            exact rl
           rotate_left
           ·exact ap
           refine one_ (i := 3) (N := some 60) #[true, true, true, true, false, false, false, false, false, false] rfl rfl (one_of HT_.out kr) (by decide) (fun K hK => ?_)
           refine goes_ Tryd.func41 kr rfl #[.pointer (some ⟨gb362, 0, none⟩), .int .i64 2] (by rfl) rfl rfl ga ?_
           with_reducible refine (lodestarref05_B_Num.calls k3 gb362 x363000_3 x363001_3 false 2 t388 t389 t390 t391 w _ ?side1 ?side2 A45.out).mono ?_
           (case side1 => exact ⟨pk BK362.out, GE362.out⟩)
           (case side2 => exact bl HB.out)
           rintro e w52 ⟨rfl, hi, hb, hk⟩
           refine ⟨_, rfl, ?_⟩
           replace HO_368001 := Aside0.mk (Kd.S_mono (Kd.S_keep (IsS82.apartS (show IsS82 w _ gb362 x363000_3 x363001_3 false from by repeat (first | (with_reducible first | exact (Aside0.mk (⟨BK362.out, GE362.out⟩ : IsS82 w _ gb362 x363000_3 x363001_3 false)).out | apply IsS82.alloc | apply IsS82.drewN | apply IsS82.drew | apply IsS82.set_0 | apply IsS82.set_1 | apply IsS82.set_2 | refine IsS82.far ?_ NB362_361.out _ | refine IsS82.far ?_ NB362_367.out _ | refine IsS82.far ?_ NB362_380.out _) | exact (Aside0.mk (⟨BK362.out, GE362.out⟩ : IsS82 w _ gb362 x363000_3 x363001_3 false)).out)) (pS HO_368001.out) (by decide)) hk (fun _ h => h.2)) (fun _ h => h.1))
           replace HO_381001 := Aside0.mk (Kd.R_mono (Kd.R_keep (IsS82.apart (show IsS82 w _ gb362 x363000_3 x363001_3 false from by repeat (first | (with_reducible first | exact (Aside0.mk (⟨BK362.out, GE362.out⟩ : IsS82 w _ gb362 x363000_3 x363001_3 false)).out | apply IsS82.alloc | apply IsS82.drewN | apply IsS82.drew | apply IsS82.set_0 | apply IsS82.set_1 | apply IsS82.set_2 | refine IsS82.far ?_ NB362_361.out _ | refine IsS82.far ?_ NB362_367.out _ | refine IsS82.far ?_ NB362_380.out _) | exact (Aside0.mk (⟨BK362.out, GE362.out⟩ : IsS82 w _ gb362 x363000_3 x363001_3 false)).out)) (pR HO_381001.out) (by decide)) hk (fun _ h => h.2)) (fun _ h => h.1))
           replace BK361 := Aside0.mk (KeepBut.blk hk (g' := gb361) (o := .cells #[.int .i64 0, .slice none 0 0, .slice none 0 0] 25 (0, 0)) (pk BK361.out) NB361_362.out (by simp))
           replace BK367 := Aside0.mk (KeepBut.blk hk (g' := gb367) (o := .cells #[.int .i64 (wrap64 (t363)), u368001, .slice none 0 0] 25 (0, 0)) (pk BK367.out) NB367_362.out (by simp))
           replace BK380 := Aside0.mk (KeepBut.blk hk (g' := gb380) (o := .cells #[.string t376, u381001] 59 (0, 0)) (pk BK380.out) NB380_362.out (by simp))
           replace HB := Aside0.mk (hb)
           replace BK362 := Aside0.mk (hi.1)
           (try clear hb)
           (try clear hb2)
           (try clear hk)
           (try clear hi)
           refine hK.out _ _ ⟨(blk_cell BK380.out 0).trans rfl, (blk_cell BK380.out 1).trans rfl⟩ (fun hHeld => ?_)
           clear hK K
           refine norm_ (a' := ?_) ?_ ?_
           rotate_left
           ·show Act.put _ (some 60) _ = _
            exact ap
           refine pure_ (i := 4) (N := some 61) (v := ?_) (a' := ?_) #[true, true, true, true, true, false, false, false, false, false] rfl rfl (any_of HT_.out kr) (fun _ _ _ h => h) (Or.inl ⟨by rfl, ?_⟩) ?_ ?_
           rotate_left
           ·exact wl
           rotate_left
           ·exact ap
           refine pure_ (i := 5) (N := some 62) (v := ?_) (a' := ?_) #[true, true, true, true, true, true, false, false, false, false] rfl rfl (any_of HT_.out kr) (fun _ _ _ h => h) (Or.inl ⟨by rfl, ?_⟩) ?_ ?_
           rotate_left
           ·exact wl
           rotate_left
           ·exact ap
           refine one_ (i := 6) (N := some 63) #[true, true, true, true, true, true, true, false, false, false] rfl rfl (one_of HT_.out kr) (by decide) (fun K hK => ?_)
           refine value_ (w1 := ?_) (v := ?_) (by rfl) rfl ?_ ?_
           rotate_left 2
           ·go_simp
            constructor
            ·rfl
            ·rfl
           refine hK.out _ _ ⟨(blk_cell (blk_alloc BK380.out _) 0).trans rfl, (blk_cell (blk_alloc BK380.out _) 1).trans rfl⟩ (fun hHeld => ?_)
           clear hK K
           refine norm_ (a' := ?_) ?_ ?_
           rotate_left
           ·show Act.put _ (some 63) _ = _
            exact ap
           refine one_ (i := 7) (N := some 64) #[true, true, true, true, true, true, true, true, false, false] rfl rfl (one_of HT_.out kr) (by decide) (fun K hK => ?_)
           refine Kd.R_append_step (Kd.int .i64) (w0 := w) w.heap.size (by rfl) (.tmp 58) (.tmp 63) 57 3 (.int .i64 0) 8 rfl Tryd.underlying57 info3 rfl (by decide) (by omega) u381001 x381001_3 (wrap64 ((wrap64 (t388)) - 32768)) [.int .i64 (wrap64 ((wrap64 (t388)) - 32768))] (fun _ => True) (fun _ => False) rfl rfl ?aP (fun _ hk => hk.elim) ?aF ?aO ?aB ?aS ?aL ?_
           (case aP => exact rfl)
           (case aB => exact (bl HB.out))
           (case aF => exact (fun _ _ => trivial))
           (case aO => exact (pR HO_381001.out))
           (case aS => exact (below_size (bl HB.out)))
           (case aL => have := LMc46.out; omega)
           intro v393 w53 ho hb hg hat
           rw [← Ny392.out] at ho
           replace HO_368001 := Aside0.mk (Kd.S_after (ok := (fun k_ => k_ ≠ gb380)) (by (with_reducible repeat (first | apply Kd.S_alloc | apply Kd.S_drewN | apply Kd.S_drew)); exact Kd.S_mono HO_368001.out (fun _ hk => ⟨hk.2, hk.1⟩)) hg hat)
           replace BK361 := Aside0.mk (blk_grown (g := gb361) (o := .cells #[.int .i64 0, .slice none 0 0, .slice none 0 0] 25 (0, 0)) (pk BK361.out) hg (Kd.R_ne HO_381001.out BK361.out (by decide)))
           replace BK367 := Aside0.mk (blk_grown (g := gb367) (o := .cells #[.int .i64 (wrap64 (t363)), u368001, .slice none 0 0] 25 (0, 0)) (pk BK367.out) hg (Kd.R_ne HO_381001.out BK367.out (by decide)))
           replace BK380 := Aside0.mk (blk_grown (g := gb380) (o := .cells #[.string t376, u381001] 59 (0, 0)) (pk BK380.out) hg (Kd.R_ne HO_381001.out BK380.out (by decide)))
           replace BK362 := Aside0.mk (blk_grown (g := gb362) (o := .cells #[.string t389, .int .i64 t390, .bool t391] 82 (0, 0)) (pk BK362.out) hg (Kd.R_ne HO_381001.out BK362.out (by decide)))
           replace HB := Aside0.mk (hb)
           have HO394 := Aside0.mk (ho)
           clear HO_381001
           clear ho hb hg hat
           obtain ⟨Ao54, co54, eo54⟩ := Kd.R_slice HO394.out
           (first | subst eo54 | (injection eo54 with f1_ f2_ f3_; have f4_ := f1_.symm; have f5_ := f3_.symm; clear f1_ f2_ f3_; subst f4_; subst f5_))
           refine hK.out _ _ ⟨(blk_cell BK380.out 0).trans rfl, (blk_cell BK380.out 1).trans rfl⟩ (fun hHeld => ?_)
           clear hK K
           refine norm_ (a' := ?_) ?_ ?_
           rotate_left
           ·show Act.put _ (some 64) _ = _
            exact ap
           refine pure_ (i := 8) (N := some 65) (v := ?_) (a' := ?_) #[true, true, true, true, true, true, true, true, true, false] rfl rfl (any_of HT_.out kr) (fun _ _ _ h => h) (Or.inl ⟨by rfl, ?_⟩) ?_ ?_
           rotate_left
           ·exact wl
           rotate_left
           ·exact ap
           refine last_ (i := 9) (N := none) #[true, true, true, true, true, true, true, true, true, true] rfl rfl (one_of HT_.out kr) (by decide) (fun K hK => ?_)
           have hs55 : w53.cell? ⟨gb380, 1, none⟩ = some (u381001) := (blk_cell BK380.out 1).trans rfl
           have hfs55 := blk_frozen BK380.out 1
           have hns55_0 := NB361_380.out
           have hns55_1 := NB367_380.out
           have hns55_3 := NB362_380.out
           have hms55_0 := NB380_361.out
           have hms55_1 := NB380_367.out
           have hms55_3 := NB380_362.out
           refine skip_ (w1 := ?_) (by rfl) rfl ?_ ?_
           rotate_left
           ·go_simp
            rfl
           refine hK.out _ _ ?_
           clear hK K
           refine done_ (done_of HT_.out kr) ?_
           try go_wp2
           go_roundg k3
           case measure => have := HK1.out; have := HJ11.out; have := HK3.out; omega
           case rel => exact ⟨(wrap64 (x11_3 + 1)), (t389), (t390), (t391), (y392), (.slice Ao54 y392.length co54), hsr, H', ⟨by have := HK1.out; have := HJ11.out; have := HK3.out; omega⟩, ⟨by (with_reducible repeat (first | apply Kd.S_alloc | apply Kd.S_drewN | apply Kd.S_drew)); exact Kd.S_mono (Kd.S_far (p := ⟨gb380, 1, none⟩) (Kd.S_mono HO_368001.out (fun k_ hk => (⟨hk, hk.1⟩ : _ ∧ k_ ≠ gb380))) (fun _ hk => hk.2) (.slice Ao54 y392.length co54)) (fun _ hk => ⟨hk.1.2, hk.1.1⟩)⟩, ⟨by (with_reducible repeat (first | apply Kd.R_alloc | apply Kd.R_drewN | apply Kd.R_drew)); exact Kd.R_mono (Kd.R_far (p := ⟨gb380, 1, none⟩) (Kd.R_types HO394.out BK380.out (by decide)) (fun _ hk => hk.2) (.slice Ao54 y392.length co54)) (fun _ hk => trivial)⟩, ⟨by refine pk ?_; refine blk_far ?_ NB361_380.out _; exact pk BK361.out⟩, ⟨by refine pk ?_; refine blk_far ?_ NB367_380.out _; exact pk BK367.out⟩, ⟨by refine pk ?_; refine blk_put (cs := #[.string t376, u381001]) ?_ 1 _ rfl; exact pk BK380.out⟩, ⟨by refine pk ?_; refine blk_far ?_ NB362_380.out _; exact pk BK362.out⟩, ⟨bl HB.out⟩⟩
          ·rw [if_neg c46] at H
           exact absurd H (by simp)
        ·rw [if_neg c29] at H
         have c29b0 : decide (x11_3 < (wrap64 (t381))) = false := decide_eq_false c29
         clear c29
         by_cases c56 : x368001_1.length < 3518437208883
         ·rw [if_pos c56] at H
          have LMc56 := Aside0.mk c56
          clear c56
          obtain ⟨y395, hy395⟩ : ∃ y_ : List (S59), y_ = (x368001_1 ++ [(⟨t376, x381001_3⟩ : S59)]) := ⟨_, rfl⟩
          replace H : (lodestarref05_Decode.l0 k3 (wrap64 (t368)) (wrap64 (x8_1 + 1)) x363000_3 x363001_3 x363002_3 (wrap64 (t363)) y395) = some (r1, r2, r3, r4, r5) := by first | (rw [hy395]; with_reducible exact H) | (have H2_ := (Option.bind_some _ _).symm.trans H; rw [hy395]; with_reducible exact H2_) | (have H2_ := (Option.bind_some _ _).symm.trans H; with_reducible exact H2_) | with_reducible exact H | (rw [hy395]; exact H) | exact H
          have Ny395 := Aside0.mk hy395
          clear hy395
          have H' := Aside0.mk H
          clear H
          have hnb57 := NB367_361.out
          have hnc57 := NB361_367.out
          have hnb58 := NB367_380.out
          have hnc58 := NB380_367.out
          have hnb59 := NB367_362.out
          have hnc59 := NB362_367.out
          obtain ⟨hcz60_0, hcz60_1, hcz60_2, hfz60_0, hfz60_1, hfz60_2⟩ := cz3 BK367.out
          have hnb61 := NB380_361.out
          have hnc61 := NB361_380.out
          have hnb62 := NB380_362.out
          have hnc62 := NB362_380.out
          obtain ⟨hcz63_0, hcz63_1, hfz63_0, hfz63_1⟩ := cz2 BK380.out
          obtain ⟨Ao65, co65, eo65⟩ := Kd.R_slice HO_381001.out
          subst eo65
          go_wp2_with (first | ((with_reducible refine gate_builtin (b := .append) (xs := #[.tmp 67, .tmp 69]) rfl ?_); at_builtin; refine Kd.S_append k59 (w0 := w) w.heap.size rfl (.tmp 67) (.tmp 69) 22 59 (.agg #[(.string ⟨#[]⟩), (.slice none 0 0)]) 40 rfl Tryd.underlying22 info59 rfl (by decide) (by omega) u368001 x368001_1 (⟨t376, x381001_3⟩ : S59) [.string t376, .slice Ao65 x381001_3.length co65] (fun k_ => k_ ≠ gb380) (fun k_ => some k_ = (.slice Ao65 x381001_3.length co65 : Value).ownBlock) rfl rfl ?aP (fun k_ hk_ => ((Kd.R_mono (ok' := fun k_ => ((fun k_ => k_ ≠ gb380)) k_ ∧ some k_ ≠ (u368001 : Value).ownBlock) (Kd.R_types (Kd.R_apart' (HO_381001.out) (Kd.S_typed HO_368001.out) (by decide)) BK380.out (by decide)) (fun k_ hk => ⟨hk.2, hk.1.2⟩))).1 k_ hk_.symm) ?aF ?aO ?aB ?aS ?aL ?_; (case aP => exact k59_mkM _ _ _ (⟨t376, x381001_3⟩ : S59) (Kd.R_mono (Kd.R_tight rfl (Kd.R_mono (ok' := fun k_ => ((fun k_ => k_ ≠ gb380)) k_ ∧ some k_ ≠ (u368001 : Value).ownBlock) (Kd.R_types (Kd.R_apart' (HO_381001.out) (Kd.S_typed HO_368001.out) (by decide)) BK380.out (by decide)) (fun k_ hk => ⟨hk.2, hk.1.2⟩))) (fun _ h_ => h_))); (case aB => exact (bl HB.out)); (case aF => exact (fun k_ hk => Kd.freshB (g := gb380) (o := .cells #[.string t376, .slice Ao65 x381001_3.length co65] 59 (0, 0)) (pk BK380.out) k_ hk)); (case aO => exact (by (with_reducible repeat (first | apply Kd.S_alloc | apply Kd.S_drewN | apply Kd.S_drew)); exact Kd.S_mono HO_368001.out (fun k_ hk => ⟨hk.2, fun e_ => hk.1 e_⟩))); (case aS => exact (below_size (bl HB.out))); (case aL => have := LMc56.out; omega); intro v396 w64 ho hb hg hat; rw [← Ny395.out] at ho; replace BK361 := Aside0.mk (blk_grown (g := gb361) (o := .cells #[.int .i64 0, .slice none 0 0, .slice none 0 0] 25 (0, 0)) (pk BK361.out) hg (Kd.S_ne HO_368001.out BK361.out (by decide))); replace BK367 := Aside0.mk (blk_grown (g := gb367) (o := .cells #[.int .i64 (wrap64 (t363)), u368001, .slice none 0 0] 25 (0, 0)) (pk BK367.out) hg (Kd.S_ne HO_368001.out BK367.out (by decide))); replace BK380 := Aside0.mk (blk_grown (g := gb380) (o := .cells #[.string t376, .slice Ao65 x381001_3.length co65] 59 (0, 0)) (pk BK380.out) hg (Kd.S_away HO_368001.out (fun _ hk => hk.2))); replace BK362 := Aside0.mk (blk_grown (g := gb362) (o := .cells #[.string x363000_3, .int .i64 x363001_3, .bool x363002_3] 82 (0, 0)) (pk BK362.out) hg (Kd.S_ne HO_368001.out BK362.out (by decide))); replace HB := Aside0.mk (hb); have HO397 := Aside0.mk (ho); clear HO_368001 HO_381001; clear ho hb hg hat; obtain ⟨Ao66, co66, eo66⟩ := Kd.S_slice HO397.out; subst eo66; obtain ⟨hcz67_0, hcz67_1, hcz67_2, hfz67_0, hfz67_1, hfz67_2⟩ := cz3 BK367.out))
          go_roundg k3
          case measure => have := HK1.out; have := HJ11.out; have := HK3.out; omega
          case rel => exact ⟨(wrap64 (x8_1 + 1)), (x363000_3), (x363001_3), (x363002_3), (y395), (.slice Ao66 y395.length co66), hsr, H', ⟨by have := HK1.out; have := HJ11.out; have := HK3.out; omega⟩, ⟨by (with_reducible repeat (first | apply Kd.S_alloc | apply Kd.S_drewN | apply Kd.S_drew)); exact Kd.S_mono (Kd.S_far (p := ⟨gb367, 1, none⟩) (Kd.S_types HO397.out BK367.out (by decide)) (fun _ hk => hk.2) (.slice Ao66 y395.length co66)) (fun _ hk => trivial)⟩, ⟨by refine pk ?_; refine blk_far ?_ NB361_367.out _; exact pk BK361.out⟩, ⟨by refine pk ?_; refine blk_put (cs := #[.int .i64 (wrap64 (t363)), u368001, .slice none 0 0]) ?_ 1 _ rfl; exact pk BK367.out⟩, ⟨by refine pk ?_; refine blk_far ?_ NB362_367.out _; exact pk BK362.out⟩, ⟨bl HB.out⟩⟩
         ·rw [if_neg c56] at H
          exact absurd H (by simp)
     ·replace c17 := Bool.eq_false_iff.mpr c17
      subst c17
      have H1 : ((lodestarref05_B_Num.f kj11 x363000_1 x363001_1 x363002_1 1).bind fun bt398 => (lodestarref05_Decode.l2 kj11 (wrap64 (bt398.1)) 0 bt398.2.1 bt398.2.2.1 bt398.2.2.2 (wrap64 (t363)) x368001_1 ([] : List (S61)))) = some (r1, r2, r3, r4, r5) := by rw [if_neg (show ¬ (false = true) by decide)] at H; exact H
      clear H
      have H := H1
      clear H1
      replace H := Option.bind_eq_some_iff.mp H
      obtain ⟨⟨t398, t399, t400, t401⟩, A680, H⟩ := H
      replace H : (lodestarref05_Decode.l2 kj11 (wrap64 (t398)) 0 t399 t400 t401 (wrap64 (t363)) x368001_1 ([] : List (S61))) = some (r1, r2, r3, r4, r5) := H
      have A68 := Aside0.mk A680
      clear A680
      have H' := Aside0.mk H
      clear H
      go_wp2_with (first | ((with_reducible refine gate_callee (f := 41) rfl ?_); refine goesL_ (some 73) rfl rfl Tryd.func41 kr rfl #[.pointer (some ⟨gb362, 0, none⟩), .int .i64 1] rfl ga ?_; (with_reducible refine (lodestarref05_B_Num.calls kj11 gb362 x363000_1 x363001_1 x363002_1 1 t398 t399 t400 t401 w _ ?side1 ?side2 A68.out).mono ?_); (case side1 => exact ⟨pk BK362.out, GE362.out⟩); (case side2 => exact bl HB.out); rintro e w69 ⟨rfl, hi, hb, hk⟩; refine ⟨_, rfl, ?_⟩; replace HO_368001 := Aside0.mk (Kd.S_mono (Kd.S_keep (IsS82.apartS (show IsS82 w _ gb362 x363000_1 x363001_1 x363002_1 from by repeat (first | (with_reducible first | exact (Aside0.mk (⟨BK362.out, GE362.out⟩ : IsS82 w _ gb362 x363000_1 x363001_1 x363002_1)).out | apply IsS82.alloc | apply IsS82.drewN | apply IsS82.drew | apply IsS82.set_0 | apply IsS82.set_1 | apply IsS82.set_2 | refine IsS82.far ?_ NB362_361.out _ | refine IsS82.far ?_ NB362_367.out _) | exact (Aside0.mk (⟨BK362.out, GE362.out⟩ : IsS82 w _ gb362 x363000_1 x363001_1 x363002_1)).out)) (pS HO_368001.out) (by decide)) hk (fun _ h => h.2)) (fun _ h => h.1)); replace BK361 := Aside0.mk (KeepBut.blk hk (g' := gb361) (o := .cells #[.int .i64 0, .slice none 0 0, .slice none 0 0] 25 (0, 0)) (pk BK361.out) NB361_362.out (by simp)); replace BK367 := Aside0.mk (KeepBut.blk hk (g' := gb367) (o := .cells #[.int .i64 (wrap64 (t363)), u368001, .slice none 0 0] 25 (0, 0)) (pk BK367.out) NB367_362.out (by simp)); replace HB := Aside0.mk (hb); replace BK362 := Aside0.mk (hi.1); (try clear hb); (try clear hb2); (try clear hk); (try clear hi)))
      go_loopg [12] kj11 (fun kq v12 w' => ∃ (x12_3 : Int) (x363000_3 : ByteArray) (x363001_3 : Int) (x363002_3 : Bool) (x368002_3 : List (S61)) (u368002 : Value), v12 = .int .i64 x12_3 ∧ Aside0 (lodestarref05_Decode.l2 kq (wrap64 (t398)) x12_3 x363000_3 x363001_3 x363002_3 (wrap64 (t363)) x368001_1 x368002_3 = some (r1, r2, r3, r4, r5)) ∧ Aside0 (kq ≤ kj11) ∧ Aside0 (Kd.S k59 59 w' w.heap.size (fun _ => True) u368001 x368001_1) ∧ Aside0 (Kd.R k61 61 w' w.heap.size (fun _ => True) u368002 x368002_3) ∧ Aside0 (w'.heap[gb361]? = some (.cells #[.int .i64 0, (.slice none 0 0), (.slice none 0 0)] 25 (0, 0))) ∧ Aside0 (w'.heap[gb367]? = some (.cells #[.int .i64 (wrap64 (t363)), u368001, u368002] 25 (0, 0))) ∧ Aside0 (w'.heap[gb362]? = some (.cells #[.string x363000_3, .int .i64 x363001_3, .bool x363002_3] 82 (0, 0))) ∧ Aside0 (Below w.heap.size w w'))
      case atStart => exact ⟨(0), (t399), (t400), (t401), (([] : List (S61))), (.slice none 0 0), hsr, H', ⟨Nat.le_refl _⟩, ⟨pS HO_368001.out⟩, ⟨by first | exact Kd.R_nil _ _ _ _ _ | exact Kd.N_nil _ _ _ _ _ | exact Kd.V_nil _ _ _ _ _ | exact Kd.Q_nil _ _ _ _ _ | exact Kd.S_nil _ _ _ _ _⟩, ⟨pk BK361.out⟩, ⟨pk BK367.out⟩, ⟨pk BK362.out⟩, ⟨bl HB.out⟩⟩
      case round =>
       clear H'
       try clear c1
       try clear c2
       try clear p2
       try clear c3
       try clear c4
       try clear c5
       try clear c6
       try clear p6
       try clear c8
       try clear c9
       try clear c13
       try clear c13b0
       try clear c14
       try clear c15
       try clear c17
       try clear c20
       try clear c24
       try clear c25
       try clear c26
       try clear c29
       try clear c29b0
       try clear c30
       try clear c31
       try clear c32
       try clear c33
       try clear c34
       try clear c36
       try clear c37
       try clear c39
       try clear c41
       try clear c42
       try clear c46
       try clear c47
       try clear c48
       try clear c49
       try clear c56
       try clear c57
       try clear c58
       try clear c59
       try clear c61
       try clear c62
       try clear p64
       try clear hcz67_0 hcz67_1 hcz67_2 hfz67_0 hfz67_1 hfz67_2
       try clear hcz63_0 hcz63_1 hfz63_0 hfz63_1
       try clear hcz60_0 hcz60_1 hcz60_2 hfz60_0 hfz60_1 hfz60_2
       try clear hcz50_0 hcz50_1 hcz50_2 hfz50_0 hfz50_1 hfz50_2
       try clear hcz44_0 hcz44_1 hcz44_2 hfz44_0 hfz44_1 hfz44_2
       try clear hcz40_0 hcz40_1 hfz40_0 hfz40_1
       try clear hcz38_0 hcz38_1 hcz38_2 hfz38_0 hfz38_1 hfz38_2
       try clear hcz35_0 hcz35_1 hcz35_2 hfz35_0 hfz35_1 hfz35_2
       try clear hcz27_0 hcz27_1 hfz27_0 hfz27_1
       try clear hcz16_0 hcz16_1 hcz16_2 hfz16_0 hfz16_1 hfz16_2
       try clear hcz10_0 hcz10_1 hcz10_2 hfz10_0 hfz10_1 hfz10_2
       try clear p2
       try clear p6
       obtain ⟨x12_3, x363000_3, x363001_3, x363002_3, x368002_3, u368002, rfl, HA, HK3, HO_368001, HO_368002, BK361, BK367, BK362, HB⟩ := hrel
       cases gk with
       | zero => exact absurd HA.out (by simp [lodestarref05_Decode.l2])
       | succ k3 =>
        have H := HA.out
        clear HA
        simp only [lodestarref05_Decode.l2] at H
        have HC70 := Aside0.mk H
        clear H
        go_upto_region 16 with (fail)
        go_cut [84] (fun v84 wc => ∃ (kq : Nat) (x84_69 : Bool), v84 = .bool x84_69 ∧ Aside0 (lodestarref05_Decode.j4 kq (wrap64 (t398)) x12_3 x84_69 x363000_3 x363001_3 x363002_3 (wrap64 (t363)) x368001_1 x368002_3 = some (r1, r2, r3, r4, r5)) ∧ Aside0 (kq ≤ k3) ∧ Aside0 (Kd.S k59 59 wc w.heap.size (fun _ => True) u368001 x368001_1) ∧ Aside0 (Kd.R k61 61 wc w.heap.size (fun _ => True) u368002 x368002_3) ∧ Aside0 (wc.heap[gb361]? = some (.cells #[.int .i64 0, (.slice none 0 0), (.slice none 0 0)] 25 (0, 0))) ∧ Aside0 (wc.heap[gb367]? = some (.cells #[.int .i64 (wrap64 (t363)), u368001, u368002] 25 (0, 0))) ∧ Aside0 (wc.heap[gb362]? = some (.cells #[.string x363000_3, .int .i64 x363001_3, .bool x363002_3] 82 (0, 0))) ∧ Aside0 (Below w.heap.size w wc))
        case first =>
         have H := HC70.out
         clear HC70
         by_cases c71 : x12_3 < (wrap64 (t398))
         ·rw [if_pos c71] at H
          have c71b0 : decide (x12_3 < (wrap64 (t398))) = true := decide_eq_true c71
          clear c71
          (first | rw [c71b0] | (simp only [i64_w, i32_w]; rw [c71b0]) | skip)
          have H' := Aside0.mk H
          clear H
          have hnb72 := NB362_361.out
          have hnc72 := NB361_362.out
          have hnb73 := NB362_367.out
          have hnc73 := NB367_362.out
          obtain ⟨hcz74_0, hcz74_1, hcz74_2, hfz74_0, hfz74_1, hfz74_2⟩ := cz3 BK362.out
          go_wp2
          go_meet
          case rel => exact ⟨_, (!x363002_3), hsr, H', ⟨by have := HK1.out; have := HJ11.out; have := HK3.out; first | omega | exact Nat.le_refl _⟩, ⟨pS HO_368001.out⟩, ⟨pR HO_368002.out⟩, ⟨pk BK361.out⟩, ⟨pk BK367.out⟩, ⟨pk BK362.out⟩, ⟨bl HB.out⟩⟩
         ·rw [if_neg c71] at H
          have c71b0 : decide (x12_3 < (wrap64 (t398))) = false := decide_eq_false c71
          clear c71
          (first | rw [c71b0] | (simp only [i64_w, i32_w]; rw [c71b0]) | skip)
          have H' := Aside0.mk H
          clear H
          go_wp2
          go_meet
          case rel => exact ⟨_, (false), hsr, H', ⟨by have := HK1.out; have := HJ11.out; have := HK3.out; first | omega | exact Nat.le_refl _⟩, ⟨pS HO_368001.out⟩, ⟨pR HO_368002.out⟩, ⟨pk BK361.out⟩, ⟨pk BK367.out⟩, ⟨pk BK362.out⟩, ⟨bl HB.out⟩⟩
        case rest =>
         clear HC70
         try clear c1
         try clear c2
         try clear p2
         try clear c3
         try clear c4
         try clear c5
         try clear c6
         try clear p6
         try clear c7
         try clear c8
         try clear c9
         try clear c13
         try clear c13b0
         try clear c14
         try clear c15
         try clear c17
         try clear c20
         try clear c24
         try clear c25
         try clear c26
         try clear c29
         try clear c29b0
         try clear c30
         try clear c31
         try clear c32
         try clear c33
         try clear c34
         try clear c36
         try clear c37
         try clear c39
         try clear c41
         try clear c42
         try clear c46
         try clear c47
         try clear c48
         try clear c49
         try clear c56
         try clear c57
         try clear c58
         try clear c59
         try clear c61
         try clear c62
         try clear p64
         try clear c71
         try clear c71b0
         try clear c72
         try clear c73
         try clear hcz74_0 hcz74_1 hcz74_2 hfz74_0 hfz74_1 hfz74_2
         try clear hcz67_0 hcz67_1 hcz67_2 hfz67_0 hfz67_1 hfz67_2
         try clear hcz63_0 hcz63_1 hfz63_0 hfz63_1
         try clear hcz60_0 hcz60_1 hcz60_2 hfz60_0 hfz60_1 hfz60_2
         try clear hcz50_0 hcz50_1 hcz50_2 hfz50_0 hfz50_1 hfz50_2
         try clear hcz44_0 hcz44_1 hcz44_2 hfz44_0 hfz44_1 hfz44_2
         try clear hcz40_0 hcz40_1 hfz40_0 hfz40_1
         try clear hcz38_0 hcz38_1 hcz38_2 hfz38_0 hfz38_1 hfz38_2
         try clear hcz35_0 hcz35_1 hcz35_2 hfz35_0 hfz35_1 hfz35_2
         try clear hcz27_0 hcz27_1 hfz27_0 hfz27_1
         try clear hcz16_0 hcz16_1 hcz16_2 hfz16_0 hfz16_1 hfz16_2
         try clear hcz10_0 hcz10_1 hcz10_2 hfz10_0 hfz10_1 hfz10_2
         try clear p2
         try clear p6
         try clear p64
         obtain ⟨kq, x84_69, rfl, HA, HJ69, HO_368001, HO_368002, BK361, BK367, BK362, HB⟩ := hcut
         cases kq with
         | zero => exact absurd HA.out (by simp [lodestarref05_Decode.j4])
         | succ kj69 =>
          have H := HA.out
          clear HA
          simp only [lodestarref05_Decode.j4] at H
          by_cases c75 : x84_69 = true
          ·subst c75
           have H1 : ((lodestarref05_B_Num.f kj69 x363000_3 x363001_3 x363002_3 1).bind fun bt403 => ((lodestarref05_B_Cut.f bt403.2.1 bt403.2.2.1 bt403.2.2.2 (wrap64 (bt403.1))).bind fun bt407 => ((lodestarref05_B_Num.f kj69 bt407.2.1 bt407.2.2.1 bt407.2.2.2 1).bind fun bt412 => (if (wrap64 (bt412.1)) = 1 then ((lodestarref05_B_Num.f kj69 bt412.2.1 bt412.2.2.1 bt412.2.2.2 8).bind fun bt416 => (if x368002_3.length < 2932031007402 then (lodestarref05_Decode.l2 kj69 (wrap64 (t398)) (wrap64 (x12_3 + 1)) bt416.2.1 bt416.2.2.1 bt416.2.2.2 (wrap64 (t363)) x368001_1 (x368002_3 ++ [(⟨bt407.1, (⟨wrap64 (bt412.1), wrap64 (bt416.1), (⟨#[]⟩ : ByteArray)⟩ : S33)⟩ : S61)])) else (none))) else (if (wrap64 (bt412.1)) = 2 then ((lodestarref05_B_Num.f kj69 bt412.2.1 bt412.2.2.1 bt412.2.2.2 2).bind fun bt423 => ((lodestarref05_B_Cut.f bt423.2.1 bt423.2.2.1 bt423.2.2.2 (wrap64 (bt423.1))).bind fun bt427 => (if x368002_3.length < 2932031007402 then (lodestarref05_Decode.l2 kj69 (wrap64 (t398)) (wrap64 (x12_3 + 1)) bt427.2.1 bt427.2.2.1 bt427.2.2.2 (wrap64 (t363)) x368001_1 (x368002_3 ++ [(⟨bt407.1, (⟨wrap64 (bt412.1), 0, bt427.1⟩ : S33)⟩ : S61)])) else (none)))) else (if (wrap64 (bt412.1)) = 3 then ((lodestarref05_B_Num.f kj69 bt412.2.1 bt412.2.2.1 bt412.2.2.2 1).bind fun bt434 => (if x368002_3.length < 2932031007402 then (lodestarref05_Decode.l2 kj69 (wrap64 (t398)) (wrap64 (x12_3 + 1)) bt434.2.1 bt434.2.2.1 bt434.2.2.2 (wrap64 (t363)) x368001_1 (x368002_3 ++ [(⟨bt407.1, (⟨wrap64 (bt412.1), wrap64 (bt434.1), (⟨#[]⟩ : ByteArray)⟩ : S33)⟩ : S61)])) else (none))) else (if x368002_3.length < 2932031007402 then (lodestarref05_Decode.l2 kj69 (wrap64 (t398)) (wrap64 (x12_3 + 1)) bt412.2.1 bt412.2.2.1 bt412.2.2.2 (wrap64 (t363)) x368001_1 (x368002_3 ++ [(⟨bt407.1, (⟨wrap64 (bt412.1), 0, (⟨#[]⟩ : ByteArray)⟩ : S33)⟩ : S61)])) else (none)))))))) = some (r1, r2, r3, r4, r5) := by rw [if_pos rfl] at H; exact H
           clear H
           have H := H1
           clear H1
           replace H := Option.bind_eq_some_iff.mp H
           obtain ⟨⟨t403, t404, t405, t406⟩, A760, H⟩ := H
           replace H : ((lodestarref05_B_Cut.f t404 t405 t406 (wrap64 (t403))).bind fun bt407 => ((lodestarref05_B_Num.f kj69 bt407.2.1 bt407.2.2.1 bt407.2.2.2 1).bind fun bt412 => (if (wrap64 (bt412.1)) = 1 then ((lodestarref05_B_Num.f kj69 bt412.2.1 bt412.2.2.1 bt412.2.2.2 8).bind fun bt416 => (if x368002_3.length < 2932031007402 then (lodestarref05_Decode.l2 kj69 (wrap64 (t398)) (wrap64 (x12_3 + 1)) bt416.2.1 bt416.2.2.1 bt416.2.2.2 (wrap64 (t363)) x368001_1 (x368002_3 ++ [(⟨bt407.1, (⟨wrap64 (bt412.1), wrap64 (bt416.1), (⟨#[]⟩ : ByteArray)⟩ : S33)⟩ : S61)])) else (none))) else (if (wrap64 (bt412.1)) = 2 then ((lodestarref05_B_Num.f kj69 bt412.2.1 bt412.2.2.1 bt412.2.2.2 2).bind fun bt423 => ((lodestarref05_B_Cut.f bt423.2.1 bt423.2.2.1 bt423.2.2.2 (wrap64 (bt423.1))).bind fun bt427 => (if x368002_3.length < 2932031007402 then (lodestarref05_Decode.l2 kj69 (wrap64 (t398)) (wrap64 (x12_3 + 1)) bt427.2.1 bt427.2.2.1 bt427.2.2.2 (wrap64 (t363)) x368001_1 (x368002_3 ++ [(⟨bt407.1, (⟨wrap64 (bt412.1), 0, bt427.1⟩ : S33)⟩ : S61)])) else (none)))) else (if (wrap64 (bt412.1)) = 3 then ((lodestarref05_B_Num.f kj69 bt412.2.1 bt412.2.2.1 bt412.2.2.2 1).bind fun bt434 => (if x368002_3.length < 2932031007402 then (lodestarref05_Decode.l2 kj69 (wrap64 (t398)) (wrap64 (x12_3 + 1)) bt434.2.1 bt434.2.2.1 bt434.2.2.2 (wrap64 (t363)) x368001_1 (x368002_3 ++ [(⟨bt407.1, (⟨wrap64 (bt412.1), wrap64 (bt434.1), (⟨#[]⟩ : ByteArray)⟩ : S33)⟩ : S61)])) else (none))) else (if x368002_3.length < 2932031007402 then (lodestarref05_Decode.l2 kj69 (wrap64 (t398)) (wrap64 (x12_3 + 1)) bt412.2.1 bt412.2.2.1 bt412.2.2.2 (wrap64 (t363)) x368001_1 (x368002_3 ++ [(⟨bt407.1, (⟨wrap64 (bt412.1), 0, (⟨#[]⟩ : ByteArray)⟩ : S33)⟩ : S61)])) else (none))))))) = some (r1, r2, r3, r4, r5) := H
           have A76 := Aside0.mk A760
           clear A760
           replace H := Option.bind_eq_some_iff.mp H
           obtain ⟨⟨t407, t408, t409, t410⟩, A770, H⟩ := H
           replace H : ((lodestarref05_B_Num.f kj69 t408 t409 t410 1).bind fun bt412 => (if (wrap64 (bt412.1)) = 1 then ((lodestarref05_B_Num.f kj69 bt412.2.1 bt412.2.2.1 bt412.2.2.2 8).bind fun bt416 => (if x368002_3.length < 2932031007402 then (lodestarref05_Decode.l2 kj69 (wrap64 (t398)) (wrap64 (x12_3 + 1)) bt416.2.1 bt416.2.2.1 bt416.2.2.2 (wrap64 (t363)) x368001_1 (x368002_3 ++ [(⟨t407, (⟨wrap64 (bt412.1), wrap64 (bt416.1), (⟨#[]⟩ : ByteArray)⟩ : S33)⟩ : S61)])) else (none))) else (if (wrap64 (bt412.1)) = 2 then ((lodestarref05_B_Num.f kj69 bt412.2.1 bt412.2.2.1 bt412.2.2.2 2).bind fun bt423 => ((lodestarref05_B_Cut.f bt423.2.1 bt423.2.2.1 bt423.2.2.2 (wrap64 (bt423.1))).bind fun bt427 => (if x368002_3.length < 2932031007402 then (lodestarref05_Decode.l2 kj69 (wrap64 (t398)) (wrap64 (x12_3 + 1)) bt427.2.1 bt427.2.2.1 bt427.2.2.2 (wrap64 (t363)) x368001_1 (x368002_3 ++ [(⟨t407, (⟨wrap64 (bt412.1), 0, bt427.1⟩ : S33)⟩ : S61)])) else (none)))) else (if (wrap64 (bt412.1)) = 3 then ((lodestarref05_B_Num.f kj69 bt412.2.1 bt412.2.2.1 bt412.2.2.2 1).bind fun bt434 => (if x368002_3.length < 2932031007402 then (lodestarref05_Decode.l2 kj69 (wrap64 (t398)) (wrap64 (x12_3 + 1)) bt434.2.1 bt434.2.2.1 bt434.2.2.2 (wrap64 (t363)) x368001_1 (x368002_3 ++ [(⟨t407, (⟨wrap64 (bt412.1), wrap64 (bt434.1), (⟨#[]⟩ : ByteArray)⟩ : S33)⟩ : S61)])) else (none))) else (if x368002_3.length < 2932031007402 then (lodestarref05_Decode.l2 kj69 (wrap64 (t398)) (wrap64 (x12_3 + 1)) bt412.2.1 bt412.2.2.1 bt412.2.2.2 (wrap64 (t363)) x368001_1 (x368002_3 ++ [(⟨t407, (⟨wrap64 (bt412.1), 0, (⟨#[]⟩ : ByteArray)⟩ : S33)⟩ : S61)])) else (none)))))) = some (r1, r2, r3, r4, r5) := H
           have A77 := Aside0.mk A770
           clear A770
           replace H := Option.bind_eq_some_iff.mp H
           obtain ⟨⟨t412, t413, t414, t415⟩, A780, H⟩ := H
           replace H : (if (wrap64 (t412)) = 1 then ((lodestarref05_B_Num.f kj69 t413 t414 t415 8).bind fun bt416 => (if x368002_3.length < 2932031007402 then (lodestarref05_Decode.l2 kj69 (wrap64 (t398)) (wrap64 (x12_3 + 1)) bt416.2.1 bt416.2.2.1 bt416.2.2.2 (wrap64 (t363)) x368001_1 (x368002_3 ++ [(⟨t407, (⟨wrap64 (t412), wrap64 (bt416.1), (⟨#[]⟩ : ByteArray)⟩ : S33)⟩ : S61)])) else (none))) else (if (wrap64 (t412)) = 2 then ((lodestarref05_B_Num.f kj69 t413 t414 t415 2).bind fun bt423 => ((lodestarref05_B_Cut.f bt423.2.1 bt423.2.2.1 bt423.2.2.2 (wrap64 (bt423.1))).bind fun bt427 => (if x368002_3.length < 2932031007402 then (lodestarref05_Decode.l2 kj69 (wrap64 (t398)) (wrap64 (x12_3 + 1)) bt427.2.1 bt427.2.2.1 bt427.2.2.2 (wrap64 (t363)) x368001_1 (x368002_3 ++ [(⟨t407, (⟨wrap64 (t412), 0, bt427.1⟩ : S33)⟩ : S61)])) else (none)))) else (if (wrap64 (t412)) = 3 then ((lodestarref05_B_Num.f kj69 t413 t414 t415 1).bind fun bt434 => (if x368002_3.length < 2932031007402 then (lodestarref05_Decode.l2 kj69 (wrap64 (t398)) (wrap64 (x12_3 + 1)) bt434.2.1 bt434.2.2.1 bt434.2.2.2 (wrap64 (t363)) x368001_1 (x368002_3 ++ [(⟨t407, (⟨wrap64 (t412), wrap64 (bt434.1), (⟨#[]⟩ : ByteArray)⟩ : S33)⟩ : S61)])) else (none))) else (if x368002_3.length < 2932031007402 then (lodestarref05_Decode.l2 kj69 (wrap64 (t398)) (wrap64 (x12_3 + 1)) t413 t414 t415 (wrap64 (t363)) x368001_1 (x368002_3 ++ [(⟨t407, (⟨wrap64 (t412), 0, (⟨#[]⟩ : ByteArray)⟩ : S33)⟩ : S61)])) else (none))))) = some (r1, r2, r3, r4, r5) := H
           have A78 := Aside0.mk A780
           clear A780
           by_cases c79 : (wrap64 (t412)) = 1
           ·rw [if_pos c79] at H
            have c79b0 : ((wrap64 (t412)) == 1) = true := beq_iff_eq.mpr c79
            have c79b1 : ((wrap64 (t412)) != 1) = false := bne_eq_false_iff_eq.mpr c79
            clear c79
            replace H := Option.bind_eq_some_iff.mp H
            obtain ⟨⟨t416, t417, t418, t419⟩, A800, H⟩ := H
            replace H : (if x368002_3.length < 2932031007402 then (lodestarref05_Decode.l2 kj69 (wrap64 (t398)) (wrap64 (x12_3 + 1)) t417 t418 t419 (wrap64 (t363)) x368001_1 (x368002_3 ++ [(⟨t407, (⟨wrap64 (t412), wrap64 (t416), (⟨#[]⟩ : ByteArray)⟩ : S33)⟩ : S61)])) else (none)) = some (r1, r2, r3, r4, r5) := H
            have A80 := Aside0.mk A800
            clear A800
            by_cases c81 : x368002_3.length < 2932031007402
            ·rw [if_pos c81] at H
             have LMc81 := Aside0.mk c81
             clear c81
             obtain ⟨y420, hy420⟩ : ∃ y_ : List (S61), y_ = (x368002_3 ++ [(⟨t407, (⟨wrap64 (t412), wrap64 (t416), (⟨#[]⟩ : ByteArray)⟩ : S33)⟩ : S61)]) := ⟨_, rfl⟩
             replace H : (lodestarref05_Decode.l2 kj69 (wrap64 (t398)) (wrap64 (x12_3 + 1)) t417 t418 t419 (wrap64 (t363)) x368001_1 y420) = some (r1, r2, r3, r4, r5) := by first | (rw [hy420]; with_reducible exact H) | (have H2_ := (Option.bind_some _ _).symm.trans H; rw [hy420]; with_reducible exact H2_) | (have H2_ := (Option.bind_some _ _).symm.trans H; with_reducible exact H2_) | with_reducible exact H | (rw [hy420]; exact H) | exact H
             have Ny420 := Aside0.mk hy420
             clear hy420
             have H' := Aside0.mk H
             clear H
             go_wp2_with (first | ((with_reducible refine gate_callee (f := 41) rfl ?_); refine goesL_ (some 89) rfl rfl Tryd.func41 kr rfl #[.pointer (some ⟨gb362, 0, none⟩), .int .i64 1] rfl ga ?_; (with_reducible refine (lodestarref05_B_Num.calls kj69 gb362 x363000_3 x363001_3 x363002_3 1 t403 t404 t405 t406 w _ ?side1 ?side2 A76.out).mono ?_); (case side1 => exact ⟨pk BK362.out, GE362.out⟩); (case side2 => exact bl HB.out); rintro e w82 ⟨rfl, hi, hb, hk⟩; refine ⟨_, rfl, ?_⟩; replace HO_368001 := Aside0.mk (Kd.S_mono (Kd.S_keep (IsS82.apartS (show IsS82 w _ gb362 x363000_3 x363001_3 x363002_3 from by repeat (first | (with_reducible first | exact (Aside0.mk (⟨BK362.out, GE362.out⟩ : IsS82 w _ gb362 x363000_3 x363001_3 x363002_3)).out | apply IsS82.alloc | apply IsS82.drewN | apply IsS82.drew | apply IsS82.set_0 | apply IsS82.set_1 | apply IsS82.set_2 | refine IsS82.far ?_ NB362_361.out _ | refine IsS82.far ?_ NB362_367.out _) | exact (Aside0.mk (⟨BK362.out, GE362.out⟩ : IsS82 w _ gb362 x363000_3 x363001_3 x363002_3)).out)) (pS HO_368001.out) (by decide)) hk (fun _ h => h.2)) (fun _ h => h.1)); replace HO_368002 := Aside0.mk (Kd.R_mono (Kd.R_keep (IsS82.apart (show IsS82 w _ gb362 x363000_3 x363001_3 x363002_3 from by repeat (first | (with_reducible first | exact (Aside0.mk (⟨BK362.out, GE362.out⟩ : IsS82 w _ gb362 x363000_3 x363001_3 x363002_3)).out | apply IsS82.alloc | apply IsS82.drewN | apply IsS82.drew | apply IsS82.set_0 | apply IsS82.set_1 | apply IsS82.set_2 | refine IsS82.far ?_ NB362_361.out _ | refine IsS82.far ?_ NB362_367.out _) | exact (Aside0.mk (⟨BK362.out, GE362.out⟩ : IsS82 w _ gb362 x363000_3 x363001_3 x363002_3)).out)) (pR HO_368002.out) (by decide)) hk (fun _ h => h.2)) (fun _ h => h.1)); replace BK361 := Aside0.mk (KeepBut.blk hk (g' := gb361) (o := .cells #[.int .i64 0, .slice none 0 0, .slice none 0 0] 25 (0, 0)) (pk BK361.out) NB361_362.out (by simp)); replace BK367 := Aside0.mk (KeepBut.blk hk (g' := gb367) (o := .cells #[.int .i64 (wrap64 (t363)), u368001, u368002] 25 (0, 0)) (pk BK367.out) NB367_362.out (by simp)); replace HB := Aside0.mk (hb); replace BK362 := Aside0.mk (hi.1); (try clear hb); (try clear hb2); (try clear hk); (try clear hi)) | ((with_reducible refine gate_callee (f := 42) rfl ?_); refine goesL_ (some 91) rfl rfl Tryd.func42 kr rfl #[.pointer (some ⟨gb362, 0, none⟩), .int .i64 (wrap64 (t403))] rfl ga ?_; (with_reducible refine (lodestarref05_B_Cut.calls gb362 t404 t405 t406 (wrap64 (t403)) t407 t408 t409 t410 w _ ?side1 ?side2 A77.out).mono ?_); (case side1 => exact ⟨pk BK362.out, GE362.out⟩); (case side2 => exact bl HB.out); rintro e w83 ⟨rfl, hi, hb, hk⟩; refine ⟨_, rfl, ?_⟩; replace HO_368001 := Aside0.mk (Kd.S_mono (Kd.S_keep (IsS82.apartS (show IsS82 w _ gb362 t404 t405 t406 from by repeat (first | (with_reducible first | exact (Aside0.mk (⟨BK362.out, GE362.out⟩ : IsS82 w _ gb362 t404 t405 t406)).out | apply IsS82.alloc | apply IsS82.drewN | apply IsS82.drew | apply IsS82.set_0 | apply IsS82.set_1 | apply IsS82.set_2 | refine IsS82.far ?_ NB362_361.out _ | refine IsS82.far ?_ NB362_367.out _) | exact (Aside0.mk (⟨BK362.out, GE362.out⟩ : IsS82 w _ gb362 t404 t405 t406)).out)) (pS HO_368001.out) (by decide)) hk (fun _ h => h.2)) (fun _ h => h.1)); replace HO_368002 := Aside0.mk (Kd.R_mono (Kd.R_keep (IsS82.apart (show IsS82 w _ gb362 t404 t405 t406 from by repeat (first | (with_reducible first | exact (Aside0.mk (⟨BK362.out, GE362.out⟩ : IsS82 w _ gb362 t404 t405 t406)).out | apply IsS82.alloc | apply IsS82.drewN | apply IsS82.drew | apply IsS82.set_0 | apply IsS82.set_1 | apply IsS82.set_2 | refine IsS82.far ?_ NB362_361.out _ | refine IsS82.far ?_ NB362_367.out _) | exact (Aside0.mk (⟨BK362.out, GE362.out⟩ : IsS82 w _ gb362 t404 t405 t406)).out)) (pR HO_368002.out) (by decide)) hk (fun _ h => h.2)) (fun _ h => h.1)); replace BK361 := Aside0.mk (KeepBut.blk hk (g' := gb361) (o := .cells #[.int .i64 0, .slice none 0 0, .slice none 0 0] 25 (0, 0)) (pk BK361.out) NB361_362.out (by simp)); replace BK367 := Aside0.mk (KeepBut.blk hk (g' := gb367) (o := .cells #[.int .i64 (wrap64 (t363)), u368001, u368002] 25 (0, 0)) (pk BK367.out) NB367_362.out (by simp)); replace HB := Aside0.mk (hb); replace BK362 := Aside0.mk (hi.1); (try clear hb); (try clear hb2); (try clear hk); (try clear hi)) | ((with_reducible refine gate_dst (N := 13) rfl ?_); refine box_event ?hg (N := 13) ?hd (cs := #[.string (⟨#[]⟩ : ByteArray), .int .i64 0, .int .i64 0, .string (⟨#[]⟩ : ByteArray)]) (t := 61) ?hr ?_; (case hd => rfl); (case hg => rfl); (case hr => first | (go_simp; done) | (go_simp; rfl)); intro gb411 hg w84 hbox hb; replace HO_368001 := Aside0.mk (Kd.S_below (pS HO_368001.out) hb); replace HO_368002 := Aside0.mk (Kd.R_below (Kd.R_elderB (pR HO_368002.out) gb411 (Nat.le_of_eq hg.symm)) hb); have BK411 := Aside0.mk (hbox); have GW411 := Aside0.mk (gs (w := w) hg (bl HB.out)); have GE411 := Aside0.mk (gs (w := w) hg (bl HB.out)); replace HB := Aside0.mk (below_step (bl HB.out) hb); have NB361_411 := Aside0.mk ((gl (g := gb361) hg (pk BK361.out))); have NB411_361 := Aside0.mk ((gm (g := gb361) hg (pk BK361.out))); replace BK361 := Aside0.mk (blk_below (pk BK361.out) hb); have NB367_411 := Aside0.mk ((gl (g := gb367) hg (pk BK367.out))); have NB411_367 := Aside0.mk ((gm (g := gb367) hg (pk BK367.out))); replace BK367 := Aside0.mk (blk_below (pk BK367.out) hb); have NB362_411 := Aside0.mk ((gl (g := gb362) hg (pk BK362.out))); have NB411_362 := Aside0.mk ((gm (g := gb362) hg (pk BK362.out))); replace BK362 := Aside0.mk (blk_below (pk BK362.out) hb); clear hb hbox hg; have hnb85 := NB411_361.out; have hnc85 := NB361_411.out; have hnb86 := NB411_367.out; have hnc86 := NB367_411.out; have hnb87 := NB411_362.out; have hnc87 := NB362_411.out; obtain ⟨hcz88_0, hcz88_1, hcz88_2, hcz88_3, hfz88_0, hfz88_1, hfz88_2, hfz88_3⟩ := cz4 BK411.out) | ((with_reducible refine gate_callee (f := 41) rfl ?_); refine goesL_ (some 94) rfl rfl Tryd.func41 kr rfl #[.pointer (some ⟨gb362, 0, none⟩), .int .i64 1] rfl ga ?_; (with_reducible refine (lodestarref05_B_Num.calls kj69 gb362 t408 t409 t410 1 t412 t413 t414 t415 w _ ?side1 ?side2 A78.out).mono ?_); (case side1 => exact ⟨by refine pk ?_; refine blk_far ?_ NB362_411.out _; refine pk ?_; refine blk_far ?_ NB362_411.out _; refine pk ?_; refine blk_far ?_ NB362_411.out _; refine pk ?_; refine blk_far ?_ NB362_411.out _; exact pk BK362.out, GE362.out⟩); (case side2 => exact bl HB.out); rintro e w89 ⟨rfl, hi, hb, hk⟩; refine ⟨_, rfl, ?_⟩; replace HO_368001 := Aside0.mk (Kd.S_mono (Kd.S_keep (IsS82.apartS (show IsS82 w _ gb362 t408 t409 t410 from by repeat (first | (with_reducible first | exact (Aside0.mk (⟨BK362.out, GE362.out⟩ : IsS82 w _ gb362 t408 t409 t410)).out | apply IsS82.alloc | apply IsS82.drewN | apply IsS82.drew | apply IsS82.set_0 | apply IsS82.set_1 | apply IsS82.set_2 | refine IsS82.far ?_ NB362_361.out _ | refine IsS82.far ?_ NB362_367.out _ | refine IsS82.far ?_ NB362_411.out _) | exact (Aside0.mk (⟨BK362.out, GE362.out⟩ : IsS82 w _ gb362 t408 t409 t410)).out)) (by (with_reducible repeat (first | apply Kd.S_alloc | apply Kd.S_drewN | apply Kd.S_drew)); exact (Kd.S_mono (Kd.S_far (p := ⟨gb411, 3, none⟩) (Kd.S_far (p := ⟨gb411, 2, none⟩) (Kd.S_far (p := ⟨gb411, 1, none⟩) (Kd.S_far (p := ⟨gb411, 0, none⟩) (Kd.S_types HO_368001.out BK411.out (by decide)) (fun _ hk => hk.2) (.string t407)) (fun _ hk => hk.2) (.int .i64 0)) (fun _ hk => hk.2) (.int .i64 0)) (fun _ hk => hk.2) (.string (⟨#[]⟩ : ByteArray))) (fun _ h_ => h_.1))) (by decide)) hk (fun _ h => h.2)) (fun _ h => h.1)); replace HO_368002 := Aside0.mk (Kd.R_mono (Kd.R_keep (IsS82.apart (show IsS82 w _ gb362 t408 t409 t410 from by repeat (first | (with_reducible first | exact (Aside0.mk (⟨BK362.out, GE362.out⟩ : IsS82 w _ gb362 t408 t409 t410)).out | apply IsS82.alloc | apply IsS82.drewN | apply IsS82.drew | apply IsS82.set_0 | apply IsS82.set_1 | apply IsS82.set_2 | refine IsS82.far ?_ NB362_361.out _ | refine IsS82.far ?_ NB362_367.out _ | refine IsS82.far ?_ NB362_411.out _) | exact (Aside0.mk (⟨BK362.out, GE362.out⟩ : IsS82 w _ gb362 t408 t409 t410)).out)) (by (with_reducible repeat (first | apply Kd.R_alloc | apply Kd.R_drewN | apply Kd.R_drew)); exact (Kd.R_mono (Kd.R_far (p := ⟨gb411, 3, none⟩) (Kd.R_far (p := ⟨gb411, 2, none⟩) (Kd.R_far (p := ⟨gb411, 1, none⟩) (Kd.R_far (p := ⟨gb411, 0, none⟩) (Kd.R_mono HO_368002.out (fun k_ hk => (⟨hk, hk.2⟩ : _ ∧ k_ ≠ gb411))) (fun _ hk => hk.2) (.string t407)) (fun _ hk => hk.2) (.int .i64 0)) (fun _ hk => hk.2) (.int .i64 0)) (fun _ hk => hk.2) (.string (⟨#[]⟩ : ByteArray))) (fun _ h_ => h_.1))) (by decide)) hk (fun _ h => h.2)) (fun _ h => h.1)); replace BK361 := Aside0.mk (KeepBut.blk hk (g' := gb361) (o := .cells #[.int .i64 0, .slice none 0 0, .slice none 0 0] 25 (0, 0)) (by refine pk ?_; refine blk_far ?_ NB361_411.out _; refine pk ?_; refine blk_far ?_ NB361_411.out _; refine pk ?_; refine blk_far ?_ NB361_411.out _; refine pk ?_; refine blk_far ?_ NB361_411.out _; exact pk BK361.out) NB361_362.out (by simp)); replace BK367 := Aside0.mk (KeepBut.blk hk (g' := gb367) (o := .cells #[.int .i64 (wrap64 (t363)), u368001, u368002] 25 (0, 0)) (by refine pk ?_; refine blk_far ?_ NB367_411.out _; refine pk ?_; refine blk_far ?_ NB367_411.out _; refine pk ?_; refine blk_far ?_ NB367_411.out _; refine pk ?_; refine blk_far ?_ NB367_411.out _; exact pk BK367.out) NB367_362.out (by simp)); replace BK411 := Aside0.mk (KeepBut.blk hk (g' := gb411) (o := .cells #[.string t407, .int .i64 0, .int .i64 0, .string (⟨#[]⟩ : ByteArray)] 61 (0, 0)) (by refine pk ?_; refine blk_put (cs := #[.string t407, .int .i64 0, .int .i64 0, .string (⟨#[]⟩ : ByteArray)]) ?_ 3 _ rfl; refine pk ?_; refine blk_put (cs := #[.string t407, .int .i64 0, .int .i64 0, .string (⟨#[]⟩ : ByteArray)]) ?_ 2 _ rfl; refine pk ?_; refine blk_put (cs := #[.string t407, .int .i64 0, .int .i64 0, .string (⟨#[]⟩ : ByteArray)]) ?_ 1 _ rfl; refine pk ?_; refine blk_put (cs := #[.string (⟨#[]⟩ : ByteArray), .int .i64 0, .int .i64 0, .string (⟨#[]⟩ : ByteArray)]) ?_ 0 _ rfl; exact pk BK411.out) NB411_362.out (by simp)); replace HB := Aside0.mk (hb); replace BK362 := Aside0.mk (hi.1); (try clear hb); (try clear hb2); (try clear hk); (try clear hi); obtain ⟨hcz90_0, hcz90_1, hcz90_2, hcz90_3, hfz90_0, hfz90_1, hfz90_2, hfz90_3⟩ := cz4 BK411.out) | ((with_reducible refine gate_callee (f := 41) rfl ?_); refine goesL_ (some 104) rfl rfl Tryd.func41 kr rfl #[.pointer (some ⟨gb362, 0, none⟩), .int .i64 8] rfl ga ?_; (with_reducible refine (lodestarref05_B_Num.calls kj69 gb362 t413 t414 t415 8 t416 t417 t418 t419 w _ ?side1 ?side2 A80.out).mono ?_); (case side1 => exact ⟨by refine pk ?_; refine blk_far ?_ NB362_411.out _; exact pk BK362.out, GE362.out⟩); (case side2 => exact bl HB.out); rintro e w91 ⟨rfl, hi, hb, hk⟩; refine ⟨_, rfl, ?_⟩; replace HO_368001 := Aside0.mk (Kd.S_mono (Kd.S_keep (IsS82.apartS (show IsS82 w _ gb362 t413 t414 t415 from by repeat (first | (with_reducible first | exact (Aside0.mk (⟨BK362.out, GE362.out⟩ : IsS82 w _ gb362 t413 t414 t415)).out | apply IsS82.alloc | apply IsS82.drewN | apply IsS82.drew | apply IsS82.set_0 | apply IsS82.set_1 | apply IsS82.set_2 | refine IsS82.far ?_ NB362_361.out _ | refine IsS82.far ?_ NB362_367.out _ | refine IsS82.far ?_ NB362_411.out _) | exact (Aside0.mk (⟨BK362.out, GE362.out⟩ : IsS82 w _ gb362 t413 t414 t415)).out)) (by (with_reducible repeat (first | apply Kd.S_alloc | apply Kd.S_drewN | apply Kd.S_drew)); exact (Kd.S_mono (Kd.S_far (p := ⟨gb411, 1, none⟩) (Kd.S_types HO_368001.out BK411.out (by decide)) (fun _ hk => hk.2) (.int .i64 (wrap64 (t412)))) (fun _ h_ => h_.1))) (by decide)) hk (fun _ h => h.2)) (fun _ h => h.1)); replace HO_368002 := Aside0.mk (Kd.R_mono (Kd.R_keep (IsS82.apart (show IsS82 w _ gb362 t413 t414 t415 from by repeat (first | (with_reducible first | exact (Aside0.mk (⟨BK362.out, GE362.out⟩ : IsS82 w _ gb362 t413 t414 t415)).out | apply IsS82.alloc | apply IsS82.drewN | apply IsS82.drew | apply IsS82.set_0 | apply IsS82.set_1 | apply IsS82.set_2 | refine IsS82.far ?_ NB362_361.out _ | refine IsS82.far ?_ NB362_367.out _ | refine IsS82.far ?_ NB362_411.out _) | exact (Aside0.mk (⟨BK362.out, GE362.out⟩ : IsS82 w _ gb362 t413 t414 t415)).out)) (by (with_reducible repeat (first | apply Kd.R_alloc | apply Kd.R_drewN | apply Kd.R_drew)); exact (Kd.R_mono (Kd.R_far (p := ⟨gb411, 1, none⟩) (Kd.R_mono HO_368002.out (fun k_ hk => (⟨hk, hk.2⟩ : _ ∧ k_ ≠ gb411))) (fun _ hk => hk.2) (.int .i64 (wrap64 (t412)))) (fun _ h_ => h_.1))) (by decide)) hk (fun _ h => h.2)) (fun _ h => h.1)); replace BK361 := Aside0.mk (KeepBut.blk hk (g' := gb361) (o := .cells #[.int .i64 0, .slice none 0 0, .slice none 0 0] 25 (0, 0)) (by refine pk ?_; refine blk_far ?_ NB361_411.out _; exact pk BK361.out) NB361_362.out (by simp)); replace BK367 := Aside0.mk (KeepBut.blk hk (g' := gb367) (o := .cells #[.int .i64 (wrap64 (t363)), u368001, u368002] 25 (0, 0)) (by refine pk ?_; refine blk_far ?_ NB367_411.out _; exact pk BK367.out) NB367_362.out (by simp)); replace BK411 := Aside0.mk (KeepBut.blk hk (g' := gb411) (o := .cells #[.string t407, .int .i64 (wrap64 (t412)), .int .i64 0, .string (⟨#[]⟩ : ByteArray)] 61 (0, 0)) (by refine pk ?_; refine blk_put (cs := #[.string t407, .int .i64 0, .int .i64 0, .string (⟨#[]⟩ : ByteArray)]) ?_ 1 _ rfl; exact pk BK411.out) NB411_362.out (by simp)); replace HB := Aside0.mk (hb); replace BK362 := Aside0.mk (hi.1); (try clear hb); (try clear hb2); (try clear hk); (try clear hi); obtain ⟨hcz92_0, hcz92_1, hcz92_2, hcz92_3, hfz92_0, hfz92_1, hfz92_2, hfz92_3⟩ := cz4 BK411.out; have hnb93 := NB367_361.out; have hnc93 := NB361_367.out; have hnb94 := NB367_362.out; have hnc94 := NB362_367.out; obtain ⟨hcz95_0, hcz95_1, hcz95_2, hfz95_0, hfz95_1, hfz95_2⟩ := cz3 BK367.out) | ((with_reducible refine gate_builtin (b := .append) (xs := #[.tmp 125, .tmp 127]) rfl ?_); at_builtin; refine Kd.R_append k61 (w0 := w) w.heap.size rfl (.tmp 125) (.tmp 127) 23 61 (.agg #[(.string ⟨#[]⟩), (.int .i64 0), (.int .i64 0), (.string ⟨#[]⟩)]) 48 rfl Tryd.underlying23 info61 rfl (by decide) (by omega) u368002 x368002_3 (⟨t407, (⟨wrap64 (t412), wrap64 (t416), (⟨#[]⟩ : ByteArray)⟩ : S33)⟩ : S61) [.string t407, .int .i64 (wrap64 (t412)), .int .i64 (wrap64 (t416)), .string (⟨#[]⟩ : ByteArray)] (fun k_ => k_ ≠ gb411) (fun _ => False) rfl (by first | (go_simp; done) | (go_simp; rfl)) ?aP (fun _ hk => hk.elim) ?aF ?aO ?aB ?aS ?aL ?_; (case aP => exact k61_mkM _ _ _ (⟨t407, (⟨wrap64 (t412), wrap64 (t416), (⟨#[]⟩ : ByteArray)⟩ : S33)⟩ : S61)); (case aB => exact (bl HB.out)); (case aF => exact (fun k_ hk => Kd.freshB (g := gb411) (o := .cells #[.string t407, .int .i64 (wrap64 (t412)), .int .i64 (wrap64 (t416)), .string (⟨#[]⟩ : ByteArray)] 61 (0, 0)) (by refine pk ?_; refine blk_put (cs := #[.string t407, .int .i64 (wrap64 (t412)), .int .i64 0, .string (⟨#[]⟩ : ByteArray)]) ?_ 2 _ rfl; exact pk BK411.out) k_ hk)); (case aO => exact (by (with_reducible repeat (first | apply Kd.R_alloc | apply Kd.R_drewN | apply Kd.R_drew)); exact Kd.R_mono (Kd.R_far (p := ⟨gb411, 2, none⟩) (Kd.R_mono HO_368002.out (fun k_ hk => (⟨hk, hk.2⟩ : _ ∧ k_ ≠ gb411))) (fun _ hk => hk.2) (.int .i64 (wrap64 (t416)))) (fun _ hk => hk.1.2))); (case aS => exact (below_size (bl HB.out))); (case aL => have := LMc81.out; omega); intro v421 w96 ho hb hg hat; rw [← Ny420.out] at ho; replace HO_368001 := Aside0.mk (Kd.S_over' (by (with_reducible repeat (first | apply Kd.S_alloc | apply Kd.S_drewN | apply Kd.S_drew)); exact (Kd.S_mono (Kd.S_far (p := ⟨gb411, 2, none⟩) (Kd.S_types HO_368001.out BK411.out (by decide)) (fun _ hk => hk.2) (.int .i64 (wrap64 (t416)))) (fun _ h_ => h_.1))) (Kd.R_typed (by (with_reducible repeat (first | apply Kd.R_alloc | apply Kd.R_drewN | apply Kd.R_drew)); exact (Kd.R_mono (Kd.R_far (p := ⟨gb411, 2, none⟩) (Kd.R_mono HO_368002.out (fun k_ hk => (⟨hk, hk.2⟩ : _ ∧ k_ ≠ gb411))) (fun _ hk => hk.2) (.int .i64 (wrap64 (t416)))) (fun _ h_ => h_.1)))) (by decide) hg); replace BK361 := Aside0.mk (blk_grown (g := gb361) (o := .cells #[.int .i64 0, .slice none 0 0, .slice none 0 0] 25 (0, 0)) (by refine pk ?_; refine blk_far ?_ NB361_411.out _; exact pk BK361.out) hg (Kd.R_ne HO_368002.out BK361.out (by decide))); replace BK367 := Aside0.mk (blk_grown (g := gb367) (o := .cells #[.int .i64 (wrap64 (t363)), u368001, u368002] 25 (0, 0)) (by refine pk ?_; refine blk_far ?_ NB367_411.out _; exact pk BK367.out) hg (Kd.R_ne HO_368002.out BK367.out (by decide))); replace BK411 := Aside0.mk (blk_grown (g := gb411) (o := .cells #[.string t407, .int .i64 (wrap64 (t412)), .int .i64 (wrap64 (t416)), .string (⟨#[]⟩ : ByteArray)] 61 (0, 0)) (by refine pk ?_; refine blk_put (cs := #[.string t407, .int .i64 (wrap64 (t412)), .int .i64 0, .string (⟨#[]⟩ : ByteArray)]) ?_ 2 _ rfl; exact pk BK411.out) hg (Kd.R_away HO_368002.out (fun _ hk => hk.2))); replace BK362 := Aside0.mk (blk_grown (g := gb362) (o := .cells #[.string t417, .int .i64 t418, .bool t419] 82 (0, 0)) (by refine pk ?_; refine blk_far ?_ NB362_411.out _; exact pk BK362.out) hg (Kd.R_ne HO_368002.out BK362.out (by decide))); replace HB := Aside0.mk (hb); have HO422 := Aside0.mk (ho); clear HO_368002; clear ho hb hg hat; obtain ⟨Ao97, co97, eo97⟩ := Kd.R_slice HO422.out; subst eo97; obtain ⟨hcz98_0, hcz98_1, hcz98_2, hfz98_0, hfz98_1, hfz98_2⟩ := cz3 BK367.out))
             go_roundg kj69
             case measure => have := HK1.out; have := HJ11.out; have := HK3.out; have := HJ69.out; omega
             case rel => exact ⟨(wrap64 (x12_3 + 1)), (t417), (t418), (t419), (y420), (.slice Ao97 y420.length co97), hsr, H', ⟨by have := HK1.out; have := HJ11.out; have := HK3.out; have := HJ69.out; omega⟩, ⟨by (with_reducible repeat (first | apply Kd.S_alloc | apply Kd.S_drewN | apply Kd.S_drew)); exact Kd.S_mono (Kd.S_far (p := ⟨gb367, 2, none⟩) (Kd.S_types HO_368001.out BK367.out (by decide)) (fun _ hk => hk.2) (.slice Ao97 y420.length co97)) (fun _ hk => trivial)⟩, ⟨by (with_reducible repeat (first | apply Kd.R_alloc | apply Kd.R_drewN | apply Kd.R_drew)); exact Kd.R_mono (Kd.R_far (p := ⟨gb367, 2, none⟩) (Kd.R_types HO422.out BK367.out (by decide)) (fun _ hk => hk.2) (.slice Ao97 y420.length co97)) (fun _ hk => trivial)⟩, ⟨by refine pk ?_; refine blk_far ?_ NB361_367.out _; exact pk BK361.out⟩, ⟨by refine pk ?_; refine blk_put (cs := #[.int .i64 (wrap64 (t363)), u368001, u368002]) ?_ 2 _ rfl; exact pk BK367.out⟩, ⟨by refine pk ?_; refine blk_far ?_ NB362_367.out _; exact pk BK362.out⟩, ⟨bl HB.out⟩⟩
            ·rw [if_neg c81] at H
             exact absurd H (by simp)
           ·rw [if_neg c79] at H
            have c79b0 : ((wrap64 (t412)) == 1) = false := beq_eq_false_iff_ne.mpr c79
            have c79b1 : ((wrap64 (t412)) != 1) = true := bne_iff_ne.mpr c79
            by_cases c99 : (wrap64 (t412)) = 2
            ·rw [if_pos c99] at H
             have c99b0 : ((wrap64 (t412)) == 2) = true := beq_iff_eq.mpr c99
             have c99b1 : ((wrap64 (t412)) != 2) = false := bne_eq_false_iff_eq.mpr c99
             clear c99
             replace H := Option.bind_eq_some_iff.mp H
             obtain ⟨⟨t423, t424, t425, t426⟩, A1000, H⟩ := H
             replace H : ((lodestarref05_B_Cut.f t424 t425 t426 (wrap64 (t423))).bind fun bt427 => (if x368002_3.length < 2932031007402 then (lodestarref05_Decode.l2 kj69 (wrap64 (t398)) (wrap64 (x12_3 + 1)) bt427.2.1 bt427.2.2.1 bt427.2.2.2 (wrap64 (t363)) x368001_1 (x368002_3 ++ [(⟨t407, (⟨wrap64 (t412), 0, bt427.1⟩ : S33)⟩ : S61)])) else (none))) = some (r1, r2, r3, r4, r5) := H
             have A100 := Aside0.mk A1000
             clear A1000
             replace H := Option.bind_eq_some_iff.mp H
             obtain ⟨⟨t427, t428, t429, t430⟩, A1010, H⟩ := H
             replace H : (if x368002_3.length < 2932031007402 then (lodestarref05_Decode.l2 kj69 (wrap64 (t398)) (wrap64 (x12_3 + 1)) t428 t429 t430 (wrap64 (t363)) x368001_1 (x368002_3 ++ [(⟨t407, (⟨wrap64 (t412), 0, t427⟩ : S33)⟩ : S61)])) else (none)) = some (r1, r2, r3, r4, r5) := H
             have A101 := Aside0.mk A1010
             clear A1010
             by_cases c102 : x368002_3.length < 2932031007402
             ·rw [if_pos c102] at H
              have LMc102 := Aside0.mk c102
              clear c102
              obtain ⟨y431, hy431⟩ : ∃ y_ : List (S61), y_ = (x368002_3 ++ [(⟨t407, (⟨wrap64 (t412), 0, t427⟩ : S33)⟩ : S61)]) := ⟨_, rfl⟩
              replace H : (lodestarref05_Decode.l2 kj69 (wrap64 (t398)) (wrap64 (x12_3 + 1)) t428 t429 t430 (wrap64 (t363)) x368001_1 y431) = some (r1, r2, r3, r4, r5) := by first | (rw [hy431]; with_reducible exact H) | (have H2_ := (Option.bind_some _ _).symm.trans H; rw [hy431]; with_reducible exact H2_) | (have H2_ := (Option.bind_some _ _).symm.trans H; with_reducible exact H2_) | with_reducible exact H | (rw [hy431]; exact H) | exact H
              have Ny431 := Aside0.mk hy431
              clear hy431
              have H' := Aside0.mk H
              clear H
              go_wp2_with (first | ((with_reducible refine gate_callee (f := 41) rfl ?_); refine goesL_ (some 89) rfl rfl Tryd.func41 kr rfl #[.pointer (some ⟨gb362, 0, none⟩), .int .i64 1] rfl ga ?_; (with_reducible refine (lodestarref05_B_Num.calls kj69 gb362 x363000_3 x363001_3 x363002_3 1 t403 t404 t405 t406 w _ ?side1 ?side2 A76.out).mono ?_); (case side1 => exact ⟨pk BK362.out, GE362.out⟩); (case side2 => exact bl HB.out); rintro e w103 ⟨rfl, hi, hb, hk⟩; refine ⟨_, rfl, ?_⟩; replace HO_368001 := Aside0.mk (Kd.S_mono (Kd.S_keep (IsS82.apartS (show IsS82 w _ gb362 x363000_3 x363001_3 x363002_3 from by repeat (first | (with_reducible first | exact (Aside0.mk (⟨BK362.out, GE362.out⟩ : IsS82 w _ gb362 x363000_3 x363001_3 x363002_3)).out | apply IsS82.alloc | apply IsS82.drewN | apply IsS82.drew | apply IsS82.set_0 | apply IsS82.set_1 | apply IsS82.set_2 | refine IsS82.far ?_ NB362_361.out _ | refine IsS82.far ?_ NB362_367.out _) | exact (Aside0.mk (⟨BK362.out, GE362.out⟩ : IsS82 w _ gb362 x363000_3 x363001_3 x363002_3)).out)) (pS HO_368001.out) (by decide)) hk (fun _ h => h.2)) (fun _ h => h.1)); replace HO_368002 := Aside0.mk (Kd.R_mono (Kd.R_keep (IsS82.apart (show IsS82 w _ gb362 x363000_3 x363001_3 x363002_3 from by repeat (first | (with_reducible first | exact (Aside0.mk (⟨BK362.out, GE362.out⟩ : IsS82 w _ gb362 x363000_3 x363001_3 x363002_3)).out | apply IsS82.alloc | apply IsS82.drewN | apply IsS82.drew | apply IsS82.set_0 | apply IsS82.set_1 | apply IsS82.set_2 | refine IsS82.far ?_ NB362_361.out _ | refine IsS82.far ?_ NB362_367.out _) | exact (Aside0.mk (⟨BK362.out, GE362.out⟩ : IsS82 w _ gb362 x363000_3 x363001_3 x363002_3)).out)) (pR HO_368002.out) (by decide)) hk (fun _ h => h.2)) (fun _ h => h.1)); replace BK361 := Aside0.mk (KeepBut.blk hk (g' := gb361) (o := .cells #[.int .i64 0, .slice none 0 0, .slice none 0 0] 25 (0, 0)) (pk BK361.out) NB361_362.out (by simp)); replace BK367 := Aside0.mk (KeepBut.blk hk (g' := gb367) (o := .cells #[.int .i64 (wrap64 (t363)), u368001, u368002] 25 (0, 0)) (pk BK367.out) NB367_362.out (by simp)); replace HB := Aside0.mk (hb); replace BK362 := Aside0.mk (hi.1); (try clear hb); (try clear hb2); (try clear hk); (try clear hi)) | ((with_reducible refine gate_callee (f := 42) rfl ?_); refine goesL_ (some 91) rfl rfl Tryd.func42 kr rfl #[.pointer (some ⟨gb362, 0, none⟩), .int .i64 (wrap64 (t403))] rfl ga ?_; (with_reducible refine (lodestarref05_B_Cut.calls gb362 t404 t405 t406 (wrap64 (t403)) t407 t408 t409 t410 w _ ?side1 ?side2 A77.out).mono ?_); (case side1 => exact ⟨pk BK362.out, GE362.out⟩); (case side2 => exact bl HB.out); rintro e w104 ⟨rfl, hi, hb, hk⟩; refine ⟨_, rfl, ?_⟩; replace HO_368001 := Aside0.mk (Kd.S_mono (Kd.S_keep (IsS82.apartS (show IsS82 w _ gb362 t404 t405 t406 from by repeat (first | (with_reducible first | exact (Aside0.mk (⟨BK362.out, GE362.out⟩ : IsS82 w _ gb362 t404 t405 t406)).out | apply IsS82.alloc | apply IsS82.drewN | apply IsS82.drew | apply IsS82.set_0 | apply IsS82.set_1 | apply IsS82.set_2 | refine IsS82.far ?_ NB362_361.out _ | refine IsS82.far ?_ NB362_367.out _) | exact (Aside0.mk (⟨BK362.out, GE362.out⟩ : IsS82 w _ gb362 t404 t405 t406)).out)) (pS HO_368001.out) (by decide)) hk (fun _ h => h.2)) (fun _ h => h.1)); replace HO_368002 := Aside0.mk (Kd.R_mono (Kd.R_keep (IsS82.apart (show IsS82 w _ gb362 t404 t405 t406 from by repeat (first | (with_reducible first | exact (Aside0.mk (⟨BK362.out, GE362.out⟩ : IsS82 w _ gb362 t404 t405 t406)).out | apply IsS82.alloc | apply IsS82.drewN | apply IsS82.drew | apply IsS82.set_0 | apply IsS82.set_1 | apply IsS82.set_2 | refine IsS82.far ?_ NB362_361.out _ | refine IsS82.far ?_ NB362_367.out _) | exact (Aside0.mk (⟨BK362.out, GE362.out⟩ : IsS82 w _ gb362 t404 t405 t406)).out)) (pR HO_368002.out) (by decide)) hk (fun _ h => h.2)) (fun _ h => h.1)); replace BK361 := Aside0.mk (KeepBut.blk hk (g' := gb361) (o := .cells #[.int .i64 0, .slice none 0 0, .slice none 0 0] 25 (0, 0)) (pk BK361.out) NB361_362.out (by simp)); replace BK367 := Aside0.mk (KeepBut.blk hk (g' := gb367) (o := .cells #[.int .i64 (wrap64 (t363)), u368001, u368002] 25 (0, 0)) (pk BK367.out) NB367_362.out (by simp)); replace HB := Aside0.mk (hb); replace BK362 := Aside0.mk (hi.1); (try clear hb); (try clear hb2); (try clear hk); (try clear hi)) | ((with_reducible refine gate_dst (N := 13) rfl ?_); refine box_event ?hg (N := 13) ?hd (cs := #[.string (⟨#[]⟩ : ByteArray), .int .i64 0, .int .i64 0, .string (⟨#[]⟩ : ByteArray)]) (t := 61) ?hr ?_; (case hd => rfl); (case hg => rfl); (case hr => first | (go_simp; done) | (go_simp; rfl)); intro gb411 hg w105 hbox hb; replace HO_368001 := Aside0.mk (Kd.S_below (pS HO_368001.out) hb); replace HO_368002 := Aside0.mk (Kd.R_below (Kd.R_elderB (pR HO_368002.out) gb411 (Nat.le_of_eq hg.symm)) hb); have BK411 := Aside0.mk (hbox); have GW411 := Aside0.mk (gs (w := w) hg (bl HB.out)); have GE411 := Aside0.mk (gs (w := w) hg (bl HB.out)); replace HB := Aside0.mk (below_step (bl HB.out) hb); have NB361_411 := Aside0.mk ((gl (g := gb361) hg (pk BK361.out))); have NB411_361 := Aside0.mk ((gm (g := gb361) hg (pk BK361.out))); replace BK361 := Aside0.mk (blk_below (pk BK361.out) hb); have NB367_411 := Aside0.mk ((gl (g := gb367) hg (pk BK367.out))); have NB411_367 := Aside0.mk ((gm (g := gb367) hg (pk BK367.out))); replace BK367 := Aside0.mk (blk_below (pk BK367.out) hb); have NB362_411 := Aside0.mk ((gl (g := gb362) hg (pk BK362.out))); have NB411_362 := Aside0.mk ((gm (g := gb362) hg (pk BK362.out))); replace BK362 := Aside0.mk (blk_below (pk BK362.out) hb); clear hb hbox hg; have hnb106 := NB411_361.out; have hnc106 := NB361_411.out; have hnb107 := NB411_367.out; have hnc107 := NB367_411.out; have hnb108 := NB411_362.out; have hnc108 := NB362_411.out; obtain ⟨hcz109_0, hcz109_1, hcz109_2, hcz109_3, hfz109_0, hfz109_1, hfz109_2, hfz109_3⟩ := cz4 BK411.out) | ((with_reducible refine gate_callee (f := 41) rfl ?_); refine goesL_ (some 94) rfl rfl Tryd.func41 kr rfl #[.pointer (some ⟨gb362, 0, none⟩), .int .i64 1] rfl ga ?_; (with_reducible refine (lodestarref05_B_Num.calls kj69 gb362 t408 t409 t410 1 t412 t413 t414 t415 w _ ?side1 ?side2 A78.out).mono ?_); (case side1 => exact ⟨by refine pk ?_; refine blk_far ?_ NB362_411.out _; refine pk ?_; refine blk_far ?_ NB362_411.out _; refine pk ?_; refine blk_far ?_ NB362_411.out _; refine pk ?_; refine blk_far ?_ NB362_411.out _; exact pk BK362.out, GE362.out⟩); (case side2 => exact bl HB.out); rintro e w110 ⟨rfl, hi, hb, hk⟩; refine ⟨_, rfl, ?_⟩; replace HO_368001 := Aside0.mk (Kd.S_mono (Kd.S_keep (IsS82.apartS (show IsS82 w _ gb362 t408 t409 t410 from by repeat (first | (with_reducible first | exact (Aside0.mk (⟨BK362.out, GE362.out⟩ : IsS82 w _ gb362 t408 t409 t410)).out | apply IsS82.alloc | apply IsS82.drewN | apply IsS82.drew | apply IsS82.set_0 | apply IsS82.set_1 | apply IsS82.set_2 | refine IsS82.far ?_ NB362_361.out _ | refine IsS82.far ?_ NB362_367.out _ | refine IsS82.far ?_ NB362_411.out _) | exact (Aside0.mk (⟨BK362.out, GE362.out⟩ : IsS82 w _ gb362 t408 t409 t410)).out)) (by (with_reducible repeat (first | apply Kd.S_alloc | apply Kd.S_drewN | apply Kd.S_drew)); exact (Kd.S_mono (Kd.S_far (p := ⟨gb411, 3, none⟩) (Kd.S_far (p := ⟨gb411, 2, none⟩) (Kd.S_far (p := ⟨gb411, 1, none⟩) (Kd.S_far (p := ⟨gb411, 0, none⟩) (Kd.S_types HO_368001.out BK411.out (by decide)) (fun _ hk => hk.2) (.string t407)) (fun _ hk => hk.2) (.int .i64 0)) (fun _ hk => hk.2) (.int .i64 0)) (fun _ hk => hk.2) (.string (⟨#[]⟩ : ByteArray))) (fun _ h_ => h_.1))) (by decide)) hk (fun _ h => h.2)) (fun _ h => h.1)); replace HO_368002 := Aside0.mk (Kd.R_mono (Kd.R_keep (IsS82.apart (show IsS82 w _ gb362 t408 t409 t410 from by repeat (first | (with_reducible first | exact (Aside0.mk (⟨BK362.out, GE362.out⟩ : IsS82 w _ gb362 t408 t409 t410)).out | apply IsS82.alloc | apply IsS82.drewN | apply IsS82.drew | apply IsS82.set_0 | apply IsS82.set_1 | apply IsS82.set_2 | refine IsS82.far ?_ NB362_361.out _ | refine IsS82.far ?_ NB362_367.out _ | refine IsS82.far ?_ NB362_411.out _) | exact (Aside0.mk (⟨BK362.out, GE362.out⟩ : IsS82 w _ gb362 t408 t409 t410)).out)) (by (with_reducible repeat (first | apply Kd.R_alloc | apply Kd.R_drewN | apply Kd.R_drew)); exact (Kd.R_mono (Kd.R_far (p := ⟨gb411, 3, none⟩) (Kd.R_far (p := ⟨gb411, 2, none⟩) (Kd.R_far (p := ⟨gb411, 1, none⟩) (Kd.R_far (p := ⟨gb411, 0, none⟩) (Kd.R_mono HO_368002.out (fun k_ hk => (⟨hk, hk.2⟩ : _ ∧ k_ ≠ gb411))) (fun _ hk => hk.2) (.string t407)) (fun _ hk => hk.2) (.int .i64 0)) (fun _ hk => hk.2) (.int .i64 0)) (fun _ hk => hk.2) (.string (⟨#[]⟩ : ByteArray))) (fun _ h_ => h_.1))) (by decide)) hk (fun _ h => h.2)) (fun _ h => h.1)); replace BK361 := Aside0.mk (KeepBut.blk hk (g' := gb361) (o := .cells #[.int .i64 0, .slice none 0 0, .slice none 0 0] 25 (0, 0)) (by refine pk ?_; refine blk_far ?_ NB361_411.out _; refine pk ?_; refine blk_far ?_ NB361_411.out _; refine pk ?_; refine blk_far ?_ NB361_411.out _; refine pk ?_; refine blk_far ?_ NB361_411.out _; exact pk BK361.out) NB361_362.out (by simp)); replace BK367 := Aside0.mk (KeepBut.blk hk (g' := gb367) (o := .cells #[.int .i64 (wrap64 (t363)), u368001, u368002] 25 (0, 0)) (by refine pk ?_; refine blk_far ?_ NB367_411.out _; refine pk ?_; refine blk_far ?_ NB367_411.out _; refine pk ?_; refine blk_far ?_ NB367_411.out _; refine pk ?_; refine blk_far ?_ NB367_411.out _; exact pk BK367.out) NB367_362.out (by simp)); replace BK411 := Aside0.mk (KeepBut.blk hk (g' := gb411) (o := .cells #[.string t407, .int .i64 0, .int .i64 0, .string (⟨#[]⟩ : ByteArray)] 61 (0, 0)) (by refine pk ?_; refine blk_put (cs := #[.string t407, .int .i64 0, .int .i64 0, .string (⟨#[]⟩ : ByteArray)]) ?_ 3 _ rfl; refine pk ?_; refine blk_put (cs := #[.string t407, .int .i64 0, .int .i64 0, .string (⟨#[]⟩ : ByteArray)]) ?_ 2 _ rfl; refine pk ?_; refine blk_put (cs := #[.string t407, .int .i64 0, .int .i64 0, .string (⟨#[]⟩ : ByteArray)]) ?_ 1 _ rfl; refine pk ?_; refine blk_put (cs := #[.string (⟨#[]⟩ : ByteArray), .int .i64 0, .int .i64 0, .string (⟨#[]⟩ : ByteArray)]) ?_ 0 _ rfl; exact pk BK411.out) NB411_362.out (by simp)); replace HB := Aside0.mk (hb); replace BK362 := Aside0.mk (hi.1); (try clear hb); (try clear hb2); (try clear hk); (try clear hi); obtain ⟨hcz111_0, hcz111_1, hcz111_2, hcz111_3, hfz111_0, hfz111_1, hfz111_2, hfz111_3⟩ := cz4 BK411.out) | ((with_reducible refine gate_callee (f := 41) rfl ?_); refine goesL_ (some 112) rfl rfl Tryd.func41 kr rfl #[.pointer (some ⟨gb362, 0, none⟩), .int .i64 2] rfl ga ?_; (with_reducible refine (lodestarref05_B_Num.calls kj69 gb362 t413 t414 t415 2 t423 t424 t425 t426 w _ ?side1 ?side2 A100.out).mono ?_); (case side1 => exact ⟨by refine pk ?_; refine blk_far ?_ NB362_411.out _; exact pk BK362.out, GE362.out⟩); (case side2 => exact bl HB.out); rintro e w112 ⟨rfl, hi, hb, hk⟩; refine ⟨_, rfl, ?_⟩; replace HO_368001 := Aside0.mk (Kd.S_mono (Kd.S_keep (IsS82.apartS (show IsS82 w _ gb362 t413 t414 t415 from by repeat (first | (with_reducible first | exact (Aside0.mk (⟨BK362.out, GE362.out⟩ : IsS82 w _ gb362 t413 t414 t415)).out | apply IsS82.alloc | apply IsS82.drewN | apply IsS82.drew | apply IsS82.set_0 | apply IsS82.set_1 | apply IsS82.set_2 | refine IsS82.far ?_ NB362_361.out _ | refine IsS82.far ?_ NB362_367.out _ | refine IsS82.far ?_ NB362_411.out _) | exact (Aside0.mk (⟨BK362.out, GE362.out⟩ : IsS82 w _ gb362 t413 t414 t415)).out)) (by (with_reducible repeat (first | apply Kd.S_alloc | apply Kd.S_drewN | apply Kd.S_drew)); exact (Kd.S_mono (Kd.S_far (p := ⟨gb411, 1, none⟩) (Kd.S_types HO_368001.out BK411.out (by decide)) (fun _ hk => hk.2) (.int .i64 (wrap64 (t412)))) (fun _ h_ => h_.1))) (by decide)) hk (fun _ h => h.2)) (fun _ h => h.1)); replace HO_368002 := Aside0.mk (Kd.R_mono (Kd.R_keep (IsS82.apart (show IsS82 w _ gb362 t413 t414 t415 from by repeat (first | (with_reducible first | exact (Aside0.mk (⟨BK362.out, GE362.out⟩ : IsS82 w _ gb362 t413 t414 t415)).out | apply IsS82.alloc | apply IsS82.drewN | apply IsS82.drew | apply IsS82.set_0 | apply IsS82.set_1 | apply IsS82.set_2 | refine IsS82.far ?_ NB362_361.out _ | refine IsS82.far ?_ NB362_367.out _ | refine IsS82.far ?_ NB362_411.out _) | exact (Aside0.mk (⟨BK362.out, GE362.out⟩ : IsS82 w _ gb362 t413 t414 t415)).out)) (by (with_reducible repeat (first | apply Kd.R_alloc | apply Kd.R_drewN | apply Kd.R_drew)); exact (Kd.R_mono (Kd.R_far (p := ⟨gb411, 1, none⟩) (Kd.R_mono HO_368002.out (fun k_ hk => (⟨hk, hk.2⟩ : _ ∧ k_ ≠ gb411))) (fun _ hk => hk.2) (.int .i64 (wrap64 (t412)))) (fun _ h_ => h_.1))) (by decide)) hk (fun _ h => h.2)) (fun _ h => h.1)); replace BK361 := Aside0.mk (KeepBut.blk hk (g' := gb361) (o := .cells #[.int .i64 0, .slice none 0 0, .slice none 0 0] 25 (0, 0)) (by refine pk ?_; refine blk_far ?_ NB361_411.out _; exact pk BK361.out) NB361_362.out (by simp)); replace BK367 := Aside0.mk (KeepBut.blk hk (g' := gb367) (o := .cells #[.int .i64 (wrap64 (t363)), u368001, u368002] 25 (0, 0)) (by refine pk ?_; refine blk_far ?_ NB367_411.out _; exact pk BK367.out) NB367_362.out (by simp)); replace BK411 := Aside0.mk (KeepBut.blk hk (g' := gb411) (o := .cells #[.string t407, .int .i64 (wrap64 (t412)), .int .i64 0, .string (⟨#[]⟩ : ByteArray)] 61 (0, 0)) (by refine pk ?_; refine blk_put (cs := #[.string t407, .int .i64 0, .int .i64 0, .string (⟨#[]⟩ : ByteArray)]) ?_ 1 _ rfl; exact pk BK411.out) NB411_362.out (by simp)); replace HB := Aside0.mk (hb); replace BK362 := Aside0.mk (hi.1); (try clear hb); (try clear hb2); (try clear hk); (try clear hi)) | ((with_reducible refine gate_callee (f := 42) rfl ?_); refine goesL_ (some 114) rfl rfl Tryd.func42 kr rfl #[.pointer (some ⟨gb362, 0, none⟩), .int .i64 (wrap64 (t423))] rfl ga ?_; (with_reducible refine (lodestarref05_B_Cut.calls gb362 t424 t425 t426 (wrap64 (t423)) t427 t428 t429 t430 w _ ?side1 ?side2 A101.out).mono ?_); (case side1 => exact ⟨pk BK362.out, GE362.out⟩); (case side2 => exact bl HB.out); rintro e w113 ⟨rfl, hi, hb, hk⟩; refine ⟨_, rfl, ?_⟩; replace HO_368001 := Aside0.mk (Kd.S_mono (Kd.S_keep (IsS82.apartS (show IsS82 w _ gb362 t424 t425 t426 from by repeat (first | (with_reducible first | exact (Aside0.mk (⟨BK362.out, GE362.out⟩ : IsS82 w _ gb362 t424 t425 t426)).out | apply IsS82.alloc | apply IsS82.drewN | apply IsS82.drew | apply IsS82.set_0 | apply IsS82.set_1 | apply IsS82.set_2 | refine IsS82.far ?_ NB362_361.out _ | refine IsS82.far ?_ NB362_367.out _ | refine IsS82.far ?_ NB362_411.out _) | exact (Aside0.mk (⟨BK362.out, GE362.out⟩ : IsS82 w _ gb362 t424 t425 t426)).out)) (pS HO_368001.out) (by decide)) hk (fun _ h => h.2)) (fun _ h => h.1)); replace HO_368002 := Aside0.mk (Kd.R_mono (Kd.R_keep (IsS82.apart (show IsS82 w _ gb362 t424 t425 t426 from by repeat (first | (with_reducible first | exact (Aside0.mk (⟨BK362.out, GE362.out⟩ : IsS82 w _ gb362 t424 t425 t426)).out | apply IsS82.alloc | apply IsS82.drewN | apply IsS82.drew | apply IsS82.set_0 | apply IsS82.set_1 | apply IsS82.set_2 | refine IsS82.far ?_ NB362_361.out _ | refine IsS82.far ?_ NB362_367.out _ | refine IsS82.far ?_ NB362_411.out _) | exact (Aside0.mk (⟨BK362.out, GE362.out⟩ : IsS82 w _ gb362 t424 t425 t426)).out)) (pR HO_368002.out) (by decide)) hk (fun _ h => h.2)) (fun _ h => h.1)); replace BK361 := Aside0.mk (KeepBut.blk hk (g' := gb361) (o := .cells #[.int .i64 0, .slice none 0 0, .slice none 0 0] 25 (0, 0)) (pk BK361.out) NB361_362.out (by simp)); replace BK367 := Aside0.mk (KeepBut.blk hk (g' := gb367) (o := .cells #[.int .i64 (wrap64 (t363)), u368001, u368002] 25 (0, 0)) (pk BK367.out) NB367_362.out (by simp)); replace BK411 := Aside0.mk (KeepBut.blk hk (g' := gb411) (o := .cells #[.string t407, .int .i64 (wrap64 (t412)), .int .i64 0, .string (⟨#[]⟩ : ByteArray)] 61 (0, 0)) (pk BK411.out) NB411_362.out (by simp)); replace HB := Aside0.mk (hb); replace BK362 := Aside0.mk (hi.1); (try clear hb); (try clear hb2); (try clear hk); (try clear hi); obtain ⟨hcz114_0, hcz114_1, hcz114_2, hcz114_3, hfz114_0, hfz114_1, hfz114_2, hfz114_3⟩ := cz4 BK411.out; have hnb115 := NB367_361.out; have hnc115 := NB361_367.out; have hnb116 := NB367_362.out; have hnc116 := NB362_367.out; obtain ⟨hcz117_0, hcz117_1, hcz117_2, hfz117_0, hfz117_1, hfz117_2⟩ := cz3 BK367.out) | ((with_reducible refine gate_builtin (b := .append) (xs := #[.tmp 125, .tmp 127]) rfl ?_); at_builtin; refine Kd.R_append k61 (w0 := w) w.heap.size rfl (.tmp 125) (.tmp 127) 23 61 (.agg #[(.string ⟨#[]⟩), (.int .i64 0), (.int .i64 0), (.string ⟨#[]⟩)]) 48 rfl Tryd.underlying23 info61 rfl (by decide) (by omega) u368002 x368002_3 (⟨t407, (⟨wrap64 (t412), 0, t427⟩ : S33)⟩ : S61) [.string t407, .int .i64 (wrap64 (t412)), .int .i64 0, .string t427] (fun k_ => k_ ≠ gb411) (fun _ => False) rfl (by first | (go_simp; done) | (go_simp; rfl)) ?aP (fun _ hk => hk.elim) ?aF ?aO ?aB ?aS ?aL ?_; (case aP => exact k61_mkM _ _ _ (⟨t407, (⟨wrap64 (t412), 0, t427⟩ : S33)⟩ : S61)); (case aB => exact (bl HB.out)); (case aF => exact (fun k_ hk => Kd.freshB (g := gb411) (o := .cells #[.string t407, .int .i64 (wrap64 (t412)), .int .i64 0, .string t427] 61 (0, 0)) (by refine pk ?_; refine blk_put (cs := #[.string t407, .int .i64 (wrap64 (t412)), .int .i64 0, .string (⟨#[]⟩ : ByteArray)]) ?_ 3 _ rfl; exact pk BK411.out) k_ hk)); (case aO => exact (by (with_reducible repeat (first | apply Kd.R_alloc | apply Kd.R_drewN | apply Kd.R_drew)); exact Kd.R_mono (Kd.R_far (p := ⟨gb411, 3, none⟩) (Kd.R_mono HO_368002.out (fun k_ hk => (⟨hk, hk.2⟩ : _ ∧ k_ ≠ gb411))) (fun _ hk => hk.2) (.string t427)) (fun _ hk => hk.1.2))); (case aS => exact (below_size (bl HB.out))); (case aL => have := LMc102.out; omega); intro v432 w118 ho hb hg hat; rw [← Ny431.out] at ho; replace HO_368001 := Aside0.mk (Kd.S_over' (by (with_reducible repeat (first | apply Kd.S_alloc | apply Kd.S_drewN | apply Kd.S_drew)); exact (Kd.S_mono (Kd.S_far (p := ⟨gb411, 3, none⟩) (Kd.S_types HO_368001.out BK411.out (by decide)) (fun _ hk => hk.2) (.string t427)) (fun _ h_ => h_.1))) (Kd.R_typed (by (with_reducible repeat (first | apply Kd.R_alloc | apply Kd.R_drewN | apply Kd.R_drew)); exact (Kd.R_mono (Kd.R_far (p := ⟨gb411, 3, none⟩) (Kd.R_mono HO_368002.out (fun k_ hk => (⟨hk, hk.2⟩ : _ ∧ k_ ≠ gb411))) (fun _ hk => hk.2) (.string t427)) (fun _ h_ => h_.1)))) (by decide) hg); replace BK361 := Aside0.mk (blk_grown (g := gb361) (o := .cells #[.int .i64 0, .slice none 0 0, .slice none 0 0] 25 (0, 0)) (by refine pk ?_; refine blk_far ?_ NB361_411.out _; exact pk BK361.out) hg (Kd.R_ne HO_368002.out BK361.out (by decide))); replace BK367 := Aside0.mk (blk_grown (g := gb367) (o := .cells #[.int .i64 (wrap64 (t363)), u368001, u368002] 25 (0, 0)) (by refine pk ?_; refine blk_far ?_ NB367_411.out _; exact pk BK367.out) hg (Kd.R_ne HO_368002.out BK367.out (by decide))); replace BK411 := Aside0.mk (blk_grown (g := gb411) (o := .cells #[.string t407, .int .i64 (wrap64 (t412)), .int .i64 0, .string t427] 61 (0, 0)) (by refine pk ?_; refine blk_put (cs := #[.string t407, .int .i64 (wrap64 (t412)), .int .i64 0, .string (⟨#[]⟩ : ByteArray)]) ?_ 3 _ rfl; exact pk BK411.out) hg (Kd.R_away HO_368002.out (fun _ hk => hk.2))); replace BK362 := Aside0.mk (blk_grown (g := gb362) (o := .cells #[.string t428, .int .i64 t429, .bool t430] 82 (0, 0)) (by refine pk ?_; refine blk_far ?_ NB362_411.out _; exact pk BK362.out) hg (Kd.R_ne HO_368002.out BK362.out (by decide))); replace HB := Aside0.mk (hb); have HO433 := Aside0.mk (ho); clear HO_368002; clear ho hb hg hat; obtain ⟨Ao119, co119, eo119⟩ := Kd.R_slice HO433.out; subst eo119; obtain ⟨hcz120_0, hcz120_1, hcz120_2, hfz120_0, hfz120_1, hfz120_2⟩ := cz3 BK367.out))
              go_roundg kj69
              case measure => have := HK1.out; have := HJ11.out; have := HK3.out; have := HJ69.out; omega
              case rel => exact ⟨(wrap64 (x12_3 + 1)), (t428), (t429), (t430), (y431), (.slice Ao119 y431.length co119), hsr, H', ⟨by have := HK1.out; have := HJ11.out; have := HK3.out; have := HJ69.out; omega⟩, ⟨by (with_reducible repeat (first | apply Kd.S_alloc | apply Kd.S_drewN | apply Kd.S_drew)); exact Kd.S_mono (Kd.S_far (p := ⟨gb367, 2, none⟩) (Kd.S_types HO_368001.out BK367.out (by decide)) (fun _ hk => hk.2) (.slice Ao119 y431.length co119)) (fun _ hk => trivial)⟩, ⟨by (with_reducible repeat (first | apply Kd.R_alloc | apply Kd.R_drewN | apply Kd.R_drew)); exact Kd.R_mono (Kd.R_far (p := ⟨gb367, 2, none⟩) (Kd.R_types HO433.out BK367.out (by decide)) (fun _ hk => hk.2) (.slice Ao119 y431.length co119)) (fun _ hk => trivial)⟩, ⟨by refine pk ?_; refine blk_far ?_ NB361_367.out _; exact pk BK361.out⟩, ⟨by refine pk ?_; refine blk_put (cs := #[.int .i64 (wrap64 (t363)), u368001, u368002]) ?_ 2 _ rfl; exact pk BK367.out⟩, ⟨by refine pk ?_; refine blk_far ?_ NB362_367.out _; exact pk BK362.out⟩, ⟨bl HB.out⟩⟩
             ·rw [if_neg c102] at H
              exact absurd H (by simp)
            ·rw [if_neg c99] at H
             have c99b0 : ((wrap64 (t412)) == 2) = false := beq_eq_false_iff_ne.mpr c99
             have c99b1 : ((wrap64 (t412)) != 2) = true := bne_iff_ne.mpr c99
             by_cases c121 : (wrap64 (t412)) = 3
             ·rw [if_pos c121] at H
              have c121b0 : ((wrap64 (t412)) == 3) = true := beq_iff_eq.mpr c121
              have c121b1 : ((wrap64 (t412)) != 3) = false := bne_eq_false_iff_eq.mpr c121
              clear c121
              replace H := Option.bind_eq_some_iff.mp H
              obtain ⟨⟨t434, t435, t436, t437⟩, A1220, H⟩ := H
              replace H : (if x368002_3.length < 2932031007402 then (lodestarref05_Decode.l2 kj69 (wrap64 (t398)) (wrap64 (x12_3 + 1)) t435 t436 t437 (wrap64 (t363)) x368001_1 (x368002_3 ++ [(⟨t407, (⟨wrap64 (t412), wrap64 (t434), (⟨#[]⟩ : ByteArray)⟩ : S33)⟩ : S61)])) else (none)) = some (r1, r2, r3, r4, r5) := H
              have A122 := Aside0.mk A1220
              clear A1220
              by_cases c123 : x368002_3.length < 2932031007402
              ·rw [if_pos c123] at H
               have LMc123 := Aside0.mk c123
               clear c123
               obtain ⟨y438, hy438⟩ : ∃ y_ : List (S61), y_ = (x368002_3 ++ [(⟨t407, (⟨wrap64 (t412), wrap64 (t434), (⟨#[]⟩ : ByteArray)⟩ : S33)⟩ : S61)]) := ⟨_, rfl⟩
               replace H : (lodestarref05_Decode.l2 kj69 (wrap64 (t398)) (wrap64 (x12_3 + 1)) t435 t436 t437 (wrap64 (t363)) x368001_1 y438) = some (r1, r2, r3, r4, r5) := by first | (rw [hy438]; with_reducible exact H) | (have H2_ := (Option.bind_some _ _).symm.trans H; rw [hy438]; with_reducible exact H2_) | (have H2_ := (Option.bind_some _ _).symm.trans H; with_reducible exact H2_) | with_reducible exact H | (rw [hy438]; exact H) | exact H
               have Ny438 := Aside0.mk hy438
               clear hy438
               have H' := Aside0.mk H
               clear H
               go_wp2_with (first | ((with_reducible refine gate_callee (f := 41) rfl ?_); refine goesL_ (some 89) rfl rfl Tryd.func41 kr rfl #[.pointer (some ⟨gb362, 0, none⟩), .int .i64 1] rfl ga ?_; (with_reducible refine (lodestarref05_B_Num.calls kj69 gb362 x363000_3 x363001_3 x363002_3 1 t403 t404 t405 t406 w _ ?side1 ?side2 A76.out).mono ?_); (case side1 => exact ⟨pk BK362.out, GE362.out⟩); (case side2 => exact bl HB.out); rintro e w124 ⟨rfl, hi, hb, hk⟩; refine ⟨_, rfl, ?_⟩; replace HO_368001 := Aside0.mk (Kd.S_mono (Kd.S_keep (IsS82.apartS (show IsS82 w _ gb362 x363000_3 x363001_3 x363002_3 from by repeat (first | (with_reducible first | exact (Aside0.mk (⟨BK362.out, GE362.out⟩ : IsS82 w _ gb362 x363000_3 x363001_3 x363002_3)).out | apply IsS82.alloc | apply IsS82.drewN | apply IsS82.drew | apply IsS82.set_0 | apply IsS82.set_1 | apply IsS82.set_2 | refine IsS82.far ?_ NB362_361.out _ | refine IsS82.far ?_ NB362_367.out _) | exact (Aside0.mk (⟨BK362.out, GE362.out⟩ : IsS82 w _ gb362 x363000_3 x363001_3 x363002_3)).out)) (pS HO_368001.out) (by decide)) hk (fun _ h => h.2)) (fun _ h => h.1)); replace HO_368002 := Aside0.mk (Kd.R_mono (Kd.R_keep (IsS82.apart (show IsS82 w _ gb362 x363000_3 x363001_3 x363002_3 from by repeat (first | (with_reducible first | exact (Aside0.mk (⟨BK362.out, GE362.out⟩ : IsS82 w _ gb362 x363000_3 x363001_3 x363002_3)).out | apply IsS82.alloc | apply IsS82.drewN | apply IsS82.drew | apply IsS82.set_0 | apply IsS82.set_1 | apply IsS82.set_2 | refine IsS82.far ?_ NB362_361.out _ | refine IsS82.far ?_ NB362_367.out _) | exact (Aside0.mk (⟨BK362.out, GE362.out⟩ : IsS82 w _ gb362 x363000_3 x363001_3 x363002_3)).out)) (pR HO_368002.out) (by decide)) hk (fun _ h => h.2)) (fun _ h => h.1)); replace BK361 := Aside0.mk (KeepBut.blk hk (g' := gb361) (o := .cells #[.int .i64 0, .slice none 0 0, .slice none 0 0] 25 (0, 0)) (pk BK361.out) NB361_362.out (by simp)); replace BK367 := Aside0.mk (KeepBut.blk hk (g' := gb367) (o := .cells #[.int .i64 (wrap64 (t363)), u368001, u368002] 25 (0, 0)) (pk BK367.out) NB367_362.out (by simp)); replace HB := Aside0.mk (hb); replace BK362 := Aside0.mk (hi.1); (try clear hb); (try clear hb2); (try clear hk); (try clear hi)) | ((with_reducible refine gate_callee (f := 42) rfl ?_); refine goesL_ (some 91) rfl rfl Tryd.func42 kr rfl #[.pointer (some ⟨gb362, 0, none⟩), .int .i64 (wrap64 (t403))] rfl ga ?_; (with_reducible refine (lodestarref05_B_Cut.calls gb362 t404 t405 t406 (wrap64 (t403)) t407 t408 t409 t410 w _ ?side1 ?side2 A77.out).mono ?_); (case side1 => exact ⟨pk BK362.out, GE362.out⟩); (case side2 => exact bl HB.out); rintro e w125 ⟨rfl, hi, hb, hk⟩; refine ⟨_, rfl, ?_⟩; replace HO_368001 := Aside0.mk (Kd.S_mono (Kd.S_keep (IsS82.apartS (show IsS82 w _ gb362 t404 t405 t406 from by repeat (first | (with_reducible first | exact (Aside0.mk (⟨BK362.out, GE362.out⟩ : IsS82 w _ gb362 t404 t405 t406)).out | apply IsS82.alloc | apply IsS82.drewN | apply IsS82.drew | apply IsS82.set_0 | apply IsS82.set_1 | apply IsS82.set_2 | refine IsS82.far ?_ NB362_361.out _ | refine IsS82.far ?_ NB362_367.out _) | exact (Aside0.mk (⟨BK362.out, GE362.out⟩ : IsS82 w _ gb362 t404 t405 t406)).out)) (pS HO_368001.out) (by decide)) hk (fun _ h => h.2)) (fun _ h => h.1)); replace HO_368002 := Aside0.mk (Kd.R_mono (Kd.R_keep (IsS82.apart (show IsS82 w _ gb362 t404 t405 t406 from by repeat (first | (with_reducible first | exact (Aside0.mk (⟨BK362.out, GE362.out⟩ : IsS82 w _ gb362 t404 t405 t406)).out | apply IsS82.alloc | apply IsS82.drewN | apply IsS82.drew | apply IsS82.set_0 | apply IsS82.set_1 | apply IsS82.set_2 | refine IsS82.far ?_ NB362_361.out _ | refine IsS82.far ?_ NB362_367.out _) | exact (Aside0.mk (⟨BK362.out, GE362.out⟩ : IsS82 w _ gb362 t404 t405 t406)).out)) (pR HO_368002.out) (by decide)) hk (fun _ h => h.2)) (fun _ h => h.1)); replace BK361 := Aside0.mk (KeepBut.blk hk (g' := gb361) (o := .cells #[.int .i64 0, .slice none 0 0, .slice none 0 0] 25 (0, 0)) (pk BK361.out) NB361_362.out (by simp)); replace BK367 := Aside0.mk (KeepBut.blk hk (g' := gb367) (o := .cells #[.int .i64 (wrap64 (t363)), u368001, u368002] 25 (0, 0)) (pk BK367.out) NB367_362.out (by simp)); replace HB := Aside0.mk (hb); replace BK362 := Aside0.mk (hi.1); (try clear hb); (try clear hb2); (try clear hk); (try clear hi)) | ((with_reducible refine gate_dst (N := 13) rfl ?_); refine box_event ?hg (N := 13) ?hd (cs := #[.string (⟨#[]⟩ : ByteArray), .int .i64 0, .int .i64 0, .string (⟨#[]⟩ : ByteArray)]) (t := 61) ?hr ?_; (case hd => rfl); (case hg => rfl); (case hr => first | (go_simp; done) | (go_simp; rfl)); intro gb411 hg w126 hbox hb; replace HO_368001 := Aside0.mk (Kd.S_below (pS HO_368001.out) hb); replace HO_368002 := Aside0.mk (Kd.R_below (Kd.R_elderB (pR HO_368002.out) gb411 (Nat.le_of_eq hg.symm)) hb); have BK411 := Aside0.mk (hbox); have GW411 := Aside0.mk (gs (w := w) hg (bl HB.out)); have GE411 := Aside0.mk (gs (w := w) hg (bl HB.out)); replace HB := Aside0.mk (below_step (bl HB.out) hb); have NB361_411 := Aside0.mk ((gl (g := gb361) hg (pk BK361.out))); have NB411_361 := Aside0.mk ((gm (g := gb361) hg (pk BK361.out))); replace BK361 := Aside0.mk (blk_below (pk BK361.out) hb); have NB367_411 := Aside0.mk ((gl (g := gb367) hg (pk BK367.out))); have NB411_367 := Aside0.mk ((gm (g := gb367) hg (pk BK367.out))); replace BK367 := Aside0.mk (blk_below (pk BK367.out) hb); have NB362_411 := Aside0.mk ((gl (g := gb362) hg (pk BK362.out))); have NB411_362 := Aside0.mk ((gm (g := gb362) hg (pk BK362.out))); replace BK362 := Aside0.mk (blk_below (pk BK362.out) hb); clear hb hbox hg; have hnb127 := NB411_361.out; have hnc127 := NB361_411.out; have hnb128 := NB411_367.out; have hnc128 := NB367_411.out; have hnb129 := NB411_362.out; have hnc129 := NB362_411.out; obtain ⟨hcz130_0, hcz130_1, hcz130_2, hcz130_3, hfz130_0, hfz130_1, hfz130_2, hfz130_3⟩ := cz4 BK411.out) | ((with_reducible refine gate_callee (f := 41) rfl ?_); refine goesL_ (some 94) rfl rfl Tryd.func41 kr rfl #[.pointer (some ⟨gb362, 0, none⟩), .int .i64 1] rfl ga ?_; (with_reducible refine (lodestarref05_B_Num.calls kj69 gb362 t408 t409 t410 1 t412 t413 t414 t415 w _ ?side1 ?side2 A78.out).mono ?_); (case side1 => exact ⟨by refine pk ?_; refine blk_far ?_ NB362_411.out _; refine pk ?_; refine blk_far ?_ NB362_411.out _; refine pk ?_; refine blk_far ?_ NB362_411.out _; refine pk ?_; refine blk_far ?_ NB362_411.out _; exact pk BK362.out, GE362.out⟩); (case side2 => exact bl HB.out); rintro e w131 ⟨rfl, hi, hb, hk⟩; refine ⟨_, rfl, ?_⟩; replace HO_368001 := Aside0.mk (Kd.S_mono (Kd.S_keep (IsS82.apartS (show IsS82 w _ gb362 t408 t409 t410 from by repeat (first | (with_reducible first | exact (Aside0.mk (⟨BK362.out, GE362.out⟩ : IsS82 w _ gb362 t408 t409 t410)).out | apply IsS82.alloc | apply IsS82.drewN | apply IsS82.drew | apply IsS82.set_0 | apply IsS82.set_1 | apply IsS82.set_2 | refine IsS82.far ?_ NB362_361.out _ | refine IsS82.far ?_ NB362_367.out _ | refine IsS82.far ?_ NB362_411.out _) | exact (Aside0.mk (⟨BK362.out, GE362.out⟩ : IsS82 w _ gb362 t408 t409 t410)).out)) (by (with_reducible repeat (first | apply Kd.S_alloc | apply Kd.S_drewN | apply Kd.S_drew)); exact (Kd.S_mono (Kd.S_far (p := ⟨gb411, 3, none⟩) (Kd.S_far (p := ⟨gb411, 2, none⟩) (Kd.S_far (p := ⟨gb411, 1, none⟩) (Kd.S_far (p := ⟨gb411, 0, none⟩) (Kd.S_types HO_368001.out BK411.out (by decide)) (fun _ hk => hk.2) (.string t407)) (fun _ hk => hk.2) (.int .i64 0)) (fun _ hk => hk.2) (.int .i64 0)) (fun _ hk => hk.2) (.string (⟨#[]⟩ : ByteArray))) (fun _ h_ => h_.1))) (by decide)) hk (fun _ h => h.2)) (fun _ h => h.1)); replace HO_368002 := Aside0.mk (Kd.R_mono (Kd.R_keep (IsS82.apart (show IsS82 w _ gb362 t408 t409 t410 from by repeat (first | (with_reducible first | exact (Aside0.mk (⟨BK362.out, GE362.out⟩ : IsS82 w _ gb362 t408 t409 t410)).out | apply IsS82.alloc | apply IsS82.drewN | apply IsS82.drew | apply IsS82.set_0 | apply IsS82.set_1 | apply IsS82.set_2 | refine IsS82.far ?_ NB362_361.out _ | refine IsS82.far ?_ NB362_367.out _ | refine IsS82.far ?_ NB362_411.out _) | exact (Aside0.mk (⟨BK362.out, GE362.out⟩ : IsS82 w _ gb362 t408 t409 t410)).out)) (by (with_reducible repeat (first | apply Kd.R_alloc | apply Kd.R_drewN | apply Kd.R_drew)); exact (Kd.R_mono (Kd.R_far (p := ⟨gb411, 3, none⟩) (Kd.R_far (p := ⟨gb411, 2, none⟩) (Kd.R_far (p := ⟨gb411, 1, none⟩) (Kd.R_far (p := ⟨gb411, 0, none⟩) (Kd.R_mono HO_368002.out (fun k_ hk => (⟨hk, hk.2⟩ : _ ∧ k_ ≠ gb411))) (fun _ hk => hk.2) (.string t407)) (fun _ hk => hk.2) (.int .i64 0)) (fun _ hk => hk.2) (.int .i64 0)) (fun _ hk => hk.2) (.string (⟨#[]⟩ : ByteArray))) (fun _ h_ => h_.1))) (by decide)) hk (fun _ h => h.2)) (fun _ h => h.1)); replace BK361 := Aside0.mk (KeepBut.blk hk (g' := gb361) (o := .cells #[.int .i64 0, .slice none 0 0, .slice none 0 0] 25 (0, 0)) (by refine pk ?_; refine blk_far ?_ NB361_411.out _; refine pk ?_; refine blk_far ?_ NB361_411.out _; refine pk ?_; refine blk_far ?_ NB361_411.out _; refine pk ?_; refine blk_far ?_ NB361_411.out _; exact pk BK361.out) NB361_362.out (by simp)); replace BK367 := Aside0.mk (KeepBut.blk hk (g' := gb367) (o := .cells #[.int .i64 (wrap64 (t363)), u368001, u368002] 25 (0, 0)) (by refine pk ?_; refine blk_far ?_ NB367_411.out _; refine pk ?_; refine blk_far ?_ NB367_411.out _; refine pk ?_; refine blk_far ?_ NB367_411.out _; refine pk ?_; refine blk_far ?_ NB367_411.out _; exact pk BK367.out) NB367_362.out (by simp)); replace BK411 := Aside0.mk (KeepBut.blk hk (g' := gb411) (o := .cells #[.string t407, .int .i64 0, .int .i64 0, .string (⟨#[]⟩ : ByteArray)] 61 (0, 0)) (by refine pk ?_; refine blk_put (cs := #[.string t407, .int .i64 0, .int .i64 0, .string (⟨#[]⟩ : ByteArray)]) ?_ 3 _ rfl; refine pk ?_; refine blk_put (cs := #[.string t407, .int .i64 0, .int .i64 0, .string (⟨#[]⟩ : ByteArray)]) ?_ 2 _ rfl; refine pk ?_; refine blk_put (cs := #[.string t407, .int .i64 0, .int .i64 0, .string (⟨#[]⟩ : ByteArray)]) ?_ 1 _ rfl; refine pk ?_; refine blk_put (cs := #[.string (⟨#[]⟩ : ByteArray), .int .i64 0, .int .i64 0, .string (⟨#[]⟩ : ByteArray)]) ?_ 0 _ rfl; exact pk BK411.out) NB411_362.out (by simp)); replace HB := Aside0.mk (hb); replace BK362 := Aside0.mk (hi.1); (try clear hb); (try clear hb2); (try clear hk); (try clear hi); obtain ⟨hcz132_0, hcz132_1, hcz132_2, hcz132_3, hfz132_0, hfz132_1, hfz132_2, hfz132_3⟩ := cz4 BK411.out) | ((with_reducible refine gate_callee (f := 41) rfl ?_); refine goesL_ (some 120) rfl rfl Tryd.func41 kr rfl #[.pointer (some ⟨gb362, 0, none⟩), .int .i64 1] rfl ga ?_; (with_reducible refine (lodestarref05_B_Num.calls kj69 gb362 t413 t414 t415 1 t434 t435 t436 t437 w _ ?side1 ?side2 A122.out).mono ?_); (case side1 => exact ⟨by refine pk ?_; refine blk_far ?_ NB362_411.out _; exact pk BK362.out, GE362.out⟩); (case side2 => exact bl HB.out); rintro e w133 ⟨rfl, hi, hb, hk⟩; refine ⟨_, rfl, ?_⟩; replace HO_368001 := Aside0.mk (Kd.S_mono (Kd.S_keep (IsS82.apartS (show IsS82 w _ gb362 t413 t414 t415 from by repeat (first | (with_reducible first | exact (Aside0.mk (⟨BK362.out, GE362.out⟩ : IsS82 w _ gb362 t413 t414 t415)).out | apply IsS82.alloc | apply IsS82.drewN | apply IsS82.drew | apply IsS82.set_0 | apply IsS82.set_1 | apply IsS82.set_2 | refine IsS82.far ?_ NB362_361.out _ | refine IsS82.far ?_ NB362_367.out _ | refine IsS82.far ?_ NB362_411.out _) | exact (Aside0.mk (⟨BK362.out, GE362.out⟩ : IsS82 w _ gb362 t413 t414 t415)).out)) (by (with_reducible repeat (first | apply Kd.S_alloc | apply Kd.S_drewN | apply Kd.S_drew)); exact (Kd.S_mono (Kd.S_far (p := ⟨gb411, 1, none⟩) (Kd.S_types HO_368001.out BK411.out (by decide)) (fun _ hk => hk.2) (.int .i64 (wrap64 (t412)))) (fun _ h_ => h_.1))) (by decide)) hk (fun _ h => h.2)) (fun _ h => h.1)); replace HO_368002 := Aside0.mk (Kd.R_mono (Kd.R_keep (IsS82.apart (show IsS82 w _ gb362 t413 t414 t415 from by repeat (first | (with_reducible first | exact (Aside0.mk (⟨BK362.out, GE362.out⟩ : IsS82 w _ gb362 t413 t414 t415)).out | apply IsS82.alloc | apply IsS82.drewN | apply IsS82.drew | apply IsS82.set_0 | apply IsS82.set_1 | apply IsS82.set_2 | refine IsS82.far ?_ NB362_361.out _ | refine IsS82.far ?_ NB362_367.out _ | refine IsS82.far ?_ NB362_411.out _) | exact (Aside0.mk (⟨BK362.out, GE362.out⟩ : IsS82 w _ gb362 t413 t414 t415)).out)) (by (with_reducible repeat (first | apply Kd.R_alloc | apply Kd.R_drewN | apply Kd.R_drew)); exact (Kd.R_mono (Kd.R_far (p := ⟨gb411, 1, none⟩) (Kd.R_mono HO_368002.out (fun k_ hk => (⟨hk, hk.2⟩ : _ ∧ k_ ≠ gb411))) (fun _ hk => hk.2) (.int .i64 (wrap64 (t412)))) (fun _ h_ => h_.1))) (by decide)) hk (fun _ h => h.2)) (fun _ h => h.1)); replace BK361 := Aside0.mk (KeepBut.blk hk (g' := gb361) (o := .cells #[.int .i64 0, .slice none 0 0, .slice none 0 0] 25 (0, 0)) (by refine pk ?_; refine blk_far ?_ NB361_411.out _; exact pk BK361.out) NB361_362.out (by simp)); replace BK367 := Aside0.mk (KeepBut.blk hk (g' := gb367) (o := .cells #[.int .i64 (wrap64 (t363)), u368001, u368002] 25 (0, 0)) (by refine pk ?_; refine blk_far ?_ NB367_411.out _; exact pk BK367.out) NB367_362.out (by simp)); replace BK411 := Aside0.mk (KeepBut.blk hk (g' := gb411) (o := .cells #[.string t407, .int .i64 (wrap64 (t412)), .int .i64 0, .string (⟨#[]⟩ : ByteArray)] 61 (0, 0)) (by refine pk ?_; refine blk_put (cs := #[.string t407, .int .i64 0, .int .i64 0, .string (⟨#[]⟩ : ByteArray)]) ?_ 1 _ rfl; exact pk BK411.out) NB411_362.out (by simp)); replace HB := Aside0.mk (hb); replace BK362 := Aside0.mk (hi.1); (try clear hb); (try clear hb2); (try clear hk); (try clear hi); obtain ⟨hcz134_0, hcz134_1, hcz134_2, hcz134_3, hfz134_0, hfz134_1, hfz134_2, hfz134_3⟩ := cz4 BK411.out; have hnb135 := NB367_361.out; have hnc135 := NB361_367.out; have hnb136 := NB367_362.out; have hnc136 := NB362_367.out; obtain ⟨hcz137_0, hcz137_1, hcz137_2, hfz137_0, hfz137_1, hfz137_2⟩ := cz3 BK367.out) | ((with_reducible refine gate_builtin (b := .append) (xs := #[.tmp 125, .tmp 127]) rfl ?_); at_builtin; refine Kd.R_append k61 (w0 := w) w.heap.size rfl (.tmp 125) (.tmp 127) 23 61 (.agg #[(.string ⟨#[]⟩), (.int .i64 0), (.int .i64 0), (.string ⟨#[]⟩)]) 48 rfl Tryd.underlying23 info61 rfl (by decide) (by omega) u368002 x368002_3 (⟨t407, (⟨wrap64 (t412), wrap64 (t434), (⟨#[]⟩ : ByteArray)⟩ : S33)⟩ : S61) [.string t407, .int .i64 (wrap64 (t412)), .int .i64 (wrap64 (t434)), .string (⟨#[]⟩ : ByteArray)] (fun k_ => k_ ≠ gb411) (fun _ => False) rfl (by first | (go_simp; done) | (go_simp; rfl)) ?aP (fun _ hk => hk.elim) ?aF ?aO ?aB ?aS ?aL ?_; (case aP => exact k61_mkM _ _ _ (⟨t407, (⟨wrap64 (t412), wrap64 (t434), (⟨#[]⟩ : ByteArray)⟩ : S33)⟩ : S61)); (case aB => exact (bl HB.out)); (case aF => exact (fun k_ hk => Kd.freshB (g := gb411) (o := .cells #[.string t407, .int .i64 (wrap64 (t412)), .int .i64 (wrap64 (t434)), .string (⟨#[]⟩ : ByteArray)] 61 (0, 0)) (by refine pk ?_; refine blk_put (cs := #[.string t407, .int .i64 (wrap64 (t412)), .int .i64 0, .string (⟨#[]⟩ : ByteArray)]) ?_ 2 _ rfl; exact pk BK411.out) k_ hk)); (case aO => exact (by (with_reducible repeat (first | apply Kd.R_alloc | apply Kd.R_drewN | apply Kd.R_drew)); exact Kd.R_mono (Kd.R_far (p := ⟨gb411, 2, none⟩) (Kd.R_mono HO_368002.out (fun k_ hk => (⟨hk, hk.2⟩ : _ ∧ k_ ≠ gb411))) (fun _ hk => hk.2) (.int .i64 (wrap64 (t434)))) (fun _ hk => hk.1.2))); (case aS => exact (below_size (bl HB.out))); (case aL => have := LMc123.out; omega); intro v439 w138 ho hb hg hat; rw [← Ny438.out] at ho; replace HO_368001 := Aside0.mk (Kd.S_over' (by (with_reducible repeat (first | apply Kd.S_alloc | apply Kd.S_drewN | apply Kd.S_drew)); exact (Kd.S_mono (Kd.S_far (p := ⟨gb411, 2, none⟩) (Kd.S_types HO_368001.out BK411.out (by decide)) (fun _ hk => hk.2) (.int .i64 (wrap64 (t434)))) (fun _ h_ => h_.1))) (Kd.R_typed (by (with_reducible repeat (first | apply Kd.R_alloc | apply Kd.R_drewN | apply Kd.R_drew)); exact (Kd.R_mono (Kd.R_far (p := ⟨gb411, 2, none⟩) (Kd.R_mono HO_368002.out (fun k_ hk => (⟨hk, hk.2⟩ : _ ∧ k_ ≠ gb411))) (fun _ hk => hk.2) (.int .i64 (wrap64 (t434)))) (fun _ h_ => h_.1)))) (by decide) hg); replace BK361 := Aside0.mk (blk_grown (g := gb361) (o := .cells #[.int .i64 0, .slice none 0 0, .slice none 0 0] 25 (0, 0)) (by refine pk ?_; refine blk_far ?_ NB361_411.out _; exact pk BK361.out) hg (Kd.R_ne HO_368002.out BK361.out (by decide))); replace BK367 := Aside0.mk (blk_grown (g := gb367) (o := .cells #[.int .i64 (wrap64 (t363)), u368001, u368002] 25 (0, 0)) (by refine pk ?_; refine blk_far ?_ NB367_411.out _; exact pk BK367.out) hg (Kd.R_ne HO_368002.out BK367.out (by decide))); replace BK411 := Aside0.mk (blk_grown (g := gb411) (o := .cells #[.string t407, .int .i64 (wrap64 (t412)), .int .i64 (wrap64 (t434)), .string (⟨#[]⟩ : ByteArray)] 61 (0, 0)) (by refine pk ?_; refine blk_put (cs := #[.string t407, .int .i64 (wrap64 (t412)), .int .i64 0, .string (⟨#[]⟩ : ByteArray)]) ?_ 2 _ rfl; exact pk BK411.out) hg (Kd.R_away HO_368002.out (fun _ hk => hk.2))); replace BK362 := Aside0.mk (blk_grown (g := gb362) (o := .cells #[.string t435, .int .i64 t436, .bool t437] 82 (0, 0)) (by refine pk ?_; refine blk_far ?_ NB362_411.out _; exact pk BK362.out) hg (Kd.R_ne HO_368002.out BK362.out (by decide))); replace HB := Aside0.mk (hb); have HO440 := Aside0.mk (ho); clear HO_368002; clear ho hb hg hat; obtain ⟨Ao139, co139, eo139⟩ := Kd.R_slice HO440.out; subst eo139; obtain ⟨hcz140_0, hcz140_1, hcz140_2, hfz140_0, hfz140_1, hfz140_2⟩ := cz3 BK367.out))
               go_roundg kj69
               case measure => have := HK1.out; have := HJ11.out; have := HK3.out; have := HJ69.out; omega
               case rel => exact ⟨(wrap64 (x12_3 + 1)), (t435), (t436), (t437), (y438), (.slice Ao139 y438.length co139), hsr, H', ⟨by have := HK1.out; have := HJ11.out; have := HK3.out; have := HJ69.out; omega⟩, ⟨by (with_reducible repeat (first | apply Kd.S_alloc | apply Kd.S_drewN | apply Kd.S_drew)); exact Kd.S_mono (Kd.S_far (p := ⟨gb367, 2, none⟩) (Kd.S_types HO_368001.out BK367.out (by decide)) (fun _ hk => hk.2) (.slice Ao139 y438.length co139)) (fun _ hk => trivial)⟩, ⟨by (with_reducible repeat (first | apply Kd.R_alloc | apply Kd.R_drewN | apply Kd.R_drew)); exact Kd.R_mono (Kd.R_far (p := ⟨gb367, 2, none⟩) (Kd.R_types HO440.out BK367.out (by decide)) (fun _ hk => hk.2) (.slice Ao139 y438.length co139)) (fun _ hk => trivial)⟩, ⟨by refine pk ?_; refine blk_far ?_ NB361_367.out _; exact pk BK361.out⟩, ⟨by refine pk ?_; refine blk_put (cs := #[.int .i64 (wrap64 (t363)), u368001, u368002]) ?_ 2 _ rfl; exact pk BK367.out⟩, ⟨by refine pk ?_; refine blk_far ?_ NB362_367.out _; exact pk BK362.out⟩, ⟨bl HB.out⟩⟩
              ·rw [if_neg c123] at H
               exact absurd H (by simp)
             ·rw [if_neg c121] at H
              have c121b0 : ((wrap64 (t412)) == 3) = false := beq_eq_false_iff_ne.mpr c121
              have c121b1 : ((wrap64 (t412)) != 3) = true := bne_iff_ne.mpr c121
              by_cases c141 : x368002_3.length < 2932031007402
              ·rw [if_pos c141] at H
               have LMc141 := Aside0.mk c141
               clear c141
               obtain ⟨y441, hy441⟩ : ∃ y_ : List (S61), y_ = (x368002_3 ++ [(⟨t407, (⟨wrap64 (t412), 0, (⟨#[]⟩ : ByteArray)⟩ : S33)⟩ : S61)]) := ⟨_, rfl⟩
               replace H : (lodestarref05_Decode.l2 kj69 (wrap64 (t398)) (wrap64 (x12_3 + 1)) t413 t414 t415 (wrap64 (t363)) x368001_1 y441) = some (r1, r2, r3, r4, r5) := by first | (rw [hy441]; with_reducible exact H) | (have H2_ := (Option.bind_some _ _).symm.trans H; rw [hy441]; with_reducible exact H2_) | (have H2_ := (Option.bind_some _ _).symm.trans H; with_reducible exact H2_) | with_reducible exact H | (rw [hy441]; exact H) | exact H
               have Ny441 := Aside0.mk hy441
               clear hy441
               have H' := Aside0.mk H
               clear H
               go_wp2_with (first | ((with_reducible refine gate_callee (f := 41) rfl ?_); refine goesL_ (some 89) rfl rfl Tryd.func41 kr rfl #[.pointer (some ⟨gb362, 0, none⟩), .int .i64 1] rfl ga ?_; (with_reducible refine (lodestarref05_B_Num.calls kj69 gb362 x363000_3 x363001_3 x363002_3 1 t403 t404 t405 t406 w _ ?side1 ?side2 A76.out).mono ?_); (case side1 => exact ⟨pk BK362.out, GE362.out⟩); (case side2 => exact bl HB.out); rintro e w142 ⟨rfl, hi, hb, hk⟩; refine ⟨_, rfl, ?_⟩; replace HO_368001 := Aside0.mk (Kd.S_mono (Kd.S_keep (IsS82.apartS (show IsS82 w _ gb362 x363000_3 x363001_3 x363002_3 from by repeat (first | (with_reducible first | exact (Aside0.mk (⟨BK362.out, GE362.out⟩ : IsS82 w _ gb362 x363000_3 x363001_3 x363002_3)).out | apply IsS82.alloc | apply IsS82.drewN | apply IsS82.drew | apply IsS82.set_0 | apply IsS82.set_1 | apply IsS82.set_2 | refine IsS82.far ?_ NB362_361.out _ | refine IsS82.far ?_ NB362_367.out _) | exact (Aside0.mk (⟨BK362.out, GE362.out⟩ : IsS82 w _ gb362 x363000_3 x363001_3 x363002_3)).out)) (pS HO_368001.out) (by decide)) hk (fun _ h => h.2)) (fun _ h => h.1)); replace HO_368002 := Aside0.mk (Kd.R_mono (Kd.R_keep (IsS82.apart (show IsS82 w _ gb362 x363000_3 x363001_3 x363002_3 from by repeat (first | (with_reducible first | exact (Aside0.mk (⟨BK362.out, GE362.out⟩ : IsS82 w _ gb362 x363000_3 x363001_3 x363002_3)).out | apply IsS82.alloc | apply IsS82.drewN | apply IsS82.drew | apply IsS82.set_0 | apply IsS82.set_1 | apply IsS82.set_2 | refine IsS82.far ?_ NB362_361.out _ | refine IsS82.far ?_ NB362_367.out _) | exact (Aside0.mk (⟨BK362.out, GE362.out⟩ : IsS82 w _ gb362 x363000_3 x363001_3 x363002_3)).out)) (pR HO_368002.out) (by decide)) hk (fun _ h => h.2)) (fun _ h => h.1)); replace BK361 := Aside0.mk (KeepBut.blk hk (g' := gb361) (o := .cells #[.int .i64 0, .slice none 0 0, .slice none 0 0] 25 (0, 0)) (pk BK361.out) NB361_362.out (by simp)); replace BK367 := Aside0.mk (KeepBut.blk hk (g' := gb367) (o := .cells #[.int .i64 (wrap64 (t363)), u368001, u368002] 25 (0, 0)) (pk BK367.out) NB367_362.out (by simp)); replace HB := Aside0.mk (hb); replace BK362 := Aside0.mk (hi.1); (try clear hb); (try clear hb2); (try clear hk); (try clear hi)) | ((with_reducible refine gate_callee (f := 42) rfl ?_); refine goesL_ (some 91) rfl rfl Tryd.func42 kr rfl #[.pointer (some ⟨gb362, 0, none⟩), .int .i64 (wrap64 (t403))] rfl ga ?_; (with_reducible refine (lodestarref05_B_Cut.calls gb362 t404 t405 t406 (wrap64 (t403)) t407 t408 t409 t410 w _ ?side1 ?side2 A77.out).mono ?_); (case side1 => exact ⟨pk BK362.out, GE362.out⟩); (case side2 => exact bl HB.out); rintro e w143 ⟨rfl, hi, hb, hk⟩; refine ⟨_, rfl, ?_⟩; replace HO_368001 := Aside0.mk (Kd.S_mono (Kd.S_keep (IsS82.apartS (show IsS82 w _ gb362 t404 t405 t406 from by repeat (first | (with_reducible first | exact (Aside0.mk (⟨BK362.out, GE362.out⟩ : IsS82 w _ gb362 t404 t405 t406)).out | apply IsS82.alloc | apply IsS82.drewN | apply IsS82.drew | apply IsS82.set_0 | apply IsS82.set_1 | apply IsS82.set_2 | refine IsS82.far ?_ NB362_361.out _ | refine IsS82.far ?_ NB362_367.out _) | exact (Aside0.mk (⟨BK362.out, GE362.out⟩ : IsS82 w _ gb362 t404 t405 t406)).out)) (pS HO_368001.out) (by decide)) hk (fun _ h => h.2)) (fun _ h => h.1)); replace HO_368002 := Aside0.mk (Kd.R_mono (Kd.R_keep (IsS82.apart (show IsS82 w _ gb362 t404 t405 t406 from by repeat (first | (with_reducible first | exact (Aside0.mk (⟨BK362.out, GE362.out⟩ : IsS82 w _ gb362 t404 t405 t406)).out | apply IsS82.alloc | apply IsS82.drewN | apply IsS82.drew | apply IsS82.set_0 | apply IsS82.set_1 | apply IsS82.set_2 | refine IsS82.far ?_ NB362_361.out _ | refine IsS82.far ?_ NB362_367.out _) | exact (Aside0.mk (⟨BK362.out, GE362.out⟩ : IsS82 w _ gb362 t404 t405 t406)).out)) (pR HO_368002.out) (by decide)) hk (fun _ h => h.2)) (fun _ h => h.1)); replace BK361 := Aside0.mk (KeepBut.blk hk (g' := gb361) (o := .cells #[.int .i64 0, .slice none 0 0, .slice none 0 0] 25 (0, 0)) (pk BK361.out) NB361_362.out (by simp)); replace BK367 := Aside0.mk (KeepBut.blk hk (g' := gb367) (o := .cells #[.int .i64 (wrap64 (t363)), u368001, u368002] 25 (0, 0)) (pk BK367.out) NB367_362.out (by simp)); replace HB := Aside0.mk (hb); replace BK362 := Aside0.mk (hi.1); (try clear hb); (try clear hb2); (try clear hk); (try clear hi)) | ((with_reducible refine gate_dst (N := 13) rfl ?_); refine box_event ?hg (N := 13) ?hd (cs := #[.string (⟨#[]⟩ : ByteArray), .int .i64 0, .int .i64 0, .string (⟨#[]⟩ : ByteArray)]) (t := 61) ?hr ?_; (case hd => rfl); (case hg => rfl); (case hr => first | (go_simp; done) | (go_simp; rfl)); intro gb411 hg w144 hbox hb; replace HO_368001 := Aside0.mk (Kd.S_below (pS HO_368001.out) hb); replace HO_368002 := Aside0.mk (Kd.R_below (Kd.R_elderB (pR HO_368002.out) gb411 (Nat.le_of_eq hg.symm)) hb); have BK411 := Aside0.mk (hbox); have GW411 := Aside0.mk (gs (w := w) hg (bl HB.out)); have GE411 := Aside0.mk (gs (w := w) hg (bl HB.out)); replace HB := Aside0.mk (below_step (bl HB.out) hb); have NB361_411 := Aside0.mk ((gl (g := gb361) hg (pk BK361.out))); have NB411_361 := Aside0.mk ((gm (g := gb361) hg (pk BK361.out))); replace BK361 := Aside0.mk (blk_below (pk BK361.out) hb); have NB367_411 := Aside0.mk ((gl (g := gb367) hg (pk BK367.out))); have NB411_367 := Aside0.mk ((gm (g := gb367) hg (pk BK367.out))); replace BK367 := Aside0.mk (blk_below (pk BK367.out) hb); have NB362_411 := Aside0.mk ((gl (g := gb362) hg (pk BK362.out))); have NB411_362 := Aside0.mk ((gm (g := gb362) hg (pk BK362.out))); replace BK362 := Aside0.mk (blk_below (pk BK362.out) hb); clear hb hbox hg; have hnb145 := NB411_361.out; have hnc145 := NB361_411.out; have hnb146 := NB411_367.out; have hnc146 := NB367_411.out; have hnb147 := NB411_362.out; have hnc147 := NB362_411.out; obtain ⟨hcz148_0, hcz148_1, hcz148_2, hcz148_3, hfz148_0, hfz148_1, hfz148_2, hfz148_3⟩ := cz4 BK411.out) | ((with_reducible refine gate_callee (f := 41) rfl ?_); refine goesL_ (some 94) rfl rfl Tryd.func41 kr rfl #[.pointer (some ⟨gb362, 0, none⟩), .int .i64 1] rfl ga ?_; (with_reducible refine (lodestarref05_B_Num.calls kj69 gb362 t408 t409 t410 1 t412 t413 t414 t415 w _ ?side1 ?side2 A78.out).mono ?_); (case side1 => exact ⟨by refine pk ?_; refine blk_far ?_ NB362_411.out _; refine pk ?_; refine blk_far ?_ NB362_411.out _; refine pk ?_; refine blk_far ?_ NB362_411.out _; refine pk ?_; refine blk_far ?_ NB362_411.out _; exact pk BK362.out, GE362.out⟩); (case side2 => exact bl HB.out); rintro e w149 ⟨rfl, hi, hb, hk⟩; refine ⟨_, rfl, ?_⟩; replace HO_368001 := Aside0.mk (Kd.S_mono (Kd.S_keep (IsS82.apartS (show IsS82 w _ gb362 t408 t409 t410 from by repeat (first | (with_reducible first | exact (Aside0.mk (⟨BK362.out, GE362.out⟩ : IsS82 w _ gb362 t408 t409 t410)).out | apply IsS82.alloc | apply IsS82.drewN | apply IsS82.drew | apply IsS82.set_0 | apply IsS82.set_1 | apply IsS82.set_2 | refine IsS82.far ?_ NB362_361.out _ | refine IsS82.far ?_ NB362_367.out _ | refine IsS82.far ?_ NB362_411.out _) | exact (Aside0.mk (⟨BK362.out, GE362.out⟩ : IsS82 w _ gb362 t408 t409 t410)).out)) (by (with_reducible repeat (first | apply Kd.S_alloc | apply Kd.S_drewN | apply Kd.S_drew)); exact (Kd.S_mono (Kd.S_far (p := ⟨gb411, 3, none⟩) (Kd.S_far (p := ⟨gb411, 2, none⟩) (Kd.S_far (p := ⟨gb411, 1, none⟩) (Kd.S_far (p := ⟨gb411, 0, none⟩) (Kd.S_types HO_368001.out BK411.out (by decide)) (fun _ hk => hk.2) (.string t407)) (fun _ hk => hk.2) (.int .i64 0)) (fun _ hk => hk.2) (.int .i64 0)) (fun _ hk => hk.2) (.string (⟨#[]⟩ : ByteArray))) (fun _ h_ => h_.1))) (by decide)) hk (fun _ h => h.2)) (fun _ h => h.1)); replace HO_368002 := Aside0.mk (Kd.R_mono (Kd.R_keep (IsS82.apart (show IsS82 w _ gb362 t408 t409 t410 from by repeat (first | (with_reducible first | exact (Aside0.mk (⟨BK362.out, GE362.out⟩ : IsS82 w _ gb362 t408 t409 t410)).out | apply IsS82.alloc | apply IsS82.drewN | apply IsS82.drew | apply IsS82.set_0 | apply IsS82.set_1 | apply IsS82.set_2 | refine IsS82.far ?_ NB362_361.out _ | refine IsS82.far ?_ NB362_367.out _ | refine IsS82.far ?_ NB362_411.out _) | exact (Aside0.mk (⟨BK362.out, GE362.out⟩ : IsS82 w _ gb362 t408 t409 t410)).out)) (by (with_reducible repeat (first | apply Kd.R_alloc | apply Kd.R_drewN | apply Kd.R_drew)); exact (Kd.R_mono (Kd.R_far (p := ⟨gb411, 3, none⟩) (Kd.R_far (p := ⟨gb411, 2, none⟩) (Kd.R_far (p := ⟨gb411, 1, none⟩) (Kd.R_far (p := ⟨gb411, 0, none⟩) (Kd.R_mono HO_368002.out (fun k_ hk => (⟨hk, hk.2⟩ : _ ∧ k_ ≠ gb411))) (fun _ hk => hk.2) (.string t407)) (fun _ hk => hk.2) (.int .i64 0)) (fun _ hk => hk.2) (.int .i64 0)) (fun _ hk => hk.2) (.string (⟨#[]⟩ : ByteArray))) (fun _ h_ => h_.1))) (by decide)) hk (fun _ h => h.2)) (fun _ h => h.1)); replace BK361 := Aside0.mk (KeepBut.blk hk (g' := gb361) (o := .cells #[.int .i64 0, .slice none 0 0, .slice none 0 0] 25 (0, 0)) (by refine pk ?_; refine blk_far ?_ NB361_411.out _; refine pk ?_; refine blk_far ?_ NB361_411.out _; refine pk ?_; refine blk_far ?_ NB361_411.out _; refine pk ?_; refine blk_far ?_ NB361_411.out _; exact pk BK361.out) NB361_362.out (by simp)); replace BK367 := Aside0.mk (KeepBut.blk hk (g' := gb367) (o := .cells #[.int .i64 (wrap64 (t363)), u368001, u368002] 25 (0, 0)) (by refine pk ?_; refine blk_far ?_ NB367_411.out _; refine pk ?_; refine blk_far ?_ NB367_411.out _; refine pk ?_; refine blk_far ?_ NB367_411.out _; refine pk ?_; refine blk_far ?_ NB367_411.out _; exact pk BK367.out) NB367_362.out (by simp)); replace BK411 := Aside0.mk (KeepBut.blk hk (g' := gb411) (o := .cells #[.string t407, .int .i64 0, .int .i64 0, .string (⟨#[]⟩ : ByteArray)] 61 (0, 0)) (by refine pk ?_; refine blk_put (cs := #[.string t407, .int .i64 0, .int .i64 0, .string (⟨#[]⟩ : ByteArray)]) ?_ 3 _ rfl; refine pk ?_; refine blk_put (cs := #[.string t407, .int .i64 0, .int .i64 0, .string (⟨#[]⟩ : ByteArray)]) ?_ 2 _ rfl; refine pk ?_; refine blk_put (cs := #[.string t407, .int .i64 0, .int .i64 0, .string (⟨#[]⟩ : ByteArray)]) ?_ 1 _ rfl; refine pk ?_; refine blk_put (cs := #[.string (⟨#[]⟩ : ByteArray), .int .i64 0, .int .i64 0, .string (⟨#[]⟩ : ByteArray)]) ?_ 0 _ rfl; exact pk BK411.out) NB411_362.out (by simp)); replace HB := Aside0.mk (hb); replace BK362 := Aside0.mk (hi.1); (try clear hb); (try clear hb2); (try clear hk); (try clear hi); obtain ⟨hcz150_0, hcz150_1, hcz150_2, hcz150_3, hfz150_0, hfz150_1, hfz150_2, hfz150_3⟩ := cz4 BK411.out; have hnb151 := NB367_361.out; have hnc151 := NB361_367.out; have hnb152 := NB367_362.out; have hnc152 := NB362_367.out; obtain ⟨hcz153_0, hcz153_1, hcz153_2, hfz153_0, hfz153_1, hfz153_2⟩ := cz3 BK367.out) | ((with_reducible refine gate_builtin (b := .append) (xs := #[.tmp 125, .tmp 127]) rfl ?_); at_builtin; refine Kd.R_append k61 (w0 := w) w.heap.size rfl (.tmp 125) (.tmp 127) 23 61 (.agg #[(.string ⟨#[]⟩), (.int .i64 0), (.int .i64 0), (.string ⟨#[]⟩)]) 48 rfl Tryd.underlying23 info61 rfl (by decide) (by omega) u368002 x368002_3 (⟨t407, (⟨wrap64 (t412), 0, (⟨#[]⟩ : ByteArray)⟩ : S33)⟩ : S61) [.string t407, .int .i64 (wrap64 (t412)), .int .i64 0, .string (⟨#[]⟩ : ByteArray)] (fun k_ => k_ ≠ gb411) (fun _ => False) rfl (by first | (go_simp; done) | (go_simp; rfl)) ?aP (fun _ hk => hk.elim) ?aF ?aO ?aB ?aS ?aL ?_; (case aP => exact k61_mkM _ _ _ (⟨t407, (⟨wrap64 (t412), 0, (⟨#[]⟩ : ByteArray)⟩ : S33)⟩ : S61)); (case aB => exact (bl HB.out)); (case aF => exact (fun k_ hk => Kd.freshB (g := gb411) (o := .cells #[.string t407, .int .i64 (wrap64 (t412)), .int .i64 0, .string (⟨#[]⟩ : ByteArray)] 61 (0, 0)) (by refine pk ?_; refine blk_put (cs := #[.string t407, .int .i64 0, .int .i64 0, .string (⟨#[]⟩ : ByteArray)]) ?_ 1 _ rfl; exact pk BK411.out) k_ hk)); (case aO => exact (by (with_reducible repeat (first | apply Kd.R_alloc | apply Kd.R_drewN | apply Kd.R_drew)); exact Kd.R_mono (Kd.R_far (p := ⟨gb411, 1, none⟩) (Kd.R_mono HO_368002.out (fun k_ hk => (⟨hk, hk.2⟩ : _ ∧ k_ ≠ gb411))) (fun _ hk => hk.2) (.int .i64 (wrap64 (t412)))) (fun _ hk => hk.1.2))); (case aS => exact (below_size (bl HB.out))); (case aL => have := LMc141.out; omega); intro v442 w154 ho hb hg hat; rw [← Ny441.out] at ho; replace HO_368001 := Aside0.mk (Kd.S_over' (by (with_reducible repeat (first | apply Kd.S_alloc | apply Kd.S_drewN | apply Kd.S_drew)); exact (Kd.S_mono (Kd.S_far (p := ⟨gb411, 1, none⟩) (Kd.S_types HO_368001.out BK411.out (by decide)) (fun _ hk => hk.2) (.int .i64 (wrap64 (t412)))) (fun _ h_ => h_.1))) (Kd.R_typed (by (with_reducible repeat (first | apply Kd.R_alloc | apply Kd.R_drewN | apply Kd.R_drew)); exact (Kd.R_mono (Kd.R_far (p := ⟨gb411, 1, none⟩) (Kd.R_mono HO_368002.out (fun k_ hk => (⟨hk, hk.2⟩ : _ ∧ k_ ≠ gb411))) (fun _ hk => hk.2) (.int .i64 (wrap64 (t412)))) (fun _ h_ => h_.1)))) (by decide) hg); replace BK361 := Aside0.mk (blk_grown (g := gb361) (o := .cells #[.int .i64 0, .slice none 0 0, .slice none 0 0] 25 (0, 0)) (by refine pk ?_; refine blk_far ?_ NB361_411.out _; exact pk BK361.out) hg (Kd.R_ne HO_368002.out BK361.out (by decide))); replace BK367 := Aside0.mk (blk_grown (g := gb367) (o := .cells #[.int .i64 (wrap64 (t363)), u368001, u368002] 25 (0, 0)) (by refine pk ?_; refine blk_far ?_ NB367_411.out _; exact pk BK367.out) hg (Kd.R_ne HO_368002.out BK367.out (by decide))); replace BK411 := Aside0.mk (blk_grown (g := gb411) (o := .cells #[.string t407, .int .i64 (wrap64 (t412)), .int .i64 0, .string (⟨#[]⟩ : ByteArray)] 61 (0, 0)) (by refine pk ?_; refine blk_put (cs := #[.string t407, .int .i64 0, .int .i64 0, .string (⟨#[]⟩ : ByteArray)]) ?_ 1 _ rfl; exact pk BK411.out) hg (Kd.R_away HO_368002.out (fun _ hk => hk.2))); replace BK362 := Aside0.mk (blk_grown (g := gb362) (o := .cells #[.string t413, .int .i64 t414, .bool t415] 82 (0, 0)) (by refine pk ?_; refine blk_far ?_ NB362_411.out _; exact pk BK362.out) hg (Kd.R_ne HO_368002.out BK362.out (by decide))); replace HB := Aside0.mk (hb); have HO443 := Aside0.mk (ho); clear HO_368002; clear ho hb hg hat; obtain ⟨Ao155, co155, eo155⟩ := Kd.R_slice HO443.out; subst eo155; obtain ⟨hcz156_0, hcz156_1, hcz156_2, hfz156_0, hfz156_1, hfz156_2⟩ := cz3 BK367.out))
               go_roundg kj69
               case measure => have := HK1.out; have := HJ11.out; have := HK3.out; have := HJ69.out; omega
               case rel => exact ⟨(wrap64 (x12_3 + 1)), (t413), (t414), (t415), (y441), (.slice Ao155 y441.length co155), hsr, H', ⟨by have := HK1.out; have := HJ11.out; have := HK3.out; have := HJ69.out; omega⟩, ⟨by (with_reducible repeat (first | apply Kd.S_alloc | apply Kd.S_drewN | apply Kd.S_drew)); exact Kd.S_mono (Kd.S_far (p := ⟨gb367, 2, none⟩) (Kd.S_types HO_368001.out BK367.out (by decide)) (fun _ hk => hk.2) (.slice Ao155 y441.length co155)) (fun _ hk => trivial)⟩, ⟨by (with_reducible repeat (first | apply Kd.R_alloc | apply Kd.R_drewN | apply Kd.R_drew)); exact Kd.R_mono (Kd.R_far (p := ⟨gb367, 2, none⟩) (Kd.R_types HO443.out BK367.out (by decide)) (fun _ hk => hk.2) (.slice Ao155 y441.length co155)) (fun _ hk => trivial)⟩, ⟨by refine pk ?_; refine blk_far ?_ NB361_367.out _; exact pk BK361.out⟩, ⟨by refine pk ?_; refine blk_put (cs := #[.int .i64 (wrap64 (t363)), u368001, u368002]) ?_ 2 _ rfl; exact pk BK367.out⟩, ⟨by refine pk ?_; refine blk_far ?_ NB362_367.out _; exact pk BK362.out⟩, ⟨bl HB.out⟩⟩
              ·rw [if_neg c141] at H
               exact absurd H (by simp)
          ·replace c75 := Bool.eq_false_iff.mpr c75
           subst c75
           have H1 : (if x363002_3 = true then (some (0, ([] : List (S59)), ([] : List (S61)), 0, 52)) else ((lodestarref05_May.f kj69 (wrap64 (t363)) x368001_1 x368002_3).bind fun t402 => (if t402 = true then (some ((wrap64 (t363)), x368001_1, x368002_3, x363001_3, 0)) else (some (0, ([] : List (S59)), ([] : List (S61)), 0, 52))))) = some (r1, r2, r3, r4, r5) := by rw [if_neg (show ¬ (false = true) by decide)] at H; exact H
           clear H
           have H := H1
           clear H1
           by_cases c157 : x363002_3 = true
           ·subst c157
            have H1 : (some (0, ([] : List (S59)), ([] : List (S61)), 0, 52)) = some (r1, r2, r3, r4, r5) := by rw [if_pos rfl] at H; exact H
            clear H
            have H := H1
            clear H1
            simp only [Option.some.injEq, Prod.mk.injEq] at H
            obtain ⟨rfl, rfl, rfl, rfl, rfl⟩ := H
            have hnb158 := NB362_361.out
            have hnc158 := NB361_362.out
            have hnb159 := NB362_367.out
            have hnc159 := NB367_362.out
            obtain ⟨hcz160_0, hcz160_1, hcz160_2, hfz160_0, hfz160_1, hfz160_2⟩ := cz3 BK362.out
            have hnb161 := NB361_367.out
            have hnc161 := NB367_361.out
            obtain ⟨hcz162_0, hcz162_1, hcz162_2, hfz162_0, hfz162_1, hfz162_2⟩ := cz3 BK361.out
            go_wp2
            refine bodyPost_ret (results_ctt rfl _ _ gb361 25 #[.int .i64 0, .slice none 0 0, .slice none 0 0] (0, 0) _ rfl (by refine pk ?_; refine blk_put (cs := #[.int .i64 0, .slice none 0 0, .slice none 0 0]) ?_ 2 _ rfl; refine pk ?_; refine blk_put (cs := #[.int .i64 0, .slice none 0 0, .slice none 0 0]) ?_ 1 _ rfl; refine pk ?_; refine blk_put (cs := #[.int .i64 0, .slice none 0 0, .slice none 0 0]) ?_ 0 _ rfl; exact pk BK361.out) Tryd.underlying25 rfl kr) rfl ?_
            exact ⟨_, _, er0, by first | exact Kd.S_nil _ _ _ _ _ | exact Kd.N_nil _ _ _ _ _ | exact Kd.V_nil _ _ _ _ _ | exact Kd.Q_nil _ _ _ _ _ | exact Kd.R_nil _ _ _ _ _, by first | exact Kd.R_nil _ _ _ _ _ | exact Kd.N_nil _ _ _ _ _ | exact Kd.V_nil _ _ _ _ _ | exact Kd.Q_nil _ _ _ _ _ | exact Kd.S_nil _ _ _ _ _, bl HB.out⟩
           ·replace c157 := Bool.eq_false_iff.mpr c157
            subst c157
            have H1 : ((lodestarref05_May.f kj69 (wrap64 (t363)) x368001_1 x368002_3).bind fun t402 => (if t402 = true then (some ((wrap64 (t363)), x368001_1, x368002_3, x363001_3, 0)) else (some (0, ([] : List (S59)), ([] : List (S61)), 0, 52)))) = some (r1, r2, r3, r4, r5) := by rw [if_neg (show ¬ (false = true) by decide)] at H; exact H
            clear H
            have H := H1
            clear H1
            replace H := Option.bind_eq_some_iff.mp H
            obtain ⟨t402, A1630, H⟩ := H
            replace H : (if t402 = true then (some ((wrap64 (t363)), x368001_1, x368002_3, x363001_3, 0)) else (some (0, ([] : List (S59)), ([] : List (S61)), 0, 52))) = some (r1, r2, r3, r4, r5) := H
            have A163 := Aside0.mk A1630
            clear A1630
            by_cases c164 : t402 = true
            ·subst c164
             have H1 : (some ((wrap64 (t363)), x368001_1, x368002_3, x363001_3, 0)) = some (r1, r2, r3, r4, r5) := by rw [if_pos rfl] at H; exact H
             clear H
             have H := H1
             clear H1
             simp only [Option.some.injEq, Prod.mk.injEq] at H
             obtain ⟨rfl, rfl, rfl, rfl, rfl⟩ := H
             have hnb165 := NB362_361.out
             have hnc165 := NB361_362.out
             have hnb166 := NB362_367.out
             have hnc166 := NB367_362.out
             obtain ⟨hcz167_0, hcz167_1, hcz167_2, hfz167_0, hfz167_1, hfz167_2⟩ := cz3 BK362.out
             have hnb168 := NB367_361.out
             have hnc168 := NB361_367.out
             obtain ⟨hcz169_0, hcz169_1, hcz169_2, hfz169_0, hfz169_1, hfz169_2⟩ := cz3 BK367.out
             obtain ⟨Ao170, co170, eo170⟩ := Kd.S_slice HO_368001.out
             subst eo170
             obtain ⟨Ao171, co171, eo171⟩ := Kd.R_slice HO_368002.out
             subst eo171
             try go_wp2_with (first | (go_at_call 21; (with_reducible refine (lodestarref05_May.calls kj69 (wrap64 (t363)) _ _ x368001_1 _ _ x368002_3 true _ ?side1 ?side2 ?side3 ?side4 A163.out).mono ?_); (case side1 => repeat (first | exact (Kd.S_reads' HO_368001.out).2.2 | (with_reducible refine Kd.C_alloc ?_ _) | (with_reducible refine Kd.C_drewN ?_ _) | (with_reducible refine Kd.C_drew ?_))); (case side2 => exact (Kd.S_reads' HO_368001.out).2.1); (case side3 => repeat (first | exact (Kd.R_reads' HO_368002.out).2.2 | (with_reducible refine Kd.C_alloc ?_ _) | (with_reducible refine Kd.C_drewN ?_ _) | (with_reducible refine Kd.C_drew ?_))); (case side4 => exact (Kd.R_reads' HO_368002.out).2.1); rintro e w172 ⟨rfl, hb⟩; replace HO_368001 := Aside0.mk (Kd.S_below (pS HO_368001.out) hb); replace HO_368002 := Aside0.mk (Kd.R_below (pR HO_368002.out) hb); replace BK361 := Aside0.mk (blk_below (pk BK361.out) hb); replace BK367 := Aside0.mk (blk_below (pk BK367.out) hb); replace BK362 := Aside0.mk (blk_below (pk BK362.out) hb); replace HB := Aside0.mk (below_step (bl HB.out) hb); (try clear hb); (try clear hb2); (try clear hk); (try clear hi)))
             replace HO_368001 := Aside0.mk (Kd.S_drew HO_368001.out)
             replace HO_368002 := Aside0.mk (Kd.R_drew HO_368002.out)
             replace BK361 := Aside0.mk (blk_drew BK361.out)
             replace BK367 := Aside0.mk (blk_drew BK367.out)
             replace BK362 := Aside0.mk (blk_drew BK362.out)
             replace HB := Aside0.mk (below_drew1 HB.out)
             refine start_ (n := 8) (S := fun w' => w'.cell? ⟨gb367, 0, none⟩ = some (.int .i64 (wrap64 (t363))) ∧ w'.cell? ⟨gb367, 1, none⟩ = some (.slice Ao170 x368001_1.length co170) ∧ w'.cell? ⟨gb367, 2, none⟩ = some (.slice Ao171 x368002_3.length co171) ∧ w'.cell? ⟨gb362, 0, none⟩ = some (.string x363000_3) ∧ w'.cell? ⟨gb362, 1, none⟩ = some (.int .i64 x363001_3) ∧ w'.cell? ⟨gb362, 2, none⟩ = some (.bool false)) (ds := []) #[false, false, false, false, false, false, false, false] kr rfl rfl ⟨(blk_cell BK367.out 0).trans rfl, (blk_cell BK367.out 1).trans rfl, (blk_cell BK367.out 2).trans rfl, (blk_cell BK362.out 0).trans rfl, (blk_cell BK362.out 1).trans rfl, (blk_cell BK362.out 2).trans rfl⟩ (fun hHeld => ?_); refine with_tabW lodestarref05_Decode.tab30 lodestarref05_Decode.bits30 (fun HT_ HW_ => ?_)
             generalize w172.drew = w173 at HO_368001 HO_368002 BK361 BK367 BK362 HB hHeld ⊢
             refine pure_ (i := 1) (N := some 141) (v := ?_) (a' := ?_) #[false, true, false, false, false, false, false, false] rfl rfl (any_of HT_.out kr) (fun _ _ _ h => h) (Or.inl ⟨by rfl, ?_⟩) ?_ ?_
             rotate_left
             ·exact wl
             rotate_left
             ·exact ap
             refine pure_ (i := 2) (N := some 142) (v := ?_) (a' := ?_) #[false, true, true, false, false, false, false, false] rfl rfl (any_of HT_.out kr) (fun _ _ _ h => h) (Or.inl ⟨by rfl, ?_⟩) ?_ ?_
             rotate_left
             ·exact wl
             rotate_left
             ·exact ap
             refine pure_ (i := 3) (N := some 143) (v := ?_) (a' := ?_) #[false, true, true, true, false, false, false, false] rfl rfl (any_of HT_.out kr) (fun _ _ _ h => h) (Or.inl ⟨by rfl, ?_⟩) ?_ ?_
             rotate_left
             ·exact wl
             rotate_left
             ·exact ap
             refine take_ (i := 0) (N := some 140) (v := ?_) (a' := ?_) #[true, true, true, true, false, false, false, false] rfl rfl (take_ofW HT_.out HW_.out kr) (fun _ _ _ h => h) (Or.inl ⟨by rfl, ?_⟩) hHeld ?_ ?_
             rotate_left
             ·rintro w' ⟨s0, s1, s2, s3, s4, s5⟩
              go_simp
              exact rl
             rotate_left
             ·exact ap
             refine take_ (i := 4) (N := some 144) (v := ?_) (a' := ?_) #[true, true, true, true, true, false, false, false] rfl rfl (take_ofW HT_.out HW_.out kr) (fun _ _ _ h => h) (Or.inl ⟨by rfl, ?_⟩) hHeld ?_ ?_
             rotate_left
             ·rintro w' ⟨s0, s1, s2, s3, s4, s5⟩
              go_simp
              exact rl
             rotate_left
             ·exact ap
             refine one_ (i := 5) (N := none) #[true, true, true, true, true, true, false, false] rfl rfl (one_of HT_.out kr) (by decide) (fun K hK => ?_)
             have hs174 : w173.cell? ⟨gb361, 0, none⟩ = some (.int .i64 0) := (blk_cell BK361.out 0).trans rfl
             have hfs174 := blk_frozen BK361.out 0
             have hns174_1 := NB367_361.out
             have hns174_2 := NB362_361.out
             have hms174_1 := NB361_367.out
             have hms174_2 := NB361_362.out
             have hs175 : w173.cell? ⟨gb361, 1, none⟩ = some (.slice none 0 0) := (blk_cell BK361.out 1).trans rfl
             have hfs175 := blk_frozen BK361.out 1
             have hns175_1 := NB367_361.out
             have hns175_2 := NB362_361.out
             have hms175_1 := NB361_367.out
             have hms175_2 := NB361_362.out
             have hs176 : w173.cell? ⟨gb361, 2, none⟩ = some (.slice none 0 0) := (blk_cell BK361.out 2).trans rfl
             have hfs176 := blk_frozen BK361.out 2
             have hns176_1 := NB367_361.out
             have hns176_2 := NB362_361.out
             have hms176_1 := NB361_367.out
             have hms176_2 := NB361_362.out
             refine skip_ (w1 := ?_) (by rfl) rfl ?_ ?_
             rotate_left
             ·go_simp
              rfl
             refine hK.out _ _ ⟨((cell_far (p := ⟨gb361, _, none⟩) NB367_361.out _).trans (((cell_far (p := ⟨gb361, _, none⟩) NB367_361.out _).trans (((cell_far (p := ⟨gb361, _, none⟩) NB367_361.out _).trans (hHeld.1)))))), ((cell_far (p := ⟨gb361, _, none⟩) NB367_361.out _).trans (((cell_far (p := ⟨gb361, _, none⟩) NB367_361.out _).trans (((cell_far (p := ⟨gb361, _, none⟩) NB367_361.out _).trans (hHeld.2.1)))))), ((cell_far (p := ⟨gb361, _, none⟩) NB367_361.out _).trans (((cell_far (p := ⟨gb361, _, none⟩) NB367_361.out _).trans (((cell_far (p := ⟨gb361, _, none⟩) NB367_361.out _).trans (hHeld.2.2.1)))))), ((cell_far (p := ⟨gb361, _, none⟩) NB362_361.out _).trans (((cell_far (p := ⟨gb361, _, none⟩) NB362_361.out _).trans (((cell_far (p := ⟨gb361, _, none⟩) NB362_361.out _).trans (hHeld.2.2.2.1)))))), ((cell_far (p := ⟨gb361, _, none⟩) NB362_361.out _).trans (((cell_far (p := ⟨gb361, _, none⟩) NB362_361.out _).trans (((cell_far (p := ⟨gb361, _, none⟩) NB362_361.out _).trans (hHeld.2.2.2.2.1)))))), ((cell_far (p := ⟨gb361, _, none⟩) NB362_361.out _).trans (((cell_far (p := ⟨gb361, _, none⟩) NB362_361.out _).trans (((cell_far (p := ⟨gb361, _, none⟩) NB362_361.out _).trans (hHeld.2.2.2.2.2))))))⟩ (fun hHeld => ?_)
             clear hK K
             refine pure_ (i := 6) (N := some 3) (v := ?_) (a' := ?_) #[true, true, true, true, true, true, true, false] rfl rfl (any_of HT_.out kr) (fun _ _ _ h => h) (Or.inl ⟨by rfl, ?_⟩) ?_ ?_
             rotate_left
             ·exact wl
             rotate_left
             ·exact ap
             refine pure_ (i := 7) (N := some 4) (v := ?_) (a' := ?_) #[true, true, true, true, true, true, true, true] rfl rfl (any_of HT_.out kr) (fun _ _ _ h => h) (Or.inl ⟨by rfl, ?_⟩) ?_ ?_
             rotate_left
             ·exact wl
             rotate_left
             ·exact ap
             refine done_ (done_of HT_.out kr) ?_
             try go_wp2
             refine bodyPost_ret (results_ctt rfl _ _ gb361 25 #[.int .i64 (wrap64 (t363)), .slice Ao170 x368001_1.length co170, .slice Ao171 x368002_3.length co171] (0, 0) _ rfl (by refine pk ?_; refine blk_put (cs := #[.int .i64 (wrap64 (t363)), .slice Ao170 x368001_1.length co170, .slice none 0 0]) ?_ 2 _ rfl; refine pk ?_; refine blk_put (cs := #[.int .i64 (wrap64 (t363)), .slice none 0 0, .slice none 0 0]) ?_ 1 _ rfl; refine pk ?_; refine blk_put (cs := #[.int .i64 0, .slice none 0 0, .slice none 0 0]) ?_ 0 _ rfl; exact pk BK361.out) Tryd.underlying25 rfl kr) rfl ?_
             exact ⟨_, _, er0, by (with_reducible repeat (first | apply Kd.S_alloc | apply Kd.S_drewN | apply Kd.S_drew)); exact Kd.S_mono (Kd.S_far (p := ⟨gb361, 2, none⟩) (Kd.S_far (p := ⟨gb361, 1, none⟩) (Kd.S_far (p := ⟨gb361, 0, none⟩) (Kd.S_types HO_368001.out BK361.out (by decide)) (fun _ hk => hk.2) (.int .i64 (wrap64 (t363)))) (fun _ hk => hk.2) (.slice Ao170 x368001_1.length co170)) (fun _ hk => hk.2) (.slice Ao171 x368002_3.length co171)) (fun _ hk => trivial), by (with_reducible repeat (first | apply Kd.R_alloc | apply Kd.R_drewN | apply Kd.R_drew)); exact Kd.R_mono (Kd.R_far (p := ⟨gb361, 2, none⟩) (Kd.R_far (p := ⟨gb361, 1, none⟩) (Kd.R_far (p := ⟨gb361, 0, none⟩) (Kd.R_types HO_368002.out BK361.out (by decide)) (fun _ hk => hk.2) (.int .i64 (wrap64 (t363)))) (fun _ hk => hk.2) (.slice Ao170 x368001_1.length co170)) (fun _ hk => hk.2) (.slice Ao171 x368002_3.length co171)) (fun _ hk => trivial), bl HB.out⟩
            ·replace c164 := Bool.eq_false_iff.mpr c164
             subst c164
             have H1 : (some (0, ([] : List (S59)), ([] : List (S61)), 0, 52)) = some (r1, r2, r3, r4, r5) := by rw [if_neg (show ¬ (false = true) by decide)] at H; exact H
             clear H
             have H := H1
             clear H1
             simp only [Option.some.injEq, Prod.mk.injEq] at H
             obtain ⟨rfl, rfl, rfl, rfl, rfl⟩ := H
             have hnb177 := NB362_361.out
             have hnc177 := NB361_362.out
             have hnb178 := NB362_367.out
             have hnc178 := NB367_362.out
             obtain ⟨hcz179_0, hcz179_1, hcz179_2, hfz179_0, hfz179_1, hfz179_2⟩ := cz3 BK362.out
             have hnb180 := NB367_361.out
             have hnc180 := NB361_367.out
             obtain ⟨hcz181_0, hcz181_1, hcz181_2, hfz181_0, hfz181_1, hfz181_2⟩ := cz3 BK367.out
             obtain ⟨Ao182, co182, eo182⟩ := Kd.S_slice HO_368001.out
             subst eo182
             obtain ⟨Ao183, co183, eo183⟩ := Kd.R_slice HO_368002.out
             subst eo183
             go_wp2_with (first | (go_at_call 21; (with_reducible refine (lodestarref05_May.calls kj69 (wrap64 (t363)) _ _ x368001_1 _ _ x368002_3 false _ ?side1 ?side2 ?side3 ?side4 A163.out).mono ?_); (case side1 => repeat (first | exact (Kd.S_reads' HO_368001.out).2.2 | (with_reducible refine Kd.C_alloc ?_ _) | (with_reducible refine Kd.C_drewN ?_ _) | (with_reducible refine Kd.C_drew ?_))); (case side2 => exact (Kd.S_reads' HO_368001.out).2.1); (case side3 => repeat (first | exact (Kd.R_reads' HO_368002.out).2.2 | (with_reducible refine Kd.C_alloc ?_ _) | (with_reducible refine Kd.C_drewN ?_ _) | (with_reducible refine Kd.C_drew ?_))); (case side4 => exact (Kd.R_reads' HO_368002.out).2.1); rintro e w184 ⟨rfl, hb⟩; replace HO_368001 := Aside0.mk (Kd.S_below (pS HO_368001.out) hb); replace HO_368002 := Aside0.mk (Kd.R_below (pR HO_368002.out) hb); replace BK361 := Aside0.mk (blk_below (pk BK361.out) hb); replace BK367 := Aside0.mk (blk_below (pk BK367.out) hb); replace BK362 := Aside0.mk (blk_below (pk BK362.out) hb); replace HB := Aside0.mk (below_step (bl HB.out) hb); (try clear hb); (try clear hb2); (try clear hk); (try clear hi); obtain ⟨hcz185_0, hcz185_1, hcz185_2, hfz185_0, hfz185_1, hfz185_2⟩ := cz3 BK361.out))
             refine bodyPost_ret (results_ctt rfl _ _ gb361 25 #[.int .i64 0, .slice none 0 0, .slice none 0 0] (0, 0) _ rfl (by refine pk ?_; refine blk_put (cs := #[.int .i64 0, .slice none 0 0, .slice none 0 0]) ?_ 2 _ rfl; refine pk ?_; refine blk_put (cs := #[.int .i64 0, .slice none 0 0, .slice none 0 0]) ?_ 1 _ rfl; refine pk ?_; refine blk_put (cs := #[.int .i64 0, .slice none 0 0, .slice none 0 0]) ?_ 0 _ rfl; exact pk BK361.out) Tryd.underlying25 rfl kr) rfl ?_
             exact ⟨_, _, er0, by first | exact Kd.S_nil _ _ _ _ _ | exact Kd.N_nil _ _ _ _ _ | exact Kd.V_nil _ _ _ _ _ | exact Kd.Q_nil _ _ _ _ _ | exact Kd.R_nil _ _ _ _ _, by first | exact Kd.R_nil _ _ _ _ _ | exact Kd.N_nil _ _ _ _ _ | exact Kd.V_nil _ _ _ _ _ | exact Kd.Q_nil _ _ _ _ _ | exact Kd.S_nil _ _ _ _ _, bl HB.out⟩

end Go.Proofs.YtbeljekpknpadaaDoor.PPayV
