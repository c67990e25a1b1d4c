-- Written by a program of this session on top of the print: some functions by hand.
import Derived.Test.YtbeljekpknpadaaDoorPPayVx0
import Derived.Test.YtbeljekpknpadaaDoorPPayVx4
import Derived.Test.YtbeljekpknpadaaDoorPPayVx5
import Derived.Test.YtbeljekpknpadaaDoorPPayVx12
namespace Go.Proofs.YtbeljekpknpadaaDoor.PPayV
open Go.RowKit Go.Proofs.YtbeljekpknpadaaDoorW.PrintWords Go.Proofs.YtbeljekpknpadaaDoorW.PrintLast Go.Proofs.YtbeljekpknpadaaDoorW.PrintMore
attribute [local go_sem] max2_int min2_int max_two min_two max_three min_three max_four min_four   -- for this text's walks alone
set_option linter.unusedVariables false
set_option linter.unusedSimpArgs false

/-! ### payload_Decode: function 19 -/
mutual
def payload_Decode.l0 : Nat → Int → ByteArray → Int → Bool → Int → List (S59) → Option (Int × (List (S59)) × (List (S61)) × Int × Int)
 | 0, _, _, _, _, _, _ => none
 | k + 1, x7, x287000, x287001, x287002, x292000, x292001 => if x7 > 0 then (payload_Decode.j1 k x7 (!x287002) x287000 x287001 x287002 x292000 x292001) else (payload_Decode.j1 k x7 false x287000 x287001 x287002 x292000 x292001)
def payload_Decode.j1 : Nat → Int → Bool → ByteArray → Int → Bool → Int → List (S59) → Option (Int × (List (S59)) × (List (S61)) × Int × Int)
 | 0, _, _, _, _, _, _, _ => none
 | k + 1, x7, x28, x287000, x287001, x287002, x292000, x292001 => if x28 = true then ((payload_taker_number.f k x287000 x287001 x287002 1).bind fun bt296 => ((payload_taker_text.f bt296.2.1 bt296.2.2.1 bt296.2.2.2 bt296.1).bind fun bt300 => ((payload_taker_number.f k bt300.2.1 bt300.2.2.1 bt300.2.2.2 1).bind fun bt305 => (payload_Decode.l1 k x7 bt305.1 bt305.2.1 bt305.2.2.1 bt305.2.2.2 x292000 x292001 bt300.1 ([] : List Int))))) else ((payload_taker_number.f k x287000 x287001 x287002 1).bind fun bt322 => (payload_Decode.l2 k bt322.1 bt322.2.1 bt322.2.2.1 bt322.2.2.2 x292000 x292001 ([] : List (S61))))
def payload_Decode.l1 : Nat → Int → Int → ByteArray → Int → Bool → Int → List (S59) → ByteArray → List Int → Option (Int × (List (S59)) × (List (S61)) × Int × Int)
 | 0, _, _, _, _, _, _, _, _, _ => none
 | k + 1, x7, x9, x287000, x287001, x287002, x292000, x292001, x305000, x305001 => if x9 > 0 then (if x287002 = true then (if x292001.length < 3518437208883 then (payload_Decode.l0 k (wrap64 (x7 - 1)) x287000 x287001 x287002 x292000 (x292001 ++ [(⟨x305000, x305001⟩ : S59)])) else (none)) else ((payload_taker_number.f k x287000 x287001 x287002 2).bind fun bt312 => (if x305001.length < 17592186044416 then (payload_Decode.l1 k x7 (wrap64 (x9 - 1)) bt312.2.1 bt312.2.2.1 bt312.2.2.2 x292000 x292001 x305000 (x305001 ++ [wrap64 (bt312.1 - 32768)])) else (none)))) else (if x292001.length < 3518437208883 then (payload_Decode.l0 k (wrap64 (x7 - 1)) x287000 x287001 x287002 x292000 (x292001 ++ [(⟨x305000, x305001⟩ : S59)])) else (none))
def payload_Decode.l2 : Nat → Int → ByteArray → Int → Bool → Int → List (S59) → List (S61) → Option (Int × (List (S59)) × (List (S61)) × Int × Int)
 | 0, _, _, _, _, _, _, _ => none
 | k + 1, x10, x287000, x287001, x287002, x292000, x292001, x292002 => if x10 > 0 then (payload_Decode.j4 k x10 (!x287002) x287000 x287001 x287002 x292000 x292001 x292002) else (payload_Decode.j4 k x10 false x287000 x287001 x287002 x292000 x292001 x292002)
def payload_Decode.j4 : Nat → Int → Bool → ByteArray → Int → Bool → Int → List (S59) → List (S61) → Option (Int × (List (S59)) × (List (S61)) × Int × Int)
 | 0, _, _, _, _, _, _, _, _ => none
 | k + 1, x10, x73, x287000, x287001, x287002, x292000, x292001, x292002 => if x73 = true then ((payload_taker_number.f k x287000 x287001 x287002 1).bind fun bt327 => ((payload_taker_text.f bt327.2.1 bt327.2.2.1 bt327.2.2.2 bt327.1).bind fun bt331 => ((payload_taker_number.f k bt331.2.1 bt331.2.2.1 bt331.2.2.2 1).bind fun bt336 => (if bt336.1 < 1 then (payload_Decode.j5 k x10 true bt336.2.1 bt336.2.2.1 bt336.2.2.2 x292000 x292001 x292002 bt331.1 bt336.1 0 (⟨#[]⟩ : ByteArray)) else (payload_Decode.j5 k x10 (decide (bt336.1 > 3)) bt336.2.1 bt336.2.2.1 bt336.2.2.2 x292000 x292001 x292002 bt331.1 bt336.1 0 (⟨#[]⟩ : ByteArray)))))) else (if x287002 = true then (some (0, ([] : List (S59)), ([] : List (S61)), 0, 52)) else ((payload_may.f k x292000 x292001 x292002).bind fun t326 => (if t326 = true then (some (x292000, x292001, x292002, x287001, 0)) else (some (0, ([] : List (S59)), ([] : List (S61)), 0, 52)))))
def payload_Decode.j5 : Nat → Int → Bool → ByteArray → Int → Bool → Int → List (S59) → List (S61) → ByteArray → Int → Int → ByteArray → Option (Int × (List (S59)) × (List (S61)) × Int × Int)
 | 0, _, _, _, _, _, _, _, _, _, _, _, _ => none
 | k + 1, x10, x94, x287000, x287001, x287002, x292000, x292001, x292002, x336000, x336001, x336002, x336003 => if x94 = true then (some (0, ([] : List (S59)), ([] : List (S61)), 0, 52)) else ((payload_width.f x336001).bind fun t340 => ((payload_taker_number.f k x287000 x287001 x287002 t340).bind fun bt341 => (if x336001 = 2 then ((payload_taker_text.f bt341.2.1 bt341.2.2.1 bt341.2.2.2 bt341.1).bind fun bt345 => (if x292002.length < 2932031007402 then (payload_Decode.l2 k (wrap64 (x10 - 1)) bt345.2.1 bt345.2.2.1 bt345.2.2.2 x292000 x292001 (x292002 ++ [(⟨x336000, (⟨x336001, 0, bt345.1⟩ : S33)⟩ : S61)])) else (none))) else (if x292002.length < 2932031007402 then (payload_Decode.l2 k (wrap64 (x10 - 1)) bt341.2.1 bt341.2.2.1 bt341.2.2.2 x292000 x292001 (x292002 ++ [(⟨x336000, (⟨x336001, bt341.1, x336003⟩ : S33)⟩ : S61)])) else (none)))))
end
def payload_Decode.f (k : Nat) (a0 : ByteArray) : Option (Int × (List (S59)) × (List (S61)) × Int × Int) := (payload_taker_number.f k a0 0 false 8).bind fun bt287 => ((payload_taker_number.f k bt287.2.1 bt287.2.2.1 bt287.2.2.2 1).bind fun bt292 => (payload_Decode.l0 k bt292.1 bt292.2.1 bt292.2.2.1 bt292.2.2.2 bt287.1 ([] : List (S59))))
theorem payload_Decode.mono_l : ∀ k, (∀ y0 y1 y2 y3 y4 y5, LeO (payload_Decode.l0 k y0 y1 y2 y3 y4 y5) (payload_Decode.l0 (k + 1) y0 y1 y2 y3 y4 y5)) ∧ (∀ y0 y1 y2 y3 y4 y5 y6, LeO (payload_Decode.j1 k y0 y1 y2 y3 y4 y5 y6) (payload_Decode.j1 (k + 1) y0 y1 y2 y3 y4 y5 y6)) ∧ (∀ y0 y1 y2 y3 y4 y5 y6 y7 y8, LeO (payload_Decode.l1 k y0 y1 y2 y3 y4 y5 y6 y7 y8) (payload_Decode.l1 (k + 1) y0 y1 y2 y3 y4 y5 y6 y7 y8)) ∧ (∀ y0 y1 y2 y3 y4 y5 y6, LeO (payload_Decode.l2 k y0 y1 y2 y3 y4 y5 y6) (payload_Decode.l2 (k + 1) y0 y1 y2 y3 y4 y5 y6)) ∧ (∀ y0 y1 y2 y3 y4 y5 y6 y7, LeO (payload_Decode.j4 k y0 y1 y2 y3 y4 y5 y6 y7) (payload_Decode.j4 (k + 1) y0 y1 y2 y3 y4 y5 y6 y7)) ∧ (∀ y0 y1 y2 y3 y4 y5 y6 y7 y8 y9 y10 y11, LeO (payload_Decode.j5 k y0 y1 y2 y3 y4 y5 y6 y7 y8 y9 y10 y11) (payload_Decode.j5 (k + 1) y0 y1 y2 y3 y4 y5 y6 y7 y8 y9 y10 y11))
 | 0 => ⟨fun _ _ _ _ _ _ r h => by simp [payload_Decode.l0] at h, fun _ _ _ _ _ _ _ r h => by simp [payload_Decode.j1] at h, fun _ _ _ _ _ _ _ _ _ r h => by simp [payload_Decode.l1] at h, fun _ _ _ _ _ _ _ r h => by simp [payload_Decode.l2] at h, fun _ _ _ _ _ _ _ _ r h => by simp [payload_Decode.j4] at h, fun _ _ _ _ _ _ _ _ _ _ _ _ r h => by simp [payload_Decode.j5] at h⟩
 | k + 1 => by
  obtain ⟨ih0, ih1, ih2, ih3, ih4, ih5⟩ := payload_Decode.mono_l k
  refine ⟨?_, ?_, ?_, ?_, ?_, ?_⟩
  all_goals intros
  all_goals first | unfold payload_Decode.l0 | unfold payload_Decode.j1 | unfold payload_Decode.l1 | unfold payload_Decode.l2 | unfold payload_Decode.j4 | unfold payload_Decode.j5
  all_goals repeat' first
   | (with_reducible exact ih0 _ _ _ _ _ _)
   | (with_reducible exact ih1 _ _ _ _ _ _ _)
   | (with_reducible exact ih2 _ _ _ _ _ _ _ _ _)
   | (with_reducible exact ih3 _ _ _ _ _ _ _)
   | (with_reducible exact ih4 _ _ _ _ _ _ _ _)
   | (with_reducible exact ih5 _ _ _ _ _ _ _ _ _ _ _ _)
   | (with_reducible exact payload_may.mono _ _ _ _)
   | (with_reducible exact payload_taker_number.mono _ _ _ _ _)
   | (with_reducible exact LeO.refl _)
   | (with_reducible exact LeO.none _)
   | (with_reducible refine LeO.ite ?_ ?_)
   | (with_reducible refine LeO.bind ?_ (fun _ => ?_))
   | exact ih0 _ _ _ _ _ _
   | exact ih1 _ _ _ _ _ _ _
   | exact ih2 _ _ _ _ _ _ _ _ _
   | exact ih3 _ _ _ _ _ _ _
   | exact ih4 _ _ _ _ _ _ _ _
   | exact ih5 _ _ _ _ _ _ _ _ _ _ _ _
   | exact payload_may.mono _ _ _ _
   | exact payload_taker_number.mono _ _ _ _ _
   | exact LeO.none _
   | refine LeO.ite ?_ ?_
   | refine LeO.bind ?_ (fun _ => ?_)
theorem payload_Decode.mono : ∀ a0 k, LeO (payload_Decode.f k a0) (payload_Decode.f (k + 1) a0) := by
 intro a0 k
 obtain ⟨ih0, ih1, ih2, ih3, ih4, ih5⟩ := payload_Decode.mono_l k
 unfold payload_Decode.f
 repeat' first
   | (with_reducible exact ih0 _ _ _ _ _ _)
   | (with_reducible exact ih1 _ _ _ _ _ _ _)
   | (with_reducible exact ih2 _ _ _ _ _ _ _ _ _)
   | (with_reducible exact ih3 _ _ _ _ _ _ _)
   | (with_reducible exact ih4 _ _ _ _ _ _ _ _)
   | (with_reducible exact ih5 _ _ _ _ _ _ _ _ _ _ _ _)
   | (with_reducible exact payload_may.mono _ _ _ _)
   | (with_reducible exact payload_taker_number.mono _ _ _ _ _)
   | (with_reducible exact LeO.refl _)
   | (with_reducible exact LeO.none _)
   | (with_reducible refine LeO.ite ?_ ?_)
   | (with_reducible refine LeO.bind ?_ (fun _ => ?_))
   | exact ih0 _ _ _ _ _ _
   | exact ih1 _ _ _ _ _ _ _
   | exact ih2 _ _ _ _ _ _ _ _ _
   | exact ih3 _ _ _ _ _ _ _
   | exact ih4 _ _ _ _ _ _ _ _
   | exact ih5 _ _ _ _ _ _ _ _ _ _ _ _
   | exact payload_may.mono _ _ _ _
   | exact payload_taker_number.mono _ _ _ _ _
   | exact LeO.none _
   | refine LeO.ite ?_ ?_
   | refine LeO.bind ?_ (fun _ => ?_)
def payload_Decode.T10 : Bool × List (List Nat × List Nat) := (true, [([], []), ([0], [0]), ([], []), ([2], [2]), ([3], [3]), ([4], [4]), ([1, 5, 3], [1, 5]), ([0, 1, 2, 3, 4, 5, 6], []), ([7, 6, 6, 0, 1, 2, 3, 4, 5, 6], [6, 7])])
def payload_Decode.B10 : List Nat := [0, 1, 0, 4, 12, 28, 63, 127, 255]
theorem payload_Decode.tab10 : rtab .any (opsOf Tryd.f19 10) = payload_Decode.T10 := by kernel_rfl
theorem payload_Decode.bits10 : waitsOk payload_Decode.T10.2 payload_Decode.B10 = true := by kernel_rfl
def payload_Decode.T25 : Bool × List (List Nat × List Nat) := (true, [([], []), ([], []), ([1], [1]), ([2], [2]), ([3], [3]), ([0, 0], [0]), ([4, 5, 0, 1, 2, 3, 4, 5], [4]), ([6, 0, 1, 2, 3, 4, 5, 6], [])])
def payload_Decode.B25 : List Nat := [0, 0, 2, 6, 14, 1, 63, 127]
theorem payload_Decode.tab25 : rtab .any (opsOf Tryd.f19 25) = payload_Decode.T25 := by kernel_rfl
theorem payload_Decode.bits25 : waitsOk payload_Decode.T25.2 payload_Decode.B25 = true := by kernel_rfl
set_option maxHeartbeats 8000000 in
set_option maxRecDepth 100000 in
theorem payload_Decode.calls (k : Nat) (a0 : ByteArray) (r1 : Int) (r2 : List (S59)) (r3 : List (S61)) (r4 : Int) (r5 : Int) (w : World) (hU : LaidU w) (h : payload_Decode.f k a0 = some (r1, r2, r3, r4, r5)) :
  Calls Tryd.prog 19 #[.string a0] w fun e w' => ∃ v1_ v2_ : Value, e = .returned (.tuple #[.agg #[.int .i64 r1, v1_, v2_], .int .i64 r4, .int .i64 r5]) ∧ Kd.S k59 59 w' w.heap.size (fun _ => True) v1_ r2 ∧ Kd.R k61 61 w' w.heap.size (fun _ => True) v2_ r3 ∧ Below w.heap.size w w' := by
 have hu25 := Tryd.underlying25
 have hu78 := Tryd.underlying78
 have hu59 := Tryd.underlying59
 have hu61 := Tryd.underlying61
 have HU := Aside0.mk hU
 clear hU
 have HB := Aside0.mk (Below.refl w.heap.size w)
 have H : ((payload_taker_number.f k a0 0 false 8).bind fun bt287 => ((payload_taker_number.f k bt287.2.1 bt287.2.2.1 bt287.2.2.2 1).bind fun bt292 => (payload_Decode.l0 k bt292.1 bt292.2.1 bt292.2.2.1 bt292.2.2.2 bt287.1 ([] : List (S59))))) = some (r1, r2, r3, r4, r5) := h
 clear h
 replace H := Option.bind_eq_some_iff.mp H
 obtain ⟨⟨t287, t288, t289, t290⟩, A20, H⟩ := H
 replace H : ((payload_taker_number.f k t288 t289 t290 1).bind fun bt292 => (payload_Decode.l0 k bt292.1 bt292.2.1 bt292.2.2.1 bt292.2.2.2 t287 ([] : List (S59)))) = some (r1, r2, r3, r4, r5) := H
 have A2 := Aside0.mk A20
 clear A20
 replace H := Option.bind_eq_some_iff.mp H
 obtain ⟨⟨t292, t293, t294, t295⟩, A30, H⟩ := H
 replace H : (payload_Decode.l0 k t292 t293 t294 t295 t287 ([] : List (S59))) = some (r1, r2, r3, r4, r5) := H
 have A3 := Aside0.mk A30
 clear A30
 have H' := Aside0.mk H
 clear H
 go_enter Tryd.func19, Tryd.ntmps19
 go_wp2_with (first | ((with_reducible refine gate_dst (N := 2) rfl ?_); refine box_event ?hg (N := 2) ?hd (cs := #[.int .i64 0, .slice none 0 0, .slice none 0 0]) (t := 25) ?hr ?_; (case hd => rfl); (case hg => rfl); (case hr => first | (go_simp; done) | (go_simp; rfl)); intro gb285 hg w4 hbox hb; have BK285 := Aside0.mk (hbox); have GW285 := Aside0.mk (gs (w := w) hg (bl HB.out)); have GE285 := Aside0.mk (gs (w := w) hg (bl HB.out)); replace HB := Aside0.mk (below_step (bl HB.out) hb); clear hb hbox hg) | ((with_reducible refine gate_dst (N := 14) rfl ?_); refine box_event ?hg (N := 14) ?hd (cs := #[.string a0, .int .i64 0, .bool false]) (t := 78) ?hr ?_; (case hd => rfl); (case hg => rfl); (case hr => first | (go_simp; done) | (go_simp; rfl)); intro gb286 hg w5 hbox hb; have BK286 := Aside0.mk (hbox); have GW286 := Aside0.mk (gs (w := w) hg (bl HB.out)); have GE286 := Aside0.mk (gs (w := w) hg (bl HB.out)); replace HB := Aside0.mk (below_step (bl HB.out) hb); have NB285_286 := Aside0.mk ((gl (g := gb285) hg (pk BK285.out))); have NB286_285 := Aside0.mk ((gm (g := gb285) hg (pk BK285.out))); replace BK285 := Aside0.mk (blk_below (pk BK285.out) hb); clear hb hbox hg) | ((with_reducible refine gate_callee (f := 39) rfl ?_); refine goesL_ (some 16) rfl rfl Tryd.func39 kr rfl #[.pointer (some ⟨gb286, 0, none⟩), .int .i64 8] rfl ga ?_; (with_reducible refine (payload_taker_number.calls k gb286 a0 0 false 8 t287 t288 t289 t290 w _ ?side1 ?side2 A2.out).mono ?_); (case side1 => exact ⟨pk BK286.out, GE286.out⟩); (case side2 => exact bl HB.out); rintro e w6 ⟨rfl, hi, hb, hk⟩; refine ⟨_, rfl, ?_⟩; replace BK285 := Aside0.mk (KeepBut.blk hk (g' := gb285) (o := .cells #[.int .i64 0, .slice none 0 0, .slice none 0 0] 25 (0, 0)) (pk BK285.out) NB285_286.out (by simp)); replace HB := Aside0.mk (hb); replace BK286 := Aside0.mk (hi.1); (try clear hb); (try clear hb2); (try clear hk); (try clear hi)) | ((with_reducible refine gate_dst (N := 6) rfl ?_); refine box_event ?hg (N := 6) ?hd (cs := #[.int .i64 0, .slice none 0 0, .slice none 0 0]) (t := 25) ?hr ?_; (case hd => rfl); (case hg => rfl); (case hr => first | (go_simp; done) | (go_simp; rfl)); intro gb291 hg w7 hbox hb; have BK291 := Aside0.mk (hbox); have GW291 := Aside0.mk (gs (w := w) hg (bl HB.out)); have GE291 := Aside0.mk (gs (w := w) hg (bl HB.out)); replace HB := Aside0.mk (below_step (bl HB.out) hb); have NB285_291 := Aside0.mk ((gl (g := gb285) hg (pk BK285.out))); have NB291_285 := Aside0.mk ((gm (g := gb285) hg (pk BK285.out))); replace BK285 := Aside0.mk (blk_below (pk BK285.out) hb); have NB286_291 := Aside0.mk ((gl (g := gb286) hg (pk BK286.out))); have NB291_286 := Aside0.mk ((gm (g := gb286) hg (pk BK286.out))); replace BK286 := Aside0.mk (blk_below (pk BK286.out) hb); clear hb hbox hg; have hnb8 := NB291_285.out; have hnc8 := NB285_291.out; have hnb9 := NB291_286.out; have hnc9 := NB286_291.out; obtain ⟨hcz10_0, hcz10_1, hcz10_2, hfz10_0, hfz10_1, hfz10_2⟩ := cz3 BK291.out) | ((with_reducible refine gate_callee (f := 39) rfl ?_); refine goesL_ (some 19) rfl rfl Tryd.func39 kr rfl #[.pointer (some ⟨gb286, 0, none⟩), .int .i64 1] rfl ga ?_; (with_reducible refine (payload_taker_number.calls k gb286 t288 t289 t290 1 t292 t293 t294 t295 w _ ?side1 ?side2 A3.out).mono ?_); (case side1 => exact ⟨by refine pk ?_; refine blk_far ?_ NB286_291.out _; refine pk ?_; refine blk_far ?_ NB286_291.out _; refine pk ?_; refine blk_far ?_ NB286_291.out _; exact pk BK286.out, GE286.out⟩); (case side2 => exact bl HB.out); rintro e w11 ⟨rfl, hi, hb, hk⟩; refine ⟨_, rfl, ?_⟩; replace BK285 := Aside0.mk (KeepBut.blk hk (g' := gb285) (o := .cells #[.int .i64 0, .slice none 0 0, .slice none 0 0] 25 (0, 0)) (by refine pk ?_; refine blk_far ?_ NB285_291.out _; refine pk ?_; refine blk_far ?_ NB285_291.out _; refine pk ?_; refine blk_far ?_ NB285_291.out _; exact pk BK285.out) NB285_286.out (by simp)); replace BK291 := Aside0.mk (KeepBut.blk hk (g' := gb291) (o := .cells #[.int .i64 t287, .slice none 0 0, .slice none 0 0] 25 (0, 0)) (by refine pk ?_; refine blk_put (cs := #[.int .i64 t287, .slice none 0 0, .slice none 0 0]) ?_ 2 _ rfl; refine pk ?_; refine blk_put (cs := #[.int .i64 t287, .slice none 0 0, .slice none 0 0]) ?_ 1 _ rfl; refine pk ?_; refine blk_put (cs := #[.int .i64 0, .slice none 0 0, .slice none 0 0]) ?_ 0 _ rfl; exact pk BK291.out) NB291_286.out (by simp)); replace HB := Aside0.mk (hb); replace BK286 := Aside0.mk (hi.1); (try clear hb); (try clear hb2); (try clear hk); (try clear hi)))
 go_loopg [7] k (fun kq v7 w' => ∃ (x7_1 : Int) (x287000_1 : ByteArray) (x287001_1 : Int) (x287002_1 : Bool) (x292001_1 : List (S59)) (u292001 : Value), v7 = .int .i64 x7_1 ∧ Aside0 (payload_Decode.l0 kq x7_1 x287000_1 x287001_1 x287002_1 t287 x292001_1 = some (r1, r2, r3, r4, r5)) ∧ Aside0 (kq ≤ k) ∧ Aside0 (Kd.S k59 59 w' w.heap.size (fun _ => True) u292001 x292001_1) ∧ Aside0 (w'.heap[gb285]? = some (.cells #[.int .i64 0, (.slice none 0 0), (.slice none 0 0)] 25 (0, 0))) ∧ Aside0 (w'.heap[gb291]? = some (.cells #[.int .i64 t287, u292001, (.slice none 0 0)] 25 (0, 0))) ∧ Aside0 (w'.heap[gb286]? = some (.cells #[.string x287000_1, .int .i64 x287001_1, .bool x287002_1] 78 (0, 0))) ∧ Aside0 (Below w.heap.size w w'))
 case atStart => exact ⟨(t292), (t293), (t294), (t295), (([] : List (S59))), (.slice none 0 0), hsr, H', ⟨Nat.le_refl _⟩, ⟨by first | exact Kd.S_nil _ _ _ _ _ | exact Kd.N_nil _ _ _ _ _ | exact Kd.V_nil _ _ _ _ _ | exact Kd.Q_nil _ _ _ _ _ | exact Kd.R_nil _ _ _ _ _⟩, ⟨pk BK285.out⟩, ⟨pk BK291.out⟩, ⟨pk BK286.out⟩, ⟨bl HB.out⟩⟩
 case round =>
  clear H'
  try clear c1
  try clear p2
  try clear c3
  try clear p6
  try clear c8
  try clear c9
  try clear hcz10_0 hcz10_1 hcz10_2 hfz10_0 hfz10_1 hfz10_2
  obtain ⟨x7_1, x287000_1, x287001_1, x287002_1, x292001_1, u292001, rfl, HA, HK1, HO_292001, BK285, BK291, BK286, HB⟩ := hrel
  cases gk with
  | zero => exact absurd HA.out (by simp [payload_Decode.l0])
  | succ k1 =>
   have H := HA.out
   clear HA
   simp only [payload_Decode.l0] at H
   have HC12 := Aside0.mk H
   clear H
   go_upto_region 4 with (fail)
   go_cut [28] (fun v28 wc => ∃ (kq : Nat) (x28_11 : Bool), v28 = .bool x28_11 ∧ Aside0 (payload_Decode.j1 kq x7_1 x28_11 x287000_1 x287001_1 x287002_1 t287 x292001_1 = some (r1, r2, r3, r4, r5)) ∧ Aside0 (kq ≤ k1) ∧ Aside0 (Kd.S k59 59 wc w.heap.size (fun _ => True) u292001 x292001_1) ∧ Aside0 (wc.heap[gb285]? = some (.cells #[.int .i64 0, (.slice none 0 0), (.slice none 0 0)] 25 (0, 0))) ∧ Aside0 (wc.heap[gb291]? = some (.cells #[.int .i64 t287, u292001, (.slice none 0 0)] 25 (0, 0))) ∧ Aside0 (wc.heap[gb286]? = some (.cells #[.string x287000_1, .int .i64 x287001_1, .bool x287002_1] 78 (0, 0))) ∧ Aside0 (Below w.heap.size w wc))
   case first =>
    have H := HC12.out
    clear HC12
    by_cases c13 : x7_1 > 0
    ·rw [if_pos c13] at H
     have c13b0 : decide (0 < x7_1) = true := decide_eq_true c13
     clear c13
     (first | rw [c13b0] | (simp only [i64_w, i32_w]; rw [c13b0]) | skip)
     have H' := Aside0.mk H
     clear H
     have hnb14 := NB286_285.out
     have hnc14 := NB285_286.out
     have hnb15 := NB286_291.out
     have hnc15 := NB291_286.out
     obtain ⟨hcz16_0, hcz16_1, hcz16_2, hfz16_0, hfz16_1, hfz16_2⟩ := cz3 BK286.out
     go_wp2
     go_meet
     case rel => exact ⟨_, (!x287002_1), hsr, H', ⟨by have := HK1.out; first | omega | exact Nat.le_refl _⟩, ⟨pS HO_292001.out⟩, ⟨pk BK285.out⟩, ⟨pk BK291.out⟩, ⟨pk BK286.out⟩, ⟨bl HB.out⟩⟩
    ·rw [if_neg c13] at H
     have c13b0 : decide (0 < x7_1) = false := decide_eq_false c13
     clear c13
     (first | rw [c13b0] | (simp only [i64_w, i32_w]; rw [c13b0]) | skip)
     have H' := Aside0.mk H
     clear H
     go_wp2
     go_meet
     case rel => exact ⟨_, (false), hsr, H', ⟨by have := HK1.out; first | omega | exact Nat.le_refl _⟩, ⟨pS HO_292001.out⟩, ⟨pk BK285.out⟩, ⟨pk BK291.out⟩, ⟨pk BK286.out⟩, ⟨bl HB.out⟩⟩
   case rest =>
    clear HC12
    try clear c1
    try clear p2
    try clear c3
    try clear p6
    try clear c8
    try clear c9
    try clear c13
    try clear c13b0
    try clear c14
    try clear c15
    try clear hcz16_0 hcz16_1 hcz16_2 hfz16_0 hfz16_1 hfz16_2
    try clear hcz10_0 hcz10_1 hcz10_2 hfz10_0 hfz10_1 hfz10_2
    try clear p2
    try clear p6
    obtain ⟨kq, x28_11, rfl, HA, HJ11, HO_292001, BK285, BK291, BK286, HB⟩ := hcut
    cases kq with
    | zero => exact absurd HA.out (by simp [payload_Decode.j1])
    | succ kj11 =>
     have H := HA.out
     clear HA
     simp only [payload_Decode.j1] at H
     by_cases c17 : x28_11 = true
     ·subst c17
      have H1 : ((payload_taker_number.f kj11 x287000_1 x287001_1 x287002_1 1).bind fun bt296 => ((payload_taker_text.f bt296.2.1 bt296.2.2.1 bt296.2.2.2 bt296.1).bind fun bt300 => ((payload_taker_number.f kj11 bt300.2.1 bt300.2.2.1 bt300.2.2.2 1).bind fun bt305 => (payload_Decode.l1 kj11 x7_1 bt305.1 bt305.2.1 bt305.2.2.1 bt305.2.2.2 t287 x292001_1 bt300.1 ([] : List Int))))) = some (r1, r2, r3, r4, r5) := by rw [if_pos rfl] at H; exact H
      clear H
      have H := H1
      clear H1
      replace H := Option.bind_eq_some_iff.mp H
      obtain ⟨⟨t296, t297, t298, t299⟩, A180, H⟩ := H
      replace H : ((payload_taker_text.f t297 t298 t299 t296).bind fun bt300 => ((payload_taker_number.f kj11 bt300.2.1 bt300.2.2.1 bt300.2.2.2 1).bind fun bt305 => (payload_Decode.l1 kj11 x7_1 bt305.1 bt305.2.1 bt305.2.2.1 bt305.2.2.2 t287 x292001_1 bt300.1 ([] : List Int)))) = some (r1, r2, r3, r4, r5) := H
      have A18 := Aside0.mk A180
      clear A180
      replace H := Option.bind_eq_some_iff.mp H
      obtain ⟨⟨t300, t301, t302, t303⟩, A190, H⟩ := H
      replace H : ((payload_taker_number.f kj11 t301 t302 t303 1).bind fun bt305 => (payload_Decode.l1 kj11 x7_1 bt305.1 bt305.2.1 bt305.2.2.1 bt305.2.2.2 t287 x292001_1 t300 ([] : List Int))) = some (r1, r2, r3, r4, r5) := H
      have A19 := Aside0.mk A190
      clear A190
      replace H := Option.bind_eq_some_iff.mp H
      obtain ⟨⟨t305, t306, t307, t308⟩, A200, H⟩ := H
      replace H : (payload_Decode.l1 kj11 x7_1 t305 t306 t307 t308 t287 x292001_1 t300 ([] : List Int)) = some (r1, r2, r3, r4, r5) := H
      have A20 := Aside0.mk A200
      clear A200
      have H' := Aside0.mk H
      clear H
      go_wp2_with (first | ((with_reducible refine gate_callee (f := 39) rfl ?_); refine goesL_ (some 33) rfl rfl Tryd.func39 kr rfl #[.pointer (some ⟨gb286, 0, none⟩), .int .i64 1] rfl ga ?_; (with_reducible refine (payload_taker_number.calls kj11 gb286 x287000_1 x287001_1 x287002_1 1 t296 t297 t298 t299 w _ ?side1 ?side2 A18.out).mono ?_); (case side1 => exact ⟨pk BK286.out, GE286.out⟩); (case side2 => exact bl HB.out); rintro e w21 ⟨rfl, hi, hb, hk⟩; refine ⟨_, rfl, ?_⟩; replace HO_292001 := Aside0.mk (Kd.S_mono (Kd.S_keep (IsS78.apartS (show IsS78 w _ gb286 x287000_1 x287001_1 x287002_1 from by repeat (first | (with_reducible first | exact (Aside0.mk (⟨BK286.out, GE286.out⟩ : IsS78 w _ gb286 x287000_1 x287001_1 x287002_1)).out | apply IsS78.alloc | apply IsS78.drewN | apply IsS78.drew | apply IsS78.set_0 | apply IsS78.set_1 | apply IsS78.set_2 | refine IsS78.far ?_ NB286_285.out _ | refine IsS78.far ?_ NB286_291.out _) | exact (Aside0.mk (⟨BK286.out, GE286.out⟩ : IsS78 w _ gb286 x287000_1 x287001_1 x287002_1)).out)) (pS HO_292001.out) (by decide)) hk (fun _ h => h.2)) (fun _ h => h.1)); replace BK285 := Aside0.mk (KeepBut.blk hk (g' := gb285) (o := .cells #[.int .i64 0, .slice none 0 0, .slice none 0 0] 25 (0, 0)) (pk BK285.out) NB285_286.out (by simp)); replace BK291 := Aside0.mk (KeepBut.blk hk (g' := gb291) (o := .cells #[.int .i64 t287, u292001, .slice none 0 0] 25 (0, 0)) (pk BK291.out) NB291_286.out (by simp)); replace HB := Aside0.mk (hb); replace BK286 := Aside0.mk (hi.1); (try clear hb); (try clear hb2); (try clear hk); (try clear hi)) | ((with_reducible refine gate_callee (f := 40) rfl ?_); refine goesL_ (some 34) rfl rfl Tryd.func40 kr rfl #[.pointer (some ⟨gb286, 0, none⟩), .int .i64 t296] rfl ga ?_; (with_reducible refine (payload_taker_text.calls gb286 t297 t298 t299 t296 t300 t301 t302 t303 w _ ?side1 ?side2 A19.out).mono ?_); (case side1 => exact ⟨pk BK286.out, GE286.out⟩); (case side2 => exact bl HB.out); rintro e w22 ⟨rfl, hi, hb, hk⟩; refine ⟨_, rfl, ?_⟩; replace HO_292001 := Aside0.mk (Kd.S_mono (Kd.S_keep (IsS78.apartS (show IsS78 w _ gb286 t297 t298 t299 from by repeat (first | (with_reducible first | exact (Aside0.mk (⟨BK286.out, GE286.out⟩ : IsS78 w _ gb286 t297 t298 t299)).out | apply IsS78.alloc | apply IsS78.drewN | apply IsS78.drew | apply IsS78.set_0 | apply IsS78.set_1 | apply IsS78.set_2 | refine IsS78.far ?_ NB286_285.out _ | refine IsS78.far ?_ NB286_291.out _) | exact (Aside0.mk (⟨BK286.out, GE286.out⟩ : IsS78 w _ gb286 t297 t298 t299)).out)) (pS HO_292001.out) (by decide)) hk (fun _ h => h.2)) (fun _ h => h.1)); replace BK285 := Aside0.mk (KeepBut.blk hk (g' := gb285) (o := .cells #[.int .i64 0, .slice none 0 0, .slice none 0 0] 25 (0, 0)) (pk BK285.out) NB285_286.out (by simp)); replace BK291 := Aside0.mk (KeepBut.blk hk (g' := gb291) (o := .cells #[.int .i64 t287, u292001, .slice none 0 0] 25 (0, 0)) (pk BK291.out) NB291_286.out (by simp)); replace HB := Aside0.mk (hb); replace BK286 := Aside0.mk (hi.1); (try clear hb); (try clear hb2); (try clear hk); (try clear hi)) | ((with_reducible refine gate_dst (N := 8) rfl ?_); refine box_event ?hg (N := 8) ?hd (cs := #[.string (⟨#[]⟩ : ByteArray), .slice none 0 0]) (t := 59) ?hr ?_; (case hd => rfl); (case hg => rfl); (case hr => first | (go_simp; done) | (go_simp; rfl)); intro gb304 hg w23 hbox hb; replace HO_292001 := Aside0.mk (Kd.S_below (Kd.S_elderB (pS HO_292001.out) gb304 (Nat.le_of_eq hg.symm)) hb); have BK304 := Aside0.mk (hbox); have GW304 := Aside0.mk (gs (w := w) hg (bl HB.out)); have GE304 := Aside0.mk (gs (w := w) hg (bl HB.out)); replace HB := Aside0.mk (below_step (bl HB.out) hb); have NB285_304 := Aside0.mk ((gl (g := gb285) hg (pk BK285.out))); have NB304_285 := Aside0.mk ((gm (g := gb285) hg (pk BK285.out))); replace BK285 := Aside0.mk (blk_below (pk BK285.out) hb); have NB291_304 := Aside0.mk ((gl (g := gb291) hg (pk BK291.out))); have NB304_291 := Aside0.mk ((gm (g := gb291) hg (pk BK291.out))); replace BK291 := Aside0.mk (blk_below (pk BK291.out) hb); have NB286_304 := Aside0.mk ((gl (g := gb286) hg (pk BK286.out))); have NB304_286 := Aside0.mk ((gm (g := gb286) hg (pk BK286.out))); replace BK286 := Aside0.mk (blk_below (pk BK286.out) hb); clear hb hbox hg; have hnb24 := NB304_285.out; have hnc24 := NB285_304.out; have hnb25 := NB304_291.out; have hnc25 := NB291_304.out; have hnb26 := NB304_286.out; have hnc26 := NB286_304.out; obtain ⟨hcz27_0, hcz27_1, hfz27_0, hfz27_1⟩ := cz2 BK304.out) | ((with_reducible refine gate_callee (f := 39) rfl ?_); refine goesL_ (some 37) rfl rfl Tryd.func39 kr rfl #[.pointer (some ⟨gb286, 0, none⟩), .int .i64 1] rfl ga ?_; (with_reducible refine (payload_taker_number.calls kj11 gb286 t301 t302 t303 1 t305 t306 t307 t308 w _ ?side1 ?side2 A20.out).mono ?_); (case side1 => exact ⟨by refine pk ?_; refine blk_far ?_ NB286_304.out _; refine pk ?_; refine blk_far ?_ NB286_304.out _; exact pk BK286.out, GE286.out⟩); (case side2 => exact bl HB.out); rintro e w28 ⟨rfl, hi, hb, hk⟩; refine ⟨_, rfl, ?_⟩; replace HO_292001 := Aside0.mk (Kd.S_mono (Kd.S_keep (IsS78.apartS (show IsS78 w _ gb286 t301 t302 t303 from by repeat (first | (with_reducible first | exact (Aside0.mk (⟨BK286.out, GE286.out⟩ : IsS78 w _ gb286 t301 t302 t303)).out | apply IsS78.alloc | apply IsS78.drewN | apply IsS78.drew | apply IsS78.set_0 | apply IsS78.set_1 | apply IsS78.set_2 | refine IsS78.far ?_ NB286_285.out _ | refine IsS78.far ?_ NB286_291.out _ | refine IsS78.far ?_ NB286_304.out _) | exact (Aside0.mk (⟨BK286.out, GE286.out⟩ : IsS78 w _ gb286 t301 t302 t303)).out)) (by (with_reducible repeat (first | apply Kd.S_alloc | apply Kd.S_drewN | apply Kd.S_drew)); exact (Kd.S_mono (Kd.S_far (p := ⟨gb304, 1, none⟩) (Kd.S_far (p := ⟨gb304, 0, none⟩) (Kd.S_mono HO_292001.out (fun k_ hk => (⟨hk, hk.2⟩ : _ ∧ k_ ≠ gb304))) (fun _ hk => hk.2) (.string t300)) (fun _ hk => hk.2) (.slice none 0 0)) (fun _ h_ => h_.1))) (by decide)) hk (fun _ h => h.2)) (fun _ h => h.1)); replace BK285 := Aside0.mk (KeepBut.blk hk (g' := gb285) (o := .cells #[.int .i64 0, .slice none 0 0, .slice none 0 0] 25 (0, 0)) (by refine pk ?_; refine blk_far ?_ NB285_304.out _; refine pk ?_; refine blk_far ?_ NB285_304.out _; exact pk BK285.out) NB285_286.out (by simp)); replace BK291 := Aside0.mk (KeepBut.blk hk (g' := gb291) (o := .cells #[.int .i64 t287, u292001, .slice none 0 0] 25 (0, 0)) (by refine pk ?_; refine blk_far ?_ NB291_304.out _; refine pk ?_; refine blk_far ?_ NB291_304.out _; exact pk BK291.out) NB291_286.out (by simp)); replace BK304 := Aside0.mk (KeepBut.blk hk (g' := gb304) (o := .cells #[.string t300, .slice none 0 0] 59 (0, 0)) (by refine pk ?_; refine blk_put (cs := #[.string t300, .slice none 0 0]) ?_ 1 _ rfl; refine pk ?_; refine blk_put (cs := #[.string (⟨#[]⟩ : ByteArray), .slice none 0 0]) ?_ 0 _ rfl; exact pk BK304.out) NB304_286.out (by simp)); replace HB := Aside0.mk (hb); replace BK286 := Aside0.mk (hi.1); (try clear hb); (try clear hb2); (try clear hk); (try clear hi)))
      go_loopg [9] kj11 (fun kq v9 w' => ∃ (x9_3 : Int) (x287000_3 : ByteArray) (x287001_3 : Int) (x287002_3 : Bool) (x305001_3 : List Int) (u305001 : Value), v9 = .int .i64 x9_3 ∧ Aside0 (payload_Decode.l1 kq x7_1 x9_3 x287000_3 x287001_3 x287002_3 t287 x292001_1 t300 x305001_3 = some (r1, r2, r3, r4, r5)) ∧ Aside0 (kq ≤ kj11) ∧ Aside0 (Kd.S k59 59 w' w.heap.size (fun k_ => some k_ ≠ (u305001 : Value).ownBlock ∧ k_ ≠ gb304) u292001 x292001_1) ∧ Aside0 (Kd.R (Kd.int .i64) 3 w' w.heap.size (fun _ => True) u305001 x305001_3) ∧ Aside0 (w'.heap[gb285]? = some (.cells #[.int .i64 0, (.slice none 0 0), (.slice none 0 0)] 25 (0, 0))) ∧ Aside0 (w'.heap[gb291]? = some (.cells #[.int .i64 t287, u292001, (.slice none 0 0)] 25 (0, 0))) ∧ Aside0 (w'.heap[gb304]? = some (.cells #[.string t300, u305001] 59 (0, 0))) ∧ Aside0 (w'.heap[gb286]? = some (.cells #[.string x287000_3, .int .i64 x287001_3, .bool x287002_3] 78 (0, 0))) ∧ Aside0 (Below w.heap.size w w'))
      case atStart => exact ⟨(t305), (t306), (t307), (t308), (([] : List Int)), (.slice none 0 0), hsr, H', ⟨Nat.le_refl _⟩, ⟨by (with_reducible repeat (first | apply Kd.S_alloc | apply Kd.S_drewN | apply Kd.S_drew)); exact Kd.S_mono HO_292001.out (fun _ hk => ⟨(by simp [Value.ownBlock]), hk.2⟩)⟩, ⟨by first | exact Kd.R_nil _ _ _ _ _ | exact Kd.N_nil _ _ _ _ _ | exact Kd.V_nil _ _ _ _ _ | exact Kd.Q_nil _ _ _ _ _ | exact Kd.S_nil _ _ _ _ _⟩, ⟨pk BK285.out⟩, ⟨pk BK291.out⟩, ⟨pk BK304.out⟩, ⟨pk BK286.out⟩, ⟨bl HB.out⟩⟩
      case round =>
       clear H'
       try clear c1
       try clear c2
       try clear p2
       try clear c3
       try clear c4
       try clear p6
       try clear c8
       try clear c9
       try clear c13
       try clear c13b0
       try clear c14
       try clear c15
       try clear c17
       try clear c19
       try clear c24
       try clear c25
       try clear c26
       try clear hcz27_0 hcz27_1 hfz27_0 hfz27_1
       try clear hcz16_0 hcz16_1 hcz16_2 hfz16_0 hfz16_1 hfz16_2
       try clear hcz10_0 hcz10_1 hcz10_2 hfz10_0 hfz10_1 hfz10_2
       try clear p2
       try clear p6
       obtain ⟨x9_3, x287000_3, x287001_3, x287002_3, x305001_3, u305001, rfl, HA, HK3, HO_292001, HO_305001, BK285, BK291, BK304, BK286, HB⟩ := hrel
       cases gk with
       | zero => exact absurd HA.out (by simp [payload_Decode.l1])
       | succ k3 =>
        have H := HA.out
        clear HA
        simp only [payload_Decode.l1] at H
        by_cases c29 : x9_3 > 0
        ·rw [if_pos c29] at H
         have c29b0 : decide (0 < x9_3) = true := decide_eq_true c29
         clear c29
         by_cases c30 : x287002_3 = true
         ·subst c30
          have H1 : (if x292001_1.length < 3518437208883 then (payload_Decode.l0 k3 (wrap64 (x7_1 - 1)) x287000_3 x287001_3 true t287 (x292001_1 ++ [(⟨t300, x305001_3⟩ : S59)])) else (none)) = some (r1, r2, r3, r4, r5) := by rw [if_pos rfl] at H; exact H
          clear H
          have H := H1
          clear H1
          by_cases c31 : x292001_1.length < 3518437208883
          ·rw [if_pos c31] at H
           have LMc31 := Aside0.mk c31
           clear c31
           obtain ⟨y309, hy309⟩ : ∃ y_ : List (S59), y_ = (x292001_1 ++ [(⟨t300, x305001_3⟩ : S59)]) := ⟨_, rfl⟩
           replace H : (payload_Decode.l0 k3 (wrap64 (x7_1 - 1)) x287000_3 x287001_3 true t287 y309) = some (r1, r2, r3, r4, r5) := by first | (rw [hy309]; with_reducible exact H) | (have H2_ := (Option.bind_some _ _).symm.trans H; rw [hy309]; with_reducible exact H2_) | (have H2_ := (Option.bind_some _ _).symm.trans H; with_reducible exact H2_) | with_reducible exact H | (rw [hy309]; exact H) | exact H
           have Ny309 := Aside0.mk hy309
           clear hy309
           have H' := Aside0.mk H
           clear H
           have hnb32 := NB286_285.out
           have hnc32 := NB285_286.out
           have hnb33 := NB286_291.out
           have hnc33 := NB291_286.out
           have hnb34 := NB286_304.out
           have hnc34 := NB304_286.out
           obtain ⟨hcz35_0, hcz35_1, hcz35_2, hfz35_0, hfz35_1, hfz35_2⟩ := cz3 BK286.out
           have hnb36 := NB291_285.out
           have hnc36 := NB285_291.out
           have hnb37 := NB291_304.out
           have hnc37 := NB304_291.out
           obtain ⟨hcz38_0, hcz38_1, hcz38_2, hfz38_0, hfz38_1, hfz38_2⟩ := cz3 BK291.out
           have hnb39 := NB304_285.out
           have hnc39 := NB285_304.out
           obtain ⟨hcz40_0, hcz40_1, hfz40_0, hfz40_1⟩ := cz2 BK304.out
           obtain ⟨Ao42, co42, eo42⟩ := Kd.R_slice HO_305001.out
           subst eo42
           go_wp2_with (first | ((with_reducible refine gate_builtin (b := .append) (xs := #[.tmp 58, .tmp 60]) rfl ?_); at_builtin; refine Kd.S_append k59 (w0 := w) w.heap.size rfl (.tmp 58) (.tmp 60) 22 59 (.agg #[(.string ⟨#[]⟩), (.slice none 0 0)]) 40 rfl Tryd.underlying22 info59 rfl (by decide) (by omega) u292001 x292001_1 (⟨t300, x305001_3⟩ : S59) [.string t300, .slice Ao42 x305001_3.length co42] (fun k_ => k_ ≠ gb304) (fun k_ => some k_ = (.slice Ao42 x305001_3.length co42 : Value).ownBlock) rfl rfl ?aP (fun k_ hk_ => ((Kd.R_mono (ok' := fun k_ => ((fun k_ => k_ ≠ gb304)) k_ ∧ some k_ ≠ (u292001 : Value).ownBlock) (Kd.R_types (Kd.R_apart' (HO_305001.out) (Kd.S_typed HO_292001.out) (by decide)) BK304.out (by decide)) (fun k_ hk => ⟨hk.2, hk.1.2⟩))).1 k_ hk_.symm) ?aF ?aO ?aB ?aS ?aL ?_; (case aP => exact k59_mkM _ _ _ (⟨t300, x305001_3⟩ : S59) (Kd.R_mono (Kd.R_tight rfl (Kd.R_mono (ok' := fun k_ => ((fun k_ => k_ ≠ gb304)) k_ ∧ some k_ ≠ (u292001 : Value).ownBlock) (Kd.R_types (Kd.R_apart' (HO_305001.out) (Kd.S_typed HO_292001.out) (by decide)) BK304.out (by decide)) (fun k_ hk => ⟨hk.2, hk.1.2⟩))) (fun _ h_ => h_))); (case aB => exact (bl HB.out)); (case aF => exact (fun k_ hk => Kd.freshB (g := gb304) (o := .cells #[.string t300, .slice Ao42 x305001_3.length co42] 59 (0, 0)) (pk BK304.out) k_ hk)); (case aO => exact (by (with_reducible repeat (first | apply Kd.S_alloc | apply Kd.S_drewN | apply Kd.S_drew)); exact Kd.S_mono HO_292001.out (fun k_ hk => ⟨hk.2, fun e_ => hk.1 e_⟩))); (case aS => exact (below_size (bl HB.out))); (case aL => have := LMc31.out; omega); intro v310 w41 ho hb hg hat; rw [← Ny309.out] at ho; replace BK285 := Aside0.mk (blk_grown (g := gb285) (o := .cells #[.int .i64 0, .slice none 0 0, .slice none 0 0] 25 (0, 0)) (pk BK285.out) hg (Kd.S_ne HO_292001.out BK285.out (by decide))); replace BK291 := Aside0.mk (blk_grown (g := gb291) (o := .cells #[.int .i64 t287, u292001, .slice none 0 0] 25 (0, 0)) (pk BK291.out) hg (Kd.S_ne HO_292001.out BK291.out (by decide))); replace BK304 := Aside0.mk (blk_grown (g := gb304) (o := .cells #[.string t300, .slice Ao42 x305001_3.length co42] 59 (0, 0)) (pk BK304.out) hg (Kd.S_away HO_292001.out (fun _ hk => hk.2))); replace BK286 := Aside0.mk (blk_grown (g := gb286) (o := .cells #[.string x287000_3, .int .i64 x287001_3, .bool true] 78 (0, 0)) (pk BK286.out) hg (Kd.S_ne HO_292001.out BK286.out (by decide))); replace HB := Aside0.mk (hb); have HO311 := Aside0.mk (ho); clear HO_292001 HO_305001; clear ho hb hg hat; obtain ⟨Ao43, co43, eo43⟩ := Kd.S_slice HO311.out; subst eo43; obtain ⟨hcz44_0, hcz44_1, hcz44_2, hfz44_0, hfz44_1, hfz44_2⟩ := cz3 BK291.out))
           go_roundg k3
           case measure => have := HK1.out; have := HJ11.out; have := HK3.out; omega
           case rel => exact ⟨(wrap64 (x7_1 - 1)), (x287000_3), (x287001_3), (true), (y309), (.slice Ao43 y309.length co43), hsr, H', ⟨by have := HK1.out; have := HJ11.out; have := HK3.out; omega⟩, ⟨by (with_reducible repeat (first | apply Kd.S_alloc | apply Kd.S_drewN | apply Kd.S_drew)); exact Kd.S_mono (Kd.S_far (p := ⟨gb291, 1, none⟩) (Kd.S_types HO311.out BK291.out (by decide)) (fun _ hk => hk.2) (.slice Ao43 y309.length co43)) (fun _ hk => trivial)⟩, ⟨by refine pk ?_; refine blk_far ?_ NB285_291.out _; exact pk BK285.out⟩, ⟨by refine pk ?_; refine blk_put (cs := #[.int .i64 t287, u292001, .slice none 0 0]) ?_ 1 _ rfl; exact pk BK291.out⟩, ⟨by refine pk ?_; refine blk_far ?_ NB286_291.out _; exact pk BK286.out⟩, ⟨bl HB.out⟩⟩
          ·rw [if_neg c31] at H
           exact absurd H (by simp)
         ·replace c30 := Bool.eq_false_iff.mpr c30
          subst c30
          have H1 : ((payload_taker_number.f k3 x287000_3 x287001_3 false 2).bind fun bt312 => (if x305001_3.length < 17592186044416 then (payload_Decode.l1 k3 x7_1 (wrap64 (x9_3 - 1)) bt312.2.1 bt312.2.2.1 bt312.2.2.2 t287 x292001_1 t300 (x305001_3 ++ [wrap64 (bt312.1 - 32768)])) else (none))) = some (r1, r2, r3, r4, r5) := by rw [if_neg (show ¬ (false = true) by decide)] at H; exact H
          clear H
          have H := H1
          clear H1
          replace H := Option.bind_eq_some_iff.mp H
          obtain ⟨⟨t312, t313, t314, t315⟩, A450, H⟩ := H
          replace H : (if x305001_3.length < 17592186044416 then (payload_Decode.l1 k3 x7_1 (wrap64 (x9_3 - 1)) t313 t314 t315 t287 x292001_1 t300 (x305001_3 ++ [wrap64 (t312 - 32768)])) else (none)) = some (r1, r2, r3, r4, r5) := H
          have A45 := Aside0.mk A450
          clear A450
          by_cases c46 : x305001_3.length < 17592186044416
          ·rw [if_pos c46] at H
           have LMc46 := Aside0.mk c46
           clear c46
           obtain ⟨y316, hy316⟩ : ∃ y_ : List Int, y_ = (x305001_3 ++ [wrap64 (t312 - 32768)]) := ⟨_, rfl⟩
           replace H : (payload_Decode.l1 k3 x7_1 (wrap64 (x9_3 - 1)) t313 t314 t315 t287 x292001_1 t300 y316) = some (r1, r2, r3, r4, r5) := by first | (rw [hy316]; with_reducible exact H) | (have H2_ := (Option.bind_some _ _).symm.trans H; rw [hy316]; with_reducible exact H2_) | (have H2_ := (Option.bind_some _ _).symm.trans H; with_reducible exact H2_) | with_reducible exact H | (rw [hy316]; exact H) | exact H
           have Ny316 := Aside0.mk hy316
           clear hy316
           have H' := Aside0.mk H
           clear H
           have hnb47 := NB286_285.out
           have hnc47 := NB285_286.out
           have hnb48 := NB286_291.out
           have hnc48 := NB291_286.out
           have hnb49 := NB286_304.out
           have hnc49 := NB304_286.out
           obtain ⟨hcz50_0, hcz50_1, hcz50_2, hfz50_0, hfz50_1, hfz50_2⟩ := cz3 BK286.out
           try go_wp2
           replace HO_292001 := Aside0.mk (Kd.S_drew HO_292001.out)
           replace HO_305001 := Aside0.mk (Kd.R_drew HO_305001.out)
           replace BK285 := Aside0.mk (blk_drew BK285.out)
           replace BK291 := Aside0.mk (blk_drew BK291.out)
           replace BK304 := Aside0.mk (blk_drew BK304.out)
           replace BK286 := Aside0.mk (blk_drew BK286.out)
           replace HB := Aside0.mk (below_drew1 HB.out)
           refine start_ (n := 9) (S := fun w' => w'.cell? ⟨gb304, 0, none⟩ = some (.string t300) ∧ w'.cell? ⟨gb304, 1, none⟩ = some (u305001)) (ds := [8]) #[false, false, false, false, false, false, false, false, false] kr rfl rfl ⟨(blk_cell BK304.out 0).trans rfl, (blk_cell BK304.out 1).trans rfl⟩ (fun hHeld => ?_); refine with_tabW payload_Decode.tab10 payload_Decode.bits10 (fun HT_ HW_ => ?_)
           generalize wr.drew = w51 at HO_292001 HO_305001 BK285 BK291 BK304 BK286 HB hHeld ⊢
           refine pure_ (i := 0) (N := some 49) (v := ?_) (a' := ?_) #[true, false, false, false, false, false, false, false, false] rfl rfl (any_of HT_.out kr) (fun _ _ _ h => h) (Or.inl ⟨by rfl, ?_⟩) ?_ ?_
           rotate_left
           ·exact wl
           rotate_left
           ·exact ap
           refine pure_ (i := 2) (N := some 51) (v := ?_) (a' := ?_) #[true, false, true, false, false, false, false, false, false] rfl rfl (any_of HT_.out kr) (fun _ _ _ h => h) (Or.inl ⟨by rfl, ?_⟩) ?_ ?_
           rotate_left
           ·exact wl
           rotate_left
           ·exact ap
           refine take_ (i := 1) (N := some 50) (v := ?_) (a' := ?_) #[true, true, true, false, false, false, false, false, false] rfl rfl (take_ofW HT_.out HW_.out kr) (fun _ _ _ h => h) (Or.inl ⟨by rfl, ?_⟩) hHeld ?_ ?_
           rotate_left
           ·rintro w' ⟨s0, s1⟩
            go_simp
            exact rl
           rotate_left
           ·exact ap
           refine one_ (i := 3) (N := some 52) #[true, true, true, true, false, false, false, false, false] rfl rfl (one_of HT_.out kr) (by decide) (fun K hK => ?_)
           refine goes_ Tryd.func39 kr rfl #[.pointer (some ⟨gb286, 0, none⟩), .int .i64 2] (by rfl) rfl rfl ga ?_
           with_reducible refine (payload_taker_number.calls k3 gb286 x287000_3 x287001_3 false 2 t312 t313 t314 t315 w _ ?side1 ?side2 A45.out).mono ?_
           (case side1 => exact ⟨pk BK286.out, GE286.out⟩)
           (case side2 => exact bl HB.out)
           rintro e w52 ⟨rfl, hi, hb, hk⟩
           refine ⟨_, rfl, ?_⟩
           replace HO_292001 := Aside0.mk (Kd.S_mono (Kd.S_keep (IsS78.apartS (show IsS78 w _ gb286 x287000_3 x287001_3 false from by repeat (first | (with_reducible first | exact (Aside0.mk (⟨BK286.out, GE286.out⟩ : IsS78 w _ gb286 x287000_3 x287001_3 false)).out | apply IsS78.alloc | apply IsS78.drewN | apply IsS78.drew | apply IsS78.set_0 | apply IsS78.set_1 | apply IsS78.set_2 | refine IsS78.far ?_ NB286_285.out _ | refine IsS78.far ?_ NB286_291.out _ | refine IsS78.far ?_ NB286_304.out _) | exact (Aside0.mk (⟨BK286.out, GE286.out⟩ : IsS78 w _ gb286 x287000_3 x287001_3 false)).out)) (pS HO_292001.out) (by decide)) hk (fun _ h => h.2)) (fun _ h => h.1))
           replace HO_305001 := Aside0.mk (Kd.R_mono (Kd.R_keep (IsS78.apart (show IsS78 w _ gb286 x287000_3 x287001_3 false from by repeat (first | (with_reducible first | exact (Aside0.mk (⟨BK286.out, GE286.out⟩ : IsS78 w _ gb286 x287000_3 x287001_3 false)).out | apply IsS78.alloc | apply IsS78.drewN | apply IsS78.drew | apply IsS78.set_0 | apply IsS78.set_1 | apply IsS78.set_2 | refine IsS78.far ?_ NB286_285.out _ | refine IsS78.far ?_ NB286_291.out _ | refine IsS78.far ?_ NB286_304.out _) | exact (Aside0.mk (⟨BK286.out, GE286.out⟩ : IsS78 w _ gb286 x287000_3 x287001_3 false)).out)) (pR HO_305001.out) (by decide)) hk (fun _ h => h.2)) (fun _ h => h.1))
           replace BK285 := Aside0.mk (KeepBut.blk hk (g' := gb285) (o := .cells #[.int .i64 0, .slice none 0 0, .slice none 0 0] 25 (0, 0)) (pk BK285.out) NB285_286.out (by simp))
           replace BK291 := Aside0.mk (KeepBut.blk hk (g' := gb291) (o := .cells #[.int .i64 t287, u292001, .slice none 0 0] 25 (0, 0)) (pk BK291.out) NB291_286.out (by simp))
           replace BK304 := Aside0.mk (KeepBut.blk hk (g' := gb304) (o := .cells #[.string t300, u305001] 59 (0, 0)) (pk BK304.out) NB304_286.out (by simp))
           replace HB := Aside0.mk (hb)
           replace BK286 := Aside0.mk (hi.1)
           (try clear hb)
           (try clear hb2)
           (try clear hk)
           (try clear hi)
           refine hK.out _ _ ⟨(blk_cell BK304.out 0).trans rfl, (blk_cell BK304.out 1).trans rfl⟩ (fun hHeld => ?_)
           clear hK K
           refine norm_ (a' := ?_) ?_ ?_
           rotate_left
           ·show Act.put _ (some 52) _ = _
            exact ap
           refine pure_ (i := 4) (N := some 53) (v := ?_) (a' := ?_) #[true, true, true, true, true, false, false, false, false] rfl rfl (any_of HT_.out kr) (fun _ _ _ h => h) (Or.inl ⟨by rfl, ?_⟩) ?_ ?_
           rotate_left
           ·exact wl
           rotate_left
           ·exact ap
           refine one_ (i := 5) (N := some 54) #[true, true, true, true, true, true, false, false, false] rfl rfl (one_of HT_.out kr) (by decide) (fun K hK => ?_)
           refine value_ (w1 := ?_) (v := ?_) (by rfl) rfl ?_ ?_
           rotate_left 2
           ·go_simp
            constructor
            ·rfl
            ·rfl
           refine hK.out _ _ ⟨(blk_cell (blk_alloc BK304.out _) 0).trans rfl, (blk_cell (blk_alloc BK304.out _) 1).trans rfl⟩ (fun hHeld => ?_)
           clear hK K
           refine norm_ (a' := ?_) ?_ ?_
           rotate_left
           ·show Act.put _ (some 54) _ = _
            exact ap
           refine one_ (i := 6) (N := some 55) #[true, true, true, true, true, true, true, false, false] rfl rfl (one_of HT_.out kr) (by decide) (fun K hK => ?_)
           refine Kd.R_append_step (Kd.int .i64) (w0 := w) w.heap.size (by rfl) (.tmp 50) (.tmp 54) 57 3 (.int .i64 0) 8 rfl Tryd.underlying57 info3 rfl (by decide) (by omega) u305001 x305001_3 (wrap64 (t312 - 32768)) [.int .i64 (wrap64 (t312 - 32768))] (fun _ => True) (fun _ => False) rfl rfl ?aP (fun _ hk => hk.elim) ?aF ?aO ?aB ?aS ?aL ?_
           (case aP => exact rfl)
           (case aB => exact (bl HB.out))
           (case aF => exact (fun _ _ => trivial))
           (case aO => exact (pR HO_305001.out))
           (case aS => exact (below_size (bl HB.out)))
           (case aL => have := LMc46.out; omega)
           intro v317 w53 ho hb hg hat
           rw [← Ny316.out] at ho
           replace HO_292001 := Aside0.mk (Kd.S_after (ok := (fun k_ => k_ ≠ gb304)) (by (with_reducible repeat (first | apply Kd.S_alloc | apply Kd.S_drewN | apply Kd.S_drew)); exact Kd.S_mono HO_292001.out (fun _ hk => ⟨hk.2, hk.1⟩)) hg hat)
           replace BK285 := Aside0.mk (blk_grown (g := gb285) (o := .cells #[.int .i64 0, .slice none 0 0, .slice none 0 0] 25 (0, 0)) (pk BK285.out) hg (Kd.R_ne HO_305001.out BK285.out (by decide)))
           replace BK291 := Aside0.mk (blk_grown (g := gb291) (o := .cells #[.int .i64 t287, u292001, .slice none 0 0] 25 (0, 0)) (pk BK291.out) hg (Kd.R_ne HO_305001.out BK291.out (by decide)))
           replace BK304 := Aside0.mk (blk_grown (g := gb304) (o := .cells #[.string t300, u305001] 59 (0, 0)) (pk BK304.out) hg (Kd.R_ne HO_305001.out BK304.out (by decide)))
           replace BK286 := Aside0.mk (blk_grown (g := gb286) (o := .cells #[.string t313, .int .i64 t314, .bool t315] 78 (0, 0)) (pk BK286.out) hg (Kd.R_ne HO_305001.out BK286.out (by decide)))
           replace HB := Aside0.mk (hb)
           have HO318 := Aside0.mk (ho)
           clear HO_305001
           clear ho hb hg hat
           obtain ⟨Ao54, co54, eo54⟩ := Kd.R_slice HO318.out
           (first | subst eo54 | (injection eo54 with f1_ f2_ f3_; have f4_ := f1_.symm; have f5_ := f3_.symm; clear f1_ f2_ f3_; subst f4_; subst f5_))
           refine hK.out _ _ ⟨(blk_cell BK304.out 0).trans rfl, (blk_cell BK304.out 1).trans rfl⟩ (fun hHeld => ?_)
           clear hK K
           refine norm_ (a' := ?_) ?_ ?_
           rotate_left
           ·show Act.put _ (some 55) _ = _
            exact ap
           refine pure_ (i := 7) (N := some 56) (v := ?_) (a' := ?_) #[true, true, true, true, true, true, true, true, false] rfl rfl (any_of HT_.out kr) (fun _ _ _ h => h) (Or.inl ⟨by rfl, ?_⟩) ?_ ?_
           rotate_left
           ·exact wl
           rotate_left
           ·exact ap
           refine last_ (i := 8) (N := none) #[true, true, true, true, true, true, true, true, true] rfl rfl (one_of HT_.out kr) (by decide) (fun K hK => ?_)
           have hs55 : w53.cell? ⟨gb304, 1, none⟩ = some (u305001) := (blk_cell BK304.out 1).trans rfl
           have hfs55 := blk_frozen BK304.out 1
           have hns55_0 := NB285_304.out
           have hns55_1 := NB291_304.out
           have hns55_3 := NB286_304.out
           have hms55_0 := NB304_285.out
           have hms55_1 := NB304_291.out
           have hms55_3 := NB304_286.out
           refine skip_ (w1 := ?_) (by rfl) rfl ?_ ?_
           rotate_left
           ·go_simp
            rfl
           refine hK.out _ _ ?_
           clear hK K
           refine done_ (done_of HT_.out kr) ?_
           try go_wp2
           go_roundg k3
           case measure => have := HK1.out; have := HJ11.out; have := HK3.out; omega
           case rel => exact ⟨(wrap64 (x9_3 - 1)), (t313), (t314), (t315), (y316), (.slice Ao54 y316.length co54), hsr, H', ⟨by have := HK1.out; have := HJ11.out; have := HK3.out; omega⟩, ⟨by (with_reducible repeat (first | apply Kd.S_alloc | apply Kd.S_drewN | apply Kd.S_drew)); exact Kd.S_mono (Kd.S_far (p := ⟨gb304, 1, none⟩) (Kd.S_mono HO_292001.out (fun k_ hk => (⟨hk, hk.1⟩ : _ ∧ k_ ≠ gb304))) (fun _ hk => hk.2) (.slice Ao54 y316.length co54)) (fun _ hk => ⟨hk.1.2, hk.1.1⟩)⟩, ⟨by (with_reducible repeat (first | apply Kd.R_alloc | apply Kd.R_drewN | apply Kd.R_drew)); exact Kd.R_mono (Kd.R_far (p := ⟨gb304, 1, none⟩) (Kd.R_types HO318.out BK304.out (by decide)) (fun _ hk => hk.2) (.slice Ao54 y316.length co54)) (fun _ hk => trivial)⟩, ⟨by refine pk ?_; refine blk_far ?_ NB285_304.out _; exact pk BK285.out⟩, ⟨by refine pk ?_; refine blk_far ?_ NB291_304.out _; exact pk BK291.out⟩, ⟨by refine pk ?_; refine blk_put (cs := #[.string t300, u305001]) ?_ 1 _ rfl; exact pk BK304.out⟩, ⟨by refine pk ?_; refine blk_far ?_ NB286_304.out _; exact pk BK286.out⟩, ⟨bl HB.out⟩⟩
          ·rw [if_neg c46] at H
           exact absurd H (by simp)
        ·rw [if_neg c29] at H
         have c29b0 : decide (0 < x9_3) = false := decide_eq_false c29
         clear c29
         by_cases c56 : x292001_1.length < 3518437208883
         ·rw [if_pos c56] at H
          have LMc56 := Aside0.mk c56
          clear c56
          obtain ⟨y319, hy319⟩ : ∃ y_ : List (S59), y_ = (x292001_1 ++ [(⟨t300, x305001_3⟩ : S59)]) := ⟨_, rfl⟩
          replace H : (payload_Decode.l0 k3 (wrap64 (x7_1 - 1)) x287000_3 x287001_3 x287002_3 t287 y319) = some (r1, r2, r3, r4, r5) := by first | (rw [hy319]; with_reducible exact H) | (have H2_ := (Option.bind_some _ _).symm.trans H; rw [hy319]; with_reducible exact H2_) | (have H2_ := (Option.bind_some _ _).symm.trans H; with_reducible exact H2_) | with_reducible exact H | (rw [hy319]; exact H) | exact H
          have Ny319 := Aside0.mk hy319
          clear hy319
          have H' := Aside0.mk H
          clear H
          have hnb57 := NB291_285.out
          have hnc57 := NB285_291.out
          have hnb58 := NB291_304.out
          have hnc58 := NB304_291.out
          have hnb59 := NB291_286.out
          have hnc59 := NB286_291.out
          obtain ⟨hcz60_0, hcz60_1, hcz60_2, hfz60_0, hfz60_1, hfz60_2⟩ := cz3 BK291.out
          have hnb61 := NB304_285.out
          have hnc61 := NB285_304.out
          have hnb62 := NB304_286.out
          have hnc62 := NB286_304.out
          obtain ⟨hcz63_0, hcz63_1, hfz63_0, hfz63_1⟩ := cz2 BK304.out
          obtain ⟨Ao65, co65, eo65⟩ := Kd.R_slice HO_305001.out
          subst eo65
          go_wp2_with (first | ((with_reducible refine gate_builtin (b := .append) (xs := #[.tmp 58, .tmp 60]) rfl ?_); at_builtin; refine Kd.S_append k59 (w0 := w) w.heap.size rfl (.tmp 58) (.tmp 60) 22 59 (.agg #[(.string ⟨#[]⟩), (.slice none 0 0)]) 40 rfl Tryd.underlying22 info59 rfl (by decide) (by omega) u292001 x292001_1 (⟨t300, x305001_3⟩ : S59) [.string t300, .slice Ao65 x305001_3.length co65] (fun k_ => k_ ≠ gb304) (fun k_ => some k_ = (.slice Ao65 x305001_3.length co65 : Value).ownBlock) rfl rfl ?aP (fun k_ hk_ => ((Kd.R_mono (ok' := fun k_ => ((fun k_ => k_ ≠ gb304)) k_ ∧ some k_ ≠ (u292001 : Value).ownBlock) (Kd.R_types (Kd.R_apart' (HO_305001.out) (Kd.S_typed HO_292001.out) (by decide)) BK304.out (by decide)) (fun k_ hk => ⟨hk.2, hk.1.2⟩))).1 k_ hk_.symm) ?aF ?aO ?aB ?aS ?aL ?_; (case aP => exact k59_mkM _ _ _ (⟨t300, x305001_3⟩ : S59) (Kd.R_mono (Kd.R_tight rfl (Kd.R_mono (ok' := fun k_ => ((fun k_ => k_ ≠ gb304)) k_ ∧ some k_ ≠ (u292001 : Value).ownBlock) (Kd.R_types (Kd.R_apart' (HO_305001.out) (Kd.S_typed HO_292001.out) (by decide)) BK304.out (by decide)) (fun k_ hk => ⟨hk.2, hk.1.2⟩))) (fun _ h_ => h_))); (case aB => exact (bl HB.out)); (case aF => exact (fun k_ hk => Kd.freshB (g := gb304) (o := .cells #[.string t300, .slice Ao65 x305001_3.length co65] 59 (0, 0)) (pk BK304.out) k_ hk)); (case aO => exact (by (with_reducible repeat (first | apply Kd.S_alloc | apply Kd.S_drewN | apply Kd.S_drew)); exact Kd.S_mono HO_292001.out (fun k_ hk => ⟨hk.2, fun e_ => hk.1 e_⟩))); (case aS => exact (below_size (bl HB.out))); (case aL => have := LMc56.out; omega); intro v320 w64 ho hb hg hat; rw [← Ny319.out] at ho; replace BK285 := Aside0.mk (blk_grown (g := gb285) (o := .cells #[.int .i64 0, .slice none 0 0, .slice none 0 0] 25 (0, 0)) (pk BK285.out) hg (Kd.S_ne HO_292001.out BK285.out (by decide))); replace BK291 := Aside0.mk (blk_grown (g := gb291) (o := .cells #[.int .i64 t287, u292001, .slice none 0 0] 25 (0, 0)) (pk BK291.out) hg (Kd.S_ne HO_292001.out BK291.out (by decide))); replace BK304 := Aside0.mk (blk_grown (g := gb304) (o := .cells #[.string t300, .slice Ao65 x305001_3.length co65] 59 (0, 0)) (pk BK304.out) hg (Kd.S_away HO_292001.out (fun _ hk => hk.2))); replace BK286 := Aside0.mk (blk_grown (g := gb286) (o := .cells #[.string x287000_3, .int .i64 x287001_3, .bool x287002_3] 78 (0, 0)) (pk BK286.out) hg (Kd.S_ne HO_292001.out BK286.out (by decide))); replace HB := Aside0.mk (hb); have HO321 := Aside0.mk (ho); clear HO_292001 HO_305001; clear ho hb hg hat; obtain ⟨Ao66, co66, eo66⟩ := Kd.S_slice HO321.out; subst eo66; obtain ⟨hcz67_0, hcz67_1, hcz67_2, hfz67_0, hfz67_1, hfz67_2⟩ := cz3 BK291.out))
          go_roundg k3
          case measure => have := HK1.out; have := HJ11.out; have := HK3.out; omega
          case rel => exact ⟨(wrap64 (x7_1 - 1)), (x287000_3), (x287001_3), (x287002_3), (y319), (.slice Ao66 y319.length co66), hsr, H', ⟨by have := HK1.out; have := HJ11.out; have := HK3.out; omega⟩, ⟨by (with_reducible repeat (first | apply Kd.S_alloc | apply Kd.S_drewN | apply Kd.S_drew)); exact Kd.S_mono (Kd.S_far (p := ⟨gb291, 1, none⟩) (Kd.S_types HO321.out BK291.out (by decide)) (fun _ hk => hk.2) (.slice Ao66 y319.length co66)) (fun _ hk => trivial)⟩, ⟨by refine pk ?_; refine blk_far ?_ NB285_291.out _; exact pk BK285.out⟩, ⟨by refine pk ?_; refine blk_put (cs := #[.int .i64 t287, u292001, .slice none 0 0]) ?_ 1 _ rfl; exact pk BK291.out⟩, ⟨by refine pk ?_; refine blk_far ?_ NB286_291.out _; exact pk BK286.out⟩, ⟨bl HB.out⟩⟩
         ·rw [if_neg c56] at H
          exact absurd H (by simp)
     ·replace c17 := Bool.eq_false_iff.mpr c17
      subst c17
      have H1 : ((payload_taker_number.f kj11 x287000_1 x287001_1 x287002_1 1).bind fun bt322 => (payload_Decode.l2 kj11 bt322.1 bt322.2.1 bt322.2.2.1 bt322.2.2.2 t287 x292001_1 ([] : List (S61)))) = some (r1, r2, r3, r4, r5) := by rw [if_neg (show ¬ (false = true) by decide)] at H; exact H
      clear H
      have H := H1
      clear H1
      replace H := Option.bind_eq_some_iff.mp H
      obtain ⟨⟨t322, t323, t324, t325⟩, A680, H⟩ := H
      replace H : (payload_Decode.l2 kj11 t322 t323 t324 t325 t287 x292001_1 ([] : List (S61))) = some (r1, r2, r3, r4, r5) := H
      have A68 := Aside0.mk A680
      clear A680
      have H' := Aside0.mk H
      clear H
      go_wp2_with (first | ((with_reducible refine gate_callee (f := 39) rfl ?_); refine goesL_ (some 64) rfl rfl Tryd.func39 kr rfl #[.pointer (some ⟨gb286, 0, none⟩), .int .i64 1] rfl ga ?_; (with_reducible refine (payload_taker_number.calls kj11 gb286 x287000_1 x287001_1 x287002_1 1 t322 t323 t324 t325 w _ ?side1 ?side2 A68.out).mono ?_); (case side1 => exact ⟨pk BK286.out, GE286.out⟩); (case side2 => exact bl HB.out); rintro e w69 ⟨rfl, hi, hb, hk⟩; refine ⟨_, rfl, ?_⟩; replace HO_292001 := Aside0.mk (Kd.S_mono (Kd.S_keep (IsS78.apartS (show IsS78 w _ gb286 x287000_1 x287001_1 x287002_1 from by repeat (first | (with_reducible first | exact (Aside0.mk (⟨BK286.out, GE286.out⟩ : IsS78 w _ gb286 x287000_1 x287001_1 x287002_1)).out | apply IsS78.alloc | apply IsS78.drewN | apply IsS78.drew | apply IsS78.set_0 | apply IsS78.set_1 | apply IsS78.set_2 | refine IsS78.far ?_ NB286_285.out _ | refine IsS78.far ?_ NB286_291.out _) | exact (Aside0.mk (⟨BK286.out, GE286.out⟩ : IsS78 w _ gb286 x287000_1 x287001_1 x287002_1)).out)) (pS HO_292001.out) (by decide)) hk (fun _ h => h.2)) (fun _ h => h.1)); replace BK285 := Aside0.mk (KeepBut.blk hk (g' := gb285) (o := .cells #[.int .i64 0, .slice none 0 0, .slice none 0 0] 25 (0, 0)) (pk BK285.out) NB285_286.out (by simp)); replace BK291 := Aside0.mk (KeepBut.blk hk (g' := gb291) (o := .cells #[.int .i64 t287, u292001, .slice none 0 0] 25 (0, 0)) (pk BK291.out) NB291_286.out (by simp)); replace HB := Aside0.mk (hb); replace BK286 := Aside0.mk (hi.1); (try clear hb); (try clear hb2); (try clear hk); (try clear hi)))
      go_loopg [10] kj11 (fun kq v10 w' => ∃ (x10_3 : Int) (x287000_3 : ByteArray) (x287001_3 : Int) (x287002_3 : Bool) (x292002_3 : List (S61)) (u292002 : Value), v10 = .int .i64 x10_3 ∧ Aside0 (payload_Decode.l2 kq x10_3 x287000_3 x287001_3 x287002_3 t287 x292001_1 x292002_3 = some (r1, r2, r3, r4, r5)) ∧ Aside0 (kq ≤ kj11) ∧ Aside0 (Kd.S k59 59 w' w.heap.size (fun _ => True) u292001 x292001_1) ∧ Aside0 (Kd.R k61 61 w' w.heap.size (fun _ => True) u292002 x292002_3) ∧ Aside0 (w'.heap[gb285]? = some (.cells #[.int .i64 0, (.slice none 0 0), (.slice none 0 0)] 25 (0, 0))) ∧ Aside0 (w'.heap[gb291]? = some (.cells #[.int .i64 t287, u292001, u292002] 25 (0, 0))) ∧ Aside0 (w'.heap[gb286]? = some (.cells #[.string x287000_3, .int .i64 x287001_3, .bool x287002_3] 78 (0, 0))) ∧ Aside0 (Below w.heap.size w w'))
      case atStart => exact ⟨(t322), (t323), (t324), (t325), (([] : List (S61))), (.slice none 0 0), hsr, H', ⟨Nat.le_refl _⟩, ⟨pS HO_292001.out⟩, ⟨by first | exact Kd.R_nil _ _ _ _ _ | exact Kd.N_nil _ _ _ _ _ | exact Kd.V_nil _ _ _ _ _ | exact Kd.Q_nil _ _ _ _ _ | exact Kd.S_nil _ _ _ _ _⟩, ⟨pk BK285.out⟩, ⟨pk BK291.out⟩, ⟨pk BK286.out⟩, ⟨bl HB.out⟩⟩
      case round =>
       clear H'
       try clear c1
       try clear c2
       try clear p2
       try clear c3
       try clear c4
       try clear c5
       try clear c6
       try clear p6
       try clear c8
       try clear c9
       try clear c13
       try clear c13b0
       try clear c14
       try clear c15
       try clear c17
       try clear c19
       try clear c24
       try clear c25
       try clear c26
       try clear c29
       try clear c29b0
       try clear c30
       try clear c31
       try clear c32
       try clear c33
       try clear c34
       try clear c36
       try clear c37
       try clear c39
       try clear c40
       try clear c46
       try clear c47
       try clear c48
       try clear c49
       try clear c56
       try clear c57
       try clear c58
       try clear c59
       try clear c61
       try clear c62
       try clear p64
       try clear hcz67_0 hcz67_1 hcz67_2 hfz67_0 hfz67_1 hfz67_2
       try clear hcz63_0 hcz63_1 hfz63_0 hfz63_1
       try clear hcz60_0 hcz60_1 hcz60_2 hfz60_0 hfz60_1 hfz60_2
       try clear hcz50_0 hcz50_1 hcz50_2 hfz50_0 hfz50_1 hfz50_2
       try clear hcz44_0 hcz44_1 hcz44_2 hfz44_0 hfz44_1 hfz44_2
       try clear hcz40_0 hcz40_1 hfz40_0 hfz40_1
       try clear hcz38_0 hcz38_1 hcz38_2 hfz38_0 hfz38_1 hfz38_2
       try clear hcz35_0 hcz35_1 hcz35_2 hfz35_0 hfz35_1 hfz35_2
       try clear hcz27_0 hcz27_1 hfz27_0 hfz27_1
       try clear hcz16_0 hcz16_1 hcz16_2 hfz16_0 hfz16_1 hfz16_2
       try clear hcz10_0 hcz10_1 hcz10_2 hfz10_0 hfz10_1 hfz10_2
       try clear p2
       try clear p6
       obtain ⟨x10_3, x287000_3, x287001_3, x287002_3, x292002_3, u292002, rfl, HA, HK3, HO_292001, HO_292002, BK285, BK291, BK286, HB⟩ := hrel
       cases gk with
       | zero => exact absurd HA.out (by simp [payload_Decode.l2])
       | succ k3 =>
        have H := HA.out
        clear HA
        simp only [payload_Decode.l2] at H
        have HC70 := Aside0.mk H
        clear H
        go_upto_region 13 with (fail)
        go_cut [73] (fun v73 wc => ∃ (kq : Nat) (x73_69 : Bool), v73 = .bool x73_69 ∧ Aside0 (payload_Decode.j4 kq x10_3 x73_69 x287000_3 x287001_3 x287002_3 t287 x292001_1 x292002_3 = some (r1, r2, r3, r4, r5)) ∧ Aside0 (kq ≤ k3) ∧ Aside0 (Kd.S k59 59 wc w.heap.size (fun _ => True) u292001 x292001_1) ∧ Aside0 (Kd.R k61 61 wc w.heap.size (fun _ => True) u292002 x292002_3) ∧ Aside0 (wc.heap[gb285]? = some (.cells #[.int .i64 0, (.slice none 0 0), (.slice none 0 0)] 25 (0, 0))) ∧ Aside0 (wc.heap[gb291]? = some (.cells #[.int .i64 t287, u292001, u292002] 25 (0, 0))) ∧ Aside0 (wc.heap[gb286]? = some (.cells #[.string x287000_3, .int .i64 x287001_3, .bool x287002_3] 78 (0, 0))) ∧ Aside0 (Below w.heap.size w wc))
        case first =>
         have H := HC70.out
         clear HC70
         by_cases c71 : x10_3 > 0
         ·rw [if_pos c71] at H
          have c71b0 : decide (0 < x10_3) = true := decide_eq_true c71
          clear c71
          (first | rw [c71b0] | (simp only [i64_w, i32_w]; rw [c71b0]) | skip)
          have H' := Aside0.mk H
          clear H
          have hnb72 := NB286_285.out
          have hnc72 := NB285_286.out
          have hnb73 := NB286_291.out
          have hnc73 := NB291_286.out
          obtain ⟨hcz74_0, hcz74_1, hcz74_2, hfz74_0, hfz74_1, hfz74_2⟩ := cz3 BK286.out
          go_wp2
          go_meet
          case rel => exact ⟨_, (!x287002_3), hsr, H', ⟨by have := HK1.out; have := HJ11.out; have := HK3.out; first | omega | exact Nat.le_refl _⟩, ⟨pS HO_292001.out⟩, ⟨pR HO_292002.out⟩, ⟨pk BK285.out⟩, ⟨pk BK291.out⟩, ⟨pk BK286.out⟩, ⟨bl HB.out⟩⟩
         ·rw [if_neg c71] at H
          have c71b0 : decide (0 < x10_3) = false := decide_eq_false c71
          clear c71
          (first | rw [c71b0] | (simp only [i64_w, i32_w]; rw [c71b0]) | skip)
          have H' := Aside0.mk H
          clear H
          go_wp2
          go_meet
          case rel => exact ⟨_, (false), hsr, H', ⟨by have := HK1.out; have := HJ11.out; have := HK3.out; first | omega | exact Nat.le_refl _⟩, ⟨pS HO_292001.out⟩, ⟨pR HO_292002.out⟩, ⟨pk BK285.out⟩, ⟨pk BK291.out⟩, ⟨pk BK286.out⟩, ⟨bl HB.out⟩⟩
        case rest =>
         clear HC70
         try clear c1
         try clear c2
         try clear p2
         try clear c3
         try clear c4
         try clear c5
         try clear c6
         try clear p6
         try clear c7
         try clear c8
         try clear c9
         try clear c13
         try clear c13b0
         try clear c14
         try clear c15
         try clear c17
         try clear c19
         try clear c24
         try clear c25
         try clear c26
         try clear c29
         try clear c29b0
         try clear c30
         try clear c31
         try clear c32
         try clear c33
         try clear c34
         try clear c36
         try clear c37
         try clear c39
         try clear c40
         try clear c46
         try clear c47
         try clear c48
         try clear c49
         try clear c56
         try clear c57
         try clear c58
         try clear c59
         try clear c61
         try clear c62
         try clear p64
         try clear c71
         try clear c71b0
         try clear c72
         try clear c73
         try clear hcz74_0 hcz74_1 hcz74_2 hfz74_0 hfz74_1 hfz74_2
         try clear hcz67_0 hcz67_1 hcz67_2 hfz67_0 hfz67_1 hfz67_2
         try clear hcz63_0 hcz63_1 hfz63_0 hfz63_1
         try clear hcz60_0 hcz60_1 hcz60_2 hfz60_0 hfz60_1 hfz60_2
         try clear hcz50_0 hcz50_1 hcz50_2 hfz50_0 hfz50_1 hfz50_2
         try clear hcz44_0 hcz44_1 hcz44_2 hfz44_0 hfz44_1 hfz44_2
         try clear hcz40_0 hcz40_1 hfz40_0 hfz40_1
         try clear hcz38_0 hcz38_1 hcz38_2 hfz38_0 hfz38_1 hfz38_2
         try clear hcz35_0 hcz35_1 hcz35_2 hfz35_0 hfz35_1 hfz35_2
         try clear hcz27_0 hcz27_1 hfz27_0 hfz27_1
         try clear hcz16_0 hcz16_1 hcz16_2 hfz16_0 hfz16_1 hfz16_2
         try clear hcz10_0 hcz10_1 hcz10_2 hfz10_0 hfz10_1 hfz10_2
         try clear p2
         try clear p6
         try clear p64
         obtain ⟨kq, x73_69, rfl, HA, HJ69, HO_292001, HO_292002, BK285, BK291, BK286, HB⟩ := hcut
         cases kq with
         | zero => exact absurd HA.out (by simp [payload_Decode.j4])
         | succ kj69 =>
          have H := HA.out
          clear HA
          simp only [payload_Decode.j4] at H
          by_cases c75 : x73_69 = true
          ·subst c75
           have H1 : ((payload_taker_number.f kj69 x287000_3 x287001_3 x287002_3 1).bind fun bt327 => ((payload_taker_text.f bt327.2.1 bt327.2.2.1 bt327.2.2.2 bt327.1).bind fun bt331 => ((payload_taker_number.f kj69 bt331.2.1 bt331.2.2.1 bt331.2.2.2 1).bind fun bt336 => (if bt336.1 < 1 then (payload_Decode.j5 kj69 x10_3 true bt336.2.1 bt336.2.2.1 bt336.2.2.2 t287 x292001_1 x292002_3 bt331.1 bt336.1 0 (⟨#[]⟩ : ByteArray)) else (payload_Decode.j5 kj69 x10_3 (decide (bt336.1 > 3)) bt336.2.1 bt336.2.2.1 bt336.2.2.2 t287 x292001_1 x292002_3 bt331.1 bt336.1 0 (⟨#[]⟩ : ByteArray)))))) = some (r1, r2, r3, r4, r5) := by rw [if_pos rfl] at H; exact H
           clear H
           have H := H1
           clear H1
           replace H := Option.bind_eq_some_iff.mp H
           obtain ⟨⟨t327, t328, t329, t330⟩, A760, H⟩ := H
           replace H : ((payload_taker_text.f t328 t329 t330 t327).bind fun bt331 => ((payload_taker_number.f kj69 bt331.2.1 bt331.2.2.1 bt331.2.2.2 1).bind fun bt336 => (if bt336.1 < 1 then (payload_Decode.j5 kj69 x10_3 true bt336.2.1 bt336.2.2.1 bt336.2.2.2 t287 x292001_1 x292002_3 bt331.1 bt336.1 0 (⟨#[]⟩ : ByteArray)) else (payload_Decode.j5 kj69 x10_3 (decide (bt336.1 > 3)) bt336.2.1 bt336.2.2.1 bt336.2.2.2 t287 x292001_1 x292002_3 bt331.1 bt336.1 0 (⟨#[]⟩ : ByteArray))))) = some (r1, r2, r3, r4, r5) := H
           have A76 := Aside0.mk A760
           clear A760
           replace H := Option.bind_eq_some_iff.mp H
           obtain ⟨⟨t331, t332, t333, t334⟩, A770, H⟩ := H
           replace H : ((payload_taker_number.f kj69 t332 t333 t334 1).bind fun bt336 => (if bt336.1 < 1 then (payload_Decode.j5 kj69 x10_3 true bt336.2.1 bt336.2.2.1 bt336.2.2.2 t287 x292001_1 x292002_3 t331 bt336.1 0 (⟨#[]⟩ : ByteArray)) else (payload_Decode.j5 kj69 x10_3 (decide (bt336.1 > 3)) bt336.2.1 bt336.2.2.1 bt336.2.2.2 t287 x292001_1 x292002_3 t331 bt336.1 0 (⟨#[]⟩ : ByteArray)))) = some (r1, r2, r3, r4, r5) := H
           have A77 := Aside0.mk A770
           clear A770
           replace H := Option.bind_eq_some_iff.mp H
           obtain ⟨⟨t336, t337, t338, t339⟩, A780, H⟩ := H
           replace H : (if t336 < 1 then (payload_Decode.j5 kj69 x10_3 true t337 t338 t339 t287 x292001_1 x292002_3 t331 t336 0 (⟨#[]⟩ : ByteArray)) else (payload_Decode.j5 kj69 x10_3 (decide (t336 > 3)) t337 t338 t339 t287 x292001_1 x292002_3 t331 t336 0 (⟨#[]⟩ : ByteArray))) = some (r1, r2, r3, r4, r5) := H
           have A78 := Aside0.mk A780
           clear A780
           have HC79 := Aside0.mk H
           clear H
           go_upto_region 17 with (first | ((with_reducible refine gate_callee (f := 39) rfl ?_); refine goesL_ (some 78) rfl rfl Tryd.func39 kr rfl #[.pointer (some ⟨gb286, 0, none⟩), .int .i64 1] rfl ga ?_; (with_reducible refine (payload_taker_number.calls kj69 gb286 x287000_3 x287001_3 x287002_3 1 t327 t328 t329 t330 w _ ?side1 ?side2 A76.out).mono ?_); (case side1 => exact ⟨pk BK286.out, GE286.out⟩); (case side2 => exact bl HB.out); rintro e w80 ⟨rfl, hi, hb, hk⟩; refine ⟨_, rfl, ?_⟩; replace HO_292001 := Aside0.mk (Kd.S_mono (Kd.S_keep (IsS78.apartS (show IsS78 w _ gb286 x287000_3 x287001_3 x287002_3 from by repeat (first | (with_reducible first | exact (Aside0.mk (⟨BK286.out, GE286.out⟩ : IsS78 w _ gb286 x287000_3 x287001_3 x287002_3)).out | apply IsS78.alloc | apply IsS78.drewN | apply IsS78.drew | apply IsS78.set_0 | apply IsS78.set_1 | apply IsS78.set_2 | refine IsS78.far ?_ NB286_285.out _ | refine IsS78.far ?_ NB286_291.out _) | exact (Aside0.mk (⟨BK286.out, GE286.out⟩ : IsS78 w _ gb286 x287000_3 x287001_3 x287002_3)).out)) (pS HO_292001.out) (by decide)) hk (fun _ h => h.2)) (fun _ h => h.1)); replace HO_292002 := Aside0.mk (Kd.R_mono (Kd.R_keep (IsS78.apart (show IsS78 w _ gb286 x287000_3 x287001_3 x287002_3 from by repeat (first | (with_reducible first | exact (Aside0.mk (⟨BK286.out, GE286.out⟩ : IsS78 w _ gb286 x287000_3 x287001_3 x287002_3)).out | apply IsS78.alloc | apply IsS78.drewN | apply IsS78.drew | apply IsS78.set_0 | apply IsS78.set_1 | apply IsS78.set_2 | refine IsS78.far ?_ NB286_285.out _ | refine IsS78.far ?_ NB286_291.out _) | exact (Aside0.mk (⟨BK286.out, GE286.out⟩ : IsS78 w _ gb286 x287000_3 x287001_3 x287002_3)).out)) (pR HO_292002.out) (by decide)) hk (fun _ h => h.2)) (fun _ h => h.1)); replace BK285 := Aside0.mk (KeepBut.blk hk (g' := gb285) (o := .cells #[.int .i64 0, .slice none 0 0, .slice none 0 0] 25 (0, 0)) (pk BK285.out) NB285_286.out (by simp)); replace BK291 := Aside0.mk (KeepBut.blk hk (g' := gb291) (o := .cells #[.int .i64 t287, u292001, u292002] 25 (0, 0)) (pk BK291.out) NB291_286.out (by simp)); replace HB := Aside0.mk (hb); replace BK286 := Aside0.mk (hi.1); (try clear hb); (try clear hb2); (try clear hk); (try clear hi)) | ((with_reducible refine gate_callee (f := 40) rfl ?_); refine goesL_ (some 79) rfl rfl Tryd.func40 kr rfl #[.pointer (some ⟨gb286, 0, none⟩), .int .i64 t327] rfl ga ?_; (with_reducible refine (payload_taker_text.calls gb286 t328 t329 t330 t327 t331 t332 t333 t334 w _ ?side1 ?side2 A77.out).mono ?_); (case side1 => exact ⟨pk BK286.out, GE286.out⟩); (case side2 => exact bl HB.out); rintro e w81 ⟨rfl, hi, hb, hk⟩; refine ⟨_, rfl, ?_⟩; replace HO_292001 := Aside0.mk (Kd.S_mono (Kd.S_keep (IsS78.apartS (show IsS78 w _ gb286 t328 t329 t330 from by repeat (first | (with_reducible first | exact (Aside0.mk (⟨BK286.out, GE286.out⟩ : IsS78 w _ gb286 t328 t329 t330)).out | apply IsS78.alloc | apply IsS78.drewN | apply IsS78.drew | apply IsS78.set_0 | apply IsS78.set_1 | apply IsS78.set_2 | refine IsS78.far ?_ NB286_285.out _ | refine IsS78.far ?_ NB286_291.out _) | exact (Aside0.mk (⟨BK286.out, GE286.out⟩ : IsS78 w _ gb286 t328 t329 t330)).out)) (pS HO_292001.out) (by decide)) hk (fun _ h => h.2)) (fun _ h => h.1)); replace HO_292002 := Aside0.mk (Kd.R_mono (Kd.R_keep (IsS78.apart (show IsS78 w _ gb286 t328 t329 t330 from by repeat (first | (with_reducible first | exact (Aside0.mk (⟨BK286.out, GE286.out⟩ : IsS78 w _ gb286 t328 t329 t330)).out | apply IsS78.alloc | apply IsS78.drewN | apply IsS78.drew | apply IsS78.set_0 | apply IsS78.set_1 | apply IsS78.set_2 | refine IsS78.far ?_ NB286_285.out _ | refine IsS78.far ?_ NB286_291.out _) | exact (Aside0.mk (⟨BK286.out, GE286.out⟩ : IsS78 w _ gb286 t328 t329 t330)).out)) (pR HO_292002.out) (by decide)) hk (fun _ h => h.2)) (fun _ h => h.1)); replace BK285 := Aside0.mk (KeepBut.blk hk (g' := gb285) (o := .cells #[.int .i64 0, .slice none 0 0, .slice none 0 0] 25 (0, 0)) (pk BK285.out) NB285_286.out (by simp)); replace BK291 := Aside0.mk (KeepBut.blk hk (g' := gb291) (o := .cells #[.int .i64 t287, u292001, u292002] 25 (0, 0)) (pk BK291.out) NB291_286.out (by simp)); replace HB := Aside0.mk (hb); replace BK286 := Aside0.mk (hi.1); (try clear hb); (try clear hb2); (try clear hk); (try clear hi)) | ((with_reducible refine gate_dst (N := 11) rfl ?_); refine box_event ?hg (N := 11) ?hd (cs := #[.string (⟨#[]⟩ : ByteArray), .int .i64 0, .int .i64 0, .string (⟨#[]⟩ : ByteArray)]) (t := 61) ?hr ?_; (case hd => rfl); (case hg => rfl); (case hr => first | (go_simp; done) | (go_simp; rfl)); intro gb335 hg w82 hbox hb; replace HO_292001 := Aside0.mk (Kd.S_below (pS HO_292001.out) hb); replace HO_292002 := Aside0.mk (Kd.R_below (Kd.R_elderB (pR HO_292002.out) gb335 (Nat.le_of_eq hg.symm)) hb); have BK335 := Aside0.mk (hbox); have GW335 := Aside0.mk (gs (w := w) hg (bl HB.out)); have GE335 := Aside0.mk (gs (w := w) hg (bl HB.out)); replace HB := Aside0.mk (below_step (bl HB.out) hb); have NB285_335 := Aside0.mk ((gl (g := gb285) hg (pk BK285.out))); have NB335_285 := Aside0.mk ((gm (g := gb285) hg (pk BK285.out))); replace BK285 := Aside0.mk (blk_below (pk BK285.out) hb); have NB291_335 := Aside0.mk ((gl (g := gb291) hg (pk BK291.out))); have NB335_291 := Aside0.mk ((gm (g := gb291) hg (pk BK291.out))); replace BK291 := Aside0.mk (blk_below (pk BK291.out) hb); have NB286_335 := Aside0.mk ((gl (g := gb286) hg (pk BK286.out))); have NB335_286 := Aside0.mk ((gm (g := gb286) hg (pk BK286.out))); replace BK286 := Aside0.mk (blk_below (pk BK286.out) hb); clear hb hbox hg; have hnb83 := NB335_285.out; have hnc83 := NB285_335.out; have hnb84 := NB335_291.out; have hnc84 := NB291_335.out; have hnb85 := NB335_286.out; have hnc85 := NB286_335.out; obtain ⟨hcz86_0, hcz86_1, hcz86_2, hcz86_3, hfz86_0, hfz86_1, hfz86_2, hfz86_3⟩ := cz4 BK335.out) | ((with_reducible refine gate_callee (f := 39) rfl ?_); refine goesL_ (some 82) rfl rfl Tryd.func39 kr rfl #[.pointer (some ⟨gb286, 0, none⟩), .int .i64 1] rfl ga ?_; (with_reducible refine (payload_taker_number.calls kj69 gb286 t332 t333 t334 1 t336 t337 t338 t339 w _ ?side1 ?side2 A78.out).mono ?_); (case side1 => exact ⟨by refine pk ?_; refine blk_far ?_ NB286_335.out _; refine pk ?_; refine blk_far ?_ NB286_335.out _; refine pk ?_; refine blk_far ?_ NB286_335.out _; refine pk ?_; refine blk_far ?_ NB286_335.out _; exact pk BK286.out, GE286.out⟩); (case side2 => exact bl HB.out); rintro e w87 ⟨rfl, hi, hb, hk⟩; refine ⟨_, rfl, ?_⟩; replace HO_292001 := Aside0.mk (Kd.S_mono (Kd.S_keep (IsS78.apartS (show IsS78 w _ gb286 t332 t333 t334 from by repeat (first | (with_reducible first | exact (Aside0.mk (⟨BK286.out, GE286.out⟩ : IsS78 w _ gb286 t332 t333 t334)).out | apply IsS78.alloc | apply IsS78.drewN | apply IsS78.drew | apply IsS78.set_0 | apply IsS78.set_1 | apply IsS78.set_2 | refine IsS78.far ?_ NB286_285.out _ | refine IsS78.far ?_ NB286_291.out _ | refine IsS78.far ?_ NB286_335.out _) | exact (Aside0.mk (⟨BK286.out, GE286.out⟩ : IsS78 w _ gb286 t332 t333 t334)).out)) (by (with_reducible repeat (first | apply Kd.S_alloc | apply Kd.S_drewN | apply Kd.S_drew)); exact (Kd.S_mono (Kd.S_far (p := ⟨gb335, 3, none⟩) (Kd.S_far (p := ⟨gb335, 2, none⟩) (Kd.S_far (p := ⟨gb335, 1, none⟩) (Kd.S_far (p := ⟨gb335, 0, none⟩) (Kd.S_types HO_292001.out BK335.out (by decide)) (fun _ hk => hk.2) (.string t331)) (fun _ hk => hk.2) (.int .i64 0)) (fun _ hk => hk.2) (.int .i64 0)) (fun _ hk => hk.2) (.string (⟨#[]⟩ : ByteArray))) (fun _ h_ => h_.1))) (by decide)) hk (fun _ h => h.2)) (fun _ h => h.1)); replace HO_292002 := Aside0.mk (Kd.R_mono (Kd.R_keep (IsS78.apart (show IsS78 w _ gb286 t332 t333 t334 from by repeat (first | (with_reducible first | exact (Aside0.mk (⟨BK286.out, GE286.out⟩ : IsS78 w _ gb286 t332 t333 t334)).out | apply IsS78.alloc | apply IsS78.drewN | apply IsS78.drew | apply IsS78.set_0 | apply IsS78.set_1 | apply IsS78.set_2 | refine IsS78.far ?_ NB286_285.out _ | refine IsS78.far ?_ NB286_291.out _ | refine IsS78.far ?_ NB286_335.out _) | exact (Aside0.mk (⟨BK286.out, GE286.out⟩ : IsS78 w _ gb286 t332 t333 t334)).out)) (by (with_reducible repeat (first | apply Kd.R_alloc | apply Kd.R_drewN | apply Kd.R_drew)); exact (Kd.R_mono (Kd.R_far (p := ⟨gb335, 3, none⟩) (Kd.R_far (p := ⟨gb335, 2, none⟩) (Kd.R_far (p := ⟨gb335, 1, none⟩) (Kd.R_far (p := ⟨gb335, 0, none⟩) (Kd.R_mono HO_292002.out (fun k_ hk => (⟨hk, hk.2⟩ : _ ∧ k_ ≠ gb335))) (fun _ hk => hk.2) (.string t331)) (fun _ hk => hk.2) (.int .i64 0)) (fun _ hk => hk.2) (.int .i64 0)) (fun _ hk => hk.2) (.string (⟨#[]⟩ : ByteArray))) (fun _ h_ => h_.1))) (by decide)) hk (fun _ h => h.2)) (fun _ h => h.1)); replace BK285 := Aside0.mk (KeepBut.blk hk (g' := gb285) (o := .cells #[.int .i64 0, .slice none 0 0, .slice none 0 0] 25 (0, 0)) (by refine pk ?_; refine blk_far ?_ NB285_335.out _; refine pk ?_; refine blk_far ?_ NB285_335.out _; refine pk ?_; refine blk_far ?_ NB285_335.out _; refine pk ?_; refine blk_far ?_ NB285_335.out _; exact pk BK285.out) NB285_286.out (by simp)); replace BK291 := Aside0.mk (KeepBut.blk hk (g' := gb291) (o := .cells #[.int .i64 t287, u292001, u292002] 25 (0, 0)) (by refine pk ?_; refine blk_far ?_ NB291_335.out _; refine pk ?_; refine blk_far ?_ NB291_335.out _; refine pk ?_; refine blk_far ?_ NB291_335.out _; refine pk ?_; refine blk_far ?_ NB291_335.out _; exact pk BK291.out) NB291_286.out (by simp)); replace BK335 := Aside0.mk (KeepBut.blk hk (g' := gb335) (o := .cells #[.string t331, .int .i64 0, .int .i64 0, .string (⟨#[]⟩ : ByteArray)] 61 (0, 0)) (by refine pk ?_; refine blk_put (cs := #[.string t331, .int .i64 0, .int .i64 0, .string (⟨#[]⟩ : ByteArray)]) ?_ 3 _ rfl; refine pk ?_; refine blk_put (cs := #[.string t331, .int .i64 0, .int .i64 0, .string (⟨#[]⟩ : ByteArray)]) ?_ 2 _ rfl; refine pk ?_; refine blk_put (cs := #[.string t331, .int .i64 0, .int .i64 0, .string (⟨#[]⟩ : ByteArray)]) ?_ 1 _ rfl; refine pk ?_; refine blk_put (cs := #[.string (⟨#[]⟩ : ByteArray), .int .i64 0, .int .i64 0, .string (⟨#[]⟩ : ByteArray)]) ?_ 0 _ rfl; exact pk BK335.out) NB335_286.out (by simp)); replace HB := Aside0.mk (hb); replace BK286 := Aside0.mk (hi.1); (try clear hb); (try clear hb2); (try clear hk); (try clear hi); obtain ⟨hcz88_0, hcz88_1, hcz88_2, hcz88_3, hfz88_0, hfz88_1, hfz88_2, hfz88_3⟩ := cz4 BK335.out))
           (try simp only [Act.put, List.setIfInBounds_toArray, List.set_cons_zero, List.set_cons_succ])
           go_cut [94] (fun v94 wc => ∃ (kq : Nat) (x94_78 : Bool), v94 = .bool x94_78 ∧ Aside0 (payload_Decode.j5 kq x10_3 x94_78 t337 t338 t339 t287 x292001_1 x292002_3 t331 t336 0 (⟨#[]⟩ : ByteArray) = some (r1, r2, r3, r4, r5)) ∧ Aside0 (kq ≤ kj69) ∧ Aside0 (Kd.S k59 59 wc w.heap.size (fun _ => True) u292001 x292001_1) ∧ Aside0 (Kd.R k61 61 wc w.heap.size (fun k_ => k_ ≠ gb335) u292002 x292002_3) ∧ Aside0 (wc.heap[gb285]? = some (.cells #[.int .i64 0, (.slice none 0 0), (.slice none 0 0)] 25 (0, 0))) ∧ Aside0 (wc.heap[gb291]? = some (.cells #[.int .i64 t287, u292001, u292002] 25 (0, 0))) ∧ Aside0 (wc.heap[gb335]? = some (.cells #[.string t331, .int .i64 t336, .int .i64 0, .string (⟨#[]⟩ : ByteArray)] 61 (0, 0))) ∧ Aside0 (wc.heap[gb286]? = some (.cells #[.string t337, .int .i64 t338, .bool t339] 78 (0, 0))) ∧ Aside0 (Below w.heap.size w wc))
           case first =>
            have H := HC79.out
            clear HC79
            by_cases c89 : t336 < 1
            ·rw [if_pos c89] at H
             have c89b0 : decide (t336 < 1) = true := decide_eq_true c89
             clear c89
             (first | rw [c89b0] | (simp only [i64_w, i32_w]; rw [c89b0]) | skip)
             have H' := Aside0.mk H
             clear H
             have hnb90 := NB335_285.out
             have hnc90 := NB285_335.out
             have hnb91 := NB335_291.out
             have hnc91 := NB291_335.out
             have hnb92 := NB335_286.out
             have hnc92 := NB286_335.out
             obtain ⟨hcz93_0, hcz93_1, hcz93_2, hcz93_3, hfz93_0, hfz93_1, hfz93_2, hfz93_3⟩ := cz4 BK335.out
             go_wp2
             go_meet
             case rel => exact ⟨_, (true), hsr, H', ⟨by have := HK1.out; have := HJ11.out; have := HK3.out; have := HJ69.out; first | omega | exact Nat.le_refl _⟩, ⟨by (with_reducible repeat (first | apply Kd.S_alloc | apply Kd.S_drewN | apply Kd.S_drew)); exact Kd.S_mono (Kd.S_far (p := ⟨gb335, 1, none⟩) (Kd.S_types HO_292001.out BK335.out (by decide)) (fun _ hk => hk.2) (.int .i64 t336)) (fun _ hk => trivial)⟩, ⟨by (with_reducible repeat (first | apply Kd.R_alloc | apply Kd.R_drewN | apply Kd.R_drew)); exact Kd.R_mono (Kd.R_far (p := ⟨gb335, 1, none⟩) (Kd.R_mono HO_292002.out (fun k_ hk => (⟨hk, hk.2⟩ : _ ∧ k_ ≠ gb335))) (fun _ hk => hk.2) (.int .i64 t336)) (fun _ hk => hk.1.2)⟩, ⟨by refine pk ?_; refine blk_far ?_ NB285_335.out _; exact pk BK285.out⟩, ⟨by refine pk ?_; refine blk_far ?_ NB291_335.out _; exact pk BK291.out⟩, ⟨by refine pk ?_; refine blk_put (cs := #[.string t331, .int .i64 0, .int .i64 0, .string (⟨#[]⟩ : ByteArray)]) ?_ 1 _ rfl; exact pk BK335.out⟩, ⟨by refine pk ?_; refine blk_far ?_ NB286_335.out _; exact pk BK286.out⟩, ⟨bl HB.out⟩⟩
            ·rw [if_neg c89] at H
             have c89b0 : decide (t336 < 1) = false := decide_eq_false c89
             clear c89
             (first | rw [c89b0] | (simp only [i64_w, i32_w]; rw [c89b0]) | skip)
             have H' := Aside0.mk H
             clear H
             have hnb94 := NB335_285.out
             have hnc94 := NB285_335.out
             have hnb95 := NB335_291.out
             have hnc95 := NB291_335.out
             have hnb96 := NB335_286.out
             have hnc96 := NB286_335.out
             obtain ⟨hcz97_0, hcz97_1, hcz97_2, hcz97_3, hfz97_0, hfz97_1, hfz97_2, hfz97_3⟩ := cz4 BK335.out
             go_wp2
             go_meet
             case rel => exact ⟨_, (decide (t336 > 3)), hsr, H', ⟨by have := HK1.out; have := HJ11.out; have := HK3.out; have := HJ69.out; first | omega | exact Nat.le_refl _⟩, ⟨by (with_reducible repeat (first | apply Kd.S_alloc | apply Kd.S_drewN | apply Kd.S_drew)); exact Kd.S_mono (Kd.S_far (p := ⟨gb335, 1, none⟩) (Kd.S_types HO_292001.out BK335.out (by decide)) (fun _ hk => hk.2) (.int .i64 t336)) (fun _ hk => trivial)⟩, ⟨by (with_reducible repeat (first | apply Kd.R_alloc | apply Kd.R_drewN | apply Kd.R_drew)); exact Kd.R_mono (Kd.R_far (p := ⟨gb335, 1, none⟩) (Kd.R_mono HO_292002.out (fun k_ hk => (⟨hk, hk.2⟩ : _ ∧ k_ ≠ gb335))) (fun _ hk => hk.2) (.int .i64 t336)) (fun _ hk => hk.1.2)⟩, ⟨by refine pk ?_; refine blk_far ?_ NB285_335.out _; exact pk BK285.out⟩, ⟨by refine pk ?_; refine blk_far ?_ NB291_335.out _; exact pk BK291.out⟩, ⟨by refine pk ?_; refine blk_put (cs := #[.string t331, .int .i64 0, .int .i64 0, .string (⟨#[]⟩ : ByteArray)]) ?_ 1 _ rfl; exact pk BK335.out⟩, ⟨by refine pk ?_; refine blk_far ?_ NB286_335.out _; exact pk BK286.out⟩, ⟨bl HB.out⟩⟩
           case rest =>
            clear HC79
            try clear c1
            try clear c2
            try clear p2
            try clear c3
            try clear c4
            try clear c5
            try clear c6
            try clear p6
            try clear c7
            try clear c8
            try clear c9
            try clear c13
            try clear c13b0
            try clear c14
            try clear c15
            try clear c17
            try clear c19
            try clear c24
            try clear c25
            try clear c26
            try clear c29
            try clear c29b0
            try clear c30
            try clear c31
            try clear c32
            try clear c33
            try clear c34
            try clear c36
            try clear c37
            try clear c39
            try clear c40
            try clear c46
            try clear c47
            try clear c48
            try clear c49
            try clear c56
            try clear c57
            try clear c58
            try clear c59
            try clear c61
            try clear c62
            try clear p64
            try clear c71
            try clear c71b0
            try clear c72
            try clear c73
            try clear c75
            try clear c83
            try clear c84
            try clear c85
            try clear c89
            try clear c89b0
            try clear c90
            try clear c91
            try clear c92
            try clear c94
            try clear c95
            try clear c96
            try clear hcz97_0 hcz97_1 hcz97_2 hcz97_3 hfz97_0 hfz97_1 hfz97_2 hfz97_3
            try clear hcz93_0 hcz93_1 hcz93_2 hcz93_3 hfz93_0 hfz93_1 hfz93_2 hfz93_3
            try clear hcz88_0 hcz88_1 hcz88_2 hcz88_3 hfz88_0 hfz88_1 hfz88_2 hfz88_3
            try clear hcz86_0 hcz86_1 hcz86_2 hcz86_3 hfz86_0 hfz86_1 hfz86_2 hfz86_3
            try clear hcz74_0 hcz74_1 hcz74_2 hfz74_0 hfz74_1 hfz74_2
            try clear hcz67_0 hcz67_1 hcz67_2 hfz67_0 hfz67_1 hfz67_2
            try clear hcz63_0 hcz63_1 hfz63_0 hfz63_1
            try clear hcz60_0 hcz60_1 hcz60_2 hfz60_0 hfz60_1 hfz60_2
            try clear hcz50_0 hcz50_1 hcz50_2 hfz50_0 hfz50_1 hfz50_2
            try clear hcz44_0 hcz44_1 hcz44_2 hfz44_0 hfz44_1 hfz44_2
            try clear hcz40_0 hcz40_1 hfz40_0 hfz40_1
            try clear hcz38_0 hcz38_1 hcz38_2 hfz38_0 hfz38_1 hfz38_2
            try clear hcz35_0 hcz35_1 hcz35_2 hfz35_0 hfz35_1 hfz35_2
            try clear hcz27_0 hcz27_1 hfz27_0 hfz27_1
            try clear hcz16_0 hcz16_1 hcz16_2 hfz16_0 hfz16_1 hfz16_2
            try clear hcz10_0 hcz10_1 hcz10_2 hfz10_0 hfz10_1 hfz10_2
            try clear p2
            try clear p6
            try clear p64
            obtain ⟨kq, x94_78, rfl, HA, HJ78, HO_292001, HO_292002, BK285, BK291, BK335, BK286, HB⟩ := hcut
            cases kq with
            | zero => exact absurd HA.out (by simp [payload_Decode.j5])
            | succ kj78 =>
             have H := HA.out
             clear HA
             simp only [payload_Decode.j5] at H
             by_cases c98 : x94_78 = true
             ·subst c98
              have H1 : (some (0, ([] : List (S59)), ([] : List (S61)), 0, 52)) = some (r1, r2, r3, r4, r5) := by rw [if_pos rfl] at H; exact H
              clear H
              have H := H1
              clear H1
              simp only [Option.some.injEq, Prod.mk.injEq] at H
              obtain ⟨rfl, rfl, rfl, rfl, rfl⟩ := H
              have hnb99 := NB286_285.out
              have hnc99 := NB285_286.out
              have hnb100 := NB286_291.out
              have hnc100 := NB291_286.out
              have hnb101 := NB286_335.out
              have hnc101 := NB335_286.out
              obtain ⟨hcz102_0, hcz102_1, hcz102_2, hfz102_0, hfz102_1, hfz102_2⟩ := cz3 BK286.out
              have hnb103 := NB285_291.out
              have hnc103 := NB291_285.out
              have hnb104 := NB285_335.out
              have hnc104 := NB335_285.out
              obtain ⟨hcz105_0, hcz105_1, hcz105_2, hfz105_0, hfz105_1, hfz105_2⟩ := cz3 BK285.out
              go_wp2
              refine bodyPost_ret (results_ctt rfl _ _ gb285 25 #[.int .i64 0, .slice none 0 0, .slice none 0 0] (0, 0) _ rfl (by refine pk ?_; refine blk_put (cs := #[.int .i64 0, .slice none 0 0, .slice none 0 0]) ?_ 2 _ rfl; refine pk ?_; refine blk_put (cs := #[.int .i64 0, .slice none 0 0, .slice none 0 0]) ?_ 1 _ rfl; refine pk ?_; refine blk_put (cs := #[.int .i64 0, .slice none 0 0, .slice none 0 0]) ?_ 0 _ rfl; refine pk ?_; refine blk_far ?_ NB285_286.out _; exact pk BK285.out) Tryd.underlying25 rfl kr) rfl ?_
              exact ⟨_, _, er0, by first | exact Kd.S_nil _ _ _ _ _ | exact Kd.N_nil _ _ _ _ _ | exact Kd.V_nil _ _ _ _ _ | exact Kd.Q_nil _ _ _ _ _ | exact Kd.R_nil _ _ _ _ _, by first | exact Kd.R_nil _ _ _ _ _ | exact Kd.N_nil _ _ _ _ _ | exact Kd.V_nil _ _ _ _ _ | exact Kd.Q_nil _ _ _ _ _ | exact Kd.S_nil _ _ _ _ _, bl HB.out⟩
             ·replace c98 := Bool.eq_false_iff.mpr c98
              subst c98
              have H1 : ((payload_width.f t336).bind fun t340 => ((payload_taker_number.f kj78 t337 t338 t339 t340).bind fun bt341 => (if t336 = 2 then ((payload_taker_text.f bt341.2.1 bt341.2.2.1 bt341.2.2.2 bt341.1).bind fun bt345 => (if x292002_3.length < 2932031007402 then (payload_Decode.l2 kj78 (wrap64 (x10_3 - 1)) bt345.2.1 bt345.2.2.1 bt345.2.2.2 t287 x292001_1 (x292002_3 ++ [(⟨t331, (⟨t336, 0, bt345.1⟩ : S33)⟩ : S61)])) else (none))) else (if x292002_3.length < 2932031007402 then (payload_Decode.l2 kj78 (wrap64 (x10_3 - 1)) bt341.2.1 bt341.2.2.1 bt341.2.2.2 t287 x292001_1 (x292002_3 ++ [(⟨t331, (⟨t336, bt341.1, (⟨#[]⟩ : ByteArray)⟩ : S33)⟩ : S61)])) else (none))))) = some (r1, r2, r3, r4, r5) := by rw [if_neg (show ¬ (false = true) by decide)] at H; exact H
              clear H
              have H := H1
              clear H1
              replace H := Option.bind_eq_some_iff.mp H
              obtain ⟨t340, A1060, H⟩ := H
              replace H : ((payload_taker_number.f kj78 t337 t338 t339 t340).bind fun bt341 => (if t336 = 2 then ((payload_taker_text.f bt341.2.1 bt341.2.2.1 bt341.2.2.2 bt341.1).bind fun bt345 => (if x292002_3.length < 2932031007402 then (payload_Decode.l2 kj78 (wrap64 (x10_3 - 1)) bt345.2.1 bt345.2.2.1 bt345.2.2.2 t287 x292001_1 (x292002_3 ++ [(⟨t331, (⟨t336, 0, bt345.1⟩ : S33)⟩ : S61)])) else (none))) else (if x292002_3.length < 2932031007402 then (payload_Decode.l2 kj78 (wrap64 (x10_3 - 1)) bt341.2.1 bt341.2.2.1 bt341.2.2.2 t287 x292001_1 (x292002_3 ++ [(⟨t331, (⟨t336, bt341.1, (⟨#[]⟩ : ByteArray)⟩ : S33)⟩ : S61)])) else (none)))) = some (r1, r2, r3, r4, r5) := H
              have A106 := Aside0.mk A1060
              clear A1060
              replace H := Option.bind_eq_some_iff.mp H
              obtain ⟨⟨t341, t342, t343, t344⟩, A1070, H⟩ := H
              replace H : (if t336 = 2 then ((payload_taker_text.f t342 t343 t344 t341).bind fun bt345 => (if x292002_3.length < 2932031007402 then (payload_Decode.l2 kj78 (wrap64 (x10_3 - 1)) bt345.2.1 bt345.2.2.1 bt345.2.2.2 t287 x292001_1 (x292002_3 ++ [(⟨t331, (⟨t336, 0, bt345.1⟩ : S33)⟩ : S61)])) else (none))) else (if x292002_3.length < 2932031007402 then (payload_Decode.l2 kj78 (wrap64 (x10_3 - 1)) t342 t343 t344 t287 x292001_1 (x292002_3 ++ [(⟨t331, (⟨t336, t341, (⟨#[]⟩ : ByteArray)⟩ : S33)⟩ : S61)])) else (none))) = some (r1, r2, r3, r4, r5) := H
              have A107 := Aside0.mk A1070
              clear A1070
              by_cases c108 : t336 = 2
              ·rw [if_pos c108] at H
               have c108b0 : (t336 == 2) = true := beq_iff_eq.mpr c108
               have c108b1 : (t336 != 2) = false := bne_eq_false_iff_eq.mpr c108
               clear c108
               replace H := Option.bind_eq_some_iff.mp H
               obtain ⟨⟨t345, t346, t347, t348⟩, A1090, H⟩ := H
               replace H : (if x292002_3.length < 2932031007402 then (payload_Decode.l2 kj78 (wrap64 (x10_3 - 1)) t346 t347 t348 t287 x292001_1 (x292002_3 ++ [(⟨t331, (⟨t336, 0, t345⟩ : S33)⟩ : S61)])) else (none)) = some (r1, r2, r3, r4, r5) := H
               have A109 := Aside0.mk A1090
               clear A1090
               by_cases c110 : x292002_3.length < 2932031007402
               ·rw [if_pos c110] at H
                have LMc110 := Aside0.mk c110
                clear c110
                obtain ⟨y349, hy349⟩ : ∃ y_ : List (S61), y_ = (x292002_3 ++ [(⟨t331, (⟨t336, 0, t345⟩ : S33)⟩ : S61)]) := ⟨_, rfl⟩
                replace H : (payload_Decode.l2 kj78 (wrap64 (x10_3 - 1)) t346 t347 t348 t287 x292001_1 y349) = some (r1, r2, r3, r4, r5) := by first | (rw [hy349]; with_reducible exact H) | (have H2_ := (Option.bind_some _ _).symm.trans H; rw [hy349]; with_reducible exact H2_) | (have H2_ := (Option.bind_some _ _).symm.trans H; with_reducible exact H2_) | with_reducible exact H | (rw [hy349]; exact H) | exact H
                have Ny349 := Aside0.mk hy349
                clear hy349
                have H' := Aside0.mk H
                clear H
                have hnb111 := NB335_285.out
                have hnc111 := NB285_335.out
                have hnb112 := NB335_291.out
                have hnc112 := NB291_335.out
                have hnb113 := NB335_286.out
                have hnc113 := NB286_335.out
                obtain ⟨hcz114_0, hcz114_1, hcz114_2, hcz114_3, hfz114_0, hfz114_1, hfz114_2, hfz114_3⟩ := cz4 BK335.out
                go_wp2_with (first | ((with_reducible refine gate_callee (f := 32) rfl ?_); refine goesL_ (some 102) rfl rfl Tryd.func32 kr rfl #[.int .i64 t336] rfl ga ?_; (with_reducible refine (payload_width.calls t336 t340 _ A106.out).mono ?_); rintro e w' ⟨rfl, ⟨nd, rfl⟩⟩; refine ⟨_, rfl, ?_⟩; (try (rw [drewN_self wc]; generalize hq_ : World.drewN wc _ = wc; have n0_ : Aside0 (Kd.S k59 59 wc w.heap.size (fun _ => True) u292001 x292001_1) := ⟨by rw [← hq_]; exact (pS HO_292001.out)⟩; have n1_ : Aside0 (Kd.R k61 61 wc w.heap.size (fun k_ => k_ ≠ gb335) u292002 x292002_3) := ⟨by rw [← hq_]; exact (pR HO_292002.out)⟩; have n2_ : Aside0 (wc.heap[gb285]? = some (.cells #[.int .i64 0, .slice none 0 0, .slice none 0 0] 25 (0, 0))) := ⟨by rw [← hq_]; exact (pk BK285.out)⟩; have n3_ : Aside0 (wc.heap[gb286]? = some (.cells #[.string t337, .int .i64 t338, .bool t339] 78 (0, 0))) := ⟨by rw [← hq_]; exact (pk BK286.out)⟩; have n4_ : Aside0 (wc.heap[gb291]? = some (.cells #[.int .i64 t287, u292001, u292002] 25 (0, 0))) := ⟨by rw [← hq_]; exact (pk BK291.out)⟩; have n5_ : Aside0 (wc.heap[gb335]? = some (.cells #[.string t331, .int .i64 t336, .int .i64 0, .string (⟨#[]⟩ : ByteArray)] 61 (0, 0))) := ⟨by rw [← hq_]; exact (pk BK335.out)⟩; have n6_ : Aside0 (Below w.heap.size w wc) := ⟨by rw [← hq_]; exact (bl HB.out)⟩; clear HO_292001 HO_292002 BK285 BK286 BK291 BK335 HB hq_; have HO_292001 := n0_; have HO_292002 := n1_; have BK285 := n2_; have BK286 := n3_; have BK291 := n4_; have BK335 := n5_; have HB := n6_; clear n0_ n1_ n2_ n3_ n4_ n5_ n6_))) | ((with_reducible refine gate_callee (f := 39) rfl ?_); refine goesL_ (some 103) rfl rfl Tryd.func39 kr rfl #[.pointer (some ⟨gb286, 0, none⟩), .int .i64 t340] rfl ga ?_; (with_reducible refine (payload_taker_number.calls kj78 gb286 t337 t338 t339 t340 t341 t342 t343 t344 w _ ?side1 ?side2 A107.out).mono ?_); (case side1 => exact ⟨pk BK286.out, GE286.out⟩); (case side2 => exact bl HB.out); rintro e w115 ⟨rfl, hi, hb, hk⟩; refine ⟨_, rfl, ?_⟩; replace HO_292001 := Aside0.mk (Kd.S_mono (Kd.S_keep (IsS78.apartS (show IsS78 w _ gb286 t337 t338 t339 from by repeat (first | (with_reducible first | exact (Aside0.mk (⟨BK286.out, GE286.out⟩ : IsS78 w _ gb286 t337 t338 t339)).out | apply IsS78.alloc | apply IsS78.drewN | apply IsS78.drew | apply IsS78.set_0 | apply IsS78.set_1 | apply IsS78.set_2 | refine IsS78.far ?_ NB286_285.out _ | refine IsS78.far ?_ NB286_291.out _ | refine IsS78.far ?_ NB286_335.out _) | exact (Aside0.mk (⟨BK286.out, GE286.out⟩ : IsS78 w _ gb286 t337 t338 t339)).out)) (pS HO_292001.out) (by decide)) hk (fun _ h => h.2)) (fun _ h => h.1)); replace HO_292002 := Aside0.mk (Kd.R_mono (Kd.R_keep (IsS78.apart (show IsS78 w _ gb286 t337 t338 t339 from by repeat (first | (with_reducible first | exact (Aside0.mk (⟨BK286.out, GE286.out⟩ : IsS78 w _ gb286 t337 t338 t339)).out | apply IsS78.alloc | apply IsS78.drewN | apply IsS78.drew | apply IsS78.set_0 | apply IsS78.set_1 | apply IsS78.set_2 | refine IsS78.far ?_ NB286_285.out _ | refine IsS78.far ?_ NB286_291.out _ | refine IsS78.far ?_ NB286_335.out _) | exact (Aside0.mk (⟨BK286.out, GE286.out⟩ : IsS78 w _ gb286 t337 t338 t339)).out)) (pR HO_292002.out) (by decide)) hk (fun _ h => h.2)) (fun _ h => h.1)); replace BK285 := Aside0.mk (KeepBut.blk hk (g' := gb285) (o := .cells #[.int .i64 0, .slice none 0 0, .slice none 0 0] 25 (0, 0)) (pk BK285.out) NB285_286.out (by simp)); replace BK291 := Aside0.mk (KeepBut.blk hk (g' := gb291) (o := .cells #[.int .i64 t287, u292001, u292002] 25 (0, 0)) (pk BK291.out) NB291_286.out (by simp)); replace BK335 := Aside0.mk (KeepBut.blk hk (g' := gb335) (o := .cells #[.string t331, .int .i64 t336, .int .i64 0, .string (⟨#[]⟩ : ByteArray)] 61 (0, 0)) (pk BK335.out) NB335_286.out (by simp)); replace HB := Aside0.mk (hb); replace BK286 := Aside0.mk (hi.1); (try clear hb); (try clear hb2); (try clear hk); (try clear hi); obtain ⟨hcz116_0, hcz116_1, hcz116_2, hcz116_3, hfz116_0, hfz116_1, hfz116_2, hfz116_3⟩ := cz4 BK335.out) | ((with_reducible refine gate_callee (f := 40) rfl ?_); refine goesL_ (some 114) rfl rfl Tryd.func40 kr rfl #[.pointer (some ⟨gb286, 0, none⟩), .int .i64 t341] rfl ga ?_; (with_reducible refine (payload_taker_text.calls gb286 t342 t343 t344 t341 t345 t346 t347 t348 w _ ?side1 ?side2 A109.out).mono ?_); (case side1 => exact ⟨by refine pk ?_; refine blk_far ?_ NB286_335.out _; exact pk BK286.out, GE286.out⟩); (case side2 => exact bl HB.out); rintro e w117 ⟨rfl, hi, hb, hk⟩; refine ⟨_, rfl, ?_⟩; replace HO_292001 := Aside0.mk (Kd.S_mono (Kd.S_keep (IsS78.apartS (show IsS78 w _ gb286 t342 t343 t344 from by repeat (first | (with_reducible first | exact (Aside0.mk (⟨BK286.out, GE286.out⟩ : IsS78 w _ gb286 t342 t343 t344)).out | apply IsS78.alloc | apply IsS78.drewN | apply IsS78.drew | apply IsS78.set_0 | apply IsS78.set_1 | apply IsS78.set_2 | refine IsS78.far ?_ NB286_285.out _ | refine IsS78.far ?_ NB286_291.out _ | refine IsS78.far ?_ NB286_335.out _) | exact (Aside0.mk (⟨BK286.out, GE286.out⟩ : IsS78 w _ gb286 t342 t343 t344)).out)) (by (with_reducible repeat (first | apply Kd.S_alloc | apply Kd.S_drewN | apply Kd.S_drew)); exact (Kd.S_mono (Kd.S_far (p := ⟨gb335, 2, none⟩) (Kd.S_types HO_292001.out BK335.out (by decide)) (fun _ hk => hk.2) (.int .i64 t341)) (fun _ h_ => h_.1))) (by decide)) hk (fun _ h => h.2)) (fun _ h => h.1)); replace HO_292002 := Aside0.mk (Kd.R_mono (Kd.R_keep (IsS78.apart (show IsS78 w _ gb286 t342 t343 t344 from by repeat (first | (with_reducible first | exact (Aside0.mk (⟨BK286.out, GE286.out⟩ : IsS78 w _ gb286 t342 t343 t344)).out | apply IsS78.alloc | apply IsS78.drewN | apply IsS78.drew | apply IsS78.set_0 | apply IsS78.set_1 | apply IsS78.set_2 | refine IsS78.far ?_ NB286_285.out _ | refine IsS78.far ?_ NB286_291.out _ | refine IsS78.far ?_ NB286_335.out _) | exact (Aside0.mk (⟨BK286.out, GE286.out⟩ : IsS78 w _ gb286 t342 t343 t344)).out)) (by (with_reducible repeat (first | apply Kd.R_alloc | apply Kd.R_drewN | apply Kd.R_drew)); exact (Kd.R_mono (Kd.R_far (p := ⟨gb335, 2, none⟩) (Kd.R_mono HO_292002.out (fun k_ hk => (⟨hk, hk⟩ : _ ∧ k_ ≠ gb335))) (fun _ hk => hk.2) (.int .i64 t341)) (fun _ h_ => h_.1))) (by decide)) hk (fun _ h => h.2)) (fun _ h => h.1)); replace BK285 := Aside0.mk (KeepBut.blk hk (g' := gb285) (o := .cells #[.int .i64 0, .slice none 0 0, .slice none 0 0] 25 (0, 0)) (by refine pk ?_; refine blk_far ?_ NB285_335.out _; exact pk BK285.out) NB285_286.out (by simp)); replace BK291 := Aside0.mk (KeepBut.blk hk (g' := gb291) (o := .cells #[.int .i64 t287, u292001, u292002] 25 (0, 0)) (by refine pk ?_; refine blk_far ?_ NB291_335.out _; exact pk BK291.out) NB291_286.out (by simp)); replace BK335 := Aside0.mk (KeepBut.blk hk (g' := gb335) (o := .cells #[.string t331, .int .i64 t336, .int .i64 t341, .string (⟨#[]⟩ : ByteArray)] 61 (0, 0)) (by refine pk ?_; refine blk_put (cs := #[.string t331, .int .i64 t336, .int .i64 0, .string (⟨#[]⟩ : ByteArray)]) ?_ 2 _ rfl; exact pk BK335.out) NB335_286.out (by simp)); replace HB := Aside0.mk (hb); replace BK286 := Aside0.mk (hi.1); (try clear hb); (try clear hb2); (try clear hk); (try clear hi); obtain ⟨hcz118_0, hcz118_1, hcz118_2, hcz118_3, hfz118_0, hfz118_1, hfz118_2, hfz118_3⟩ := cz4 BK335.out; have hnb119 := NB291_285.out; have hnc119 := NB285_291.out; have hnb120 := NB291_286.out; have hnc120 := NB286_291.out; obtain ⟨hcz121_0, hcz121_1, hcz121_2, hfz121_0, hfz121_1, hfz121_2⟩ := cz3 BK291.out) | ((with_reducible refine gate_builtin (b := .append) (xs := #[.tmp 120, .tmp 122]) rfl ?_); at_builtin; refine Kd.R_append k61 (w0 := w) w.heap.size rfl (.tmp 120) (.tmp 122) 23 61 (.agg #[(.string ⟨#[]⟩), (.int .i64 0), (.int .i64 0), (.string ⟨#[]⟩)]) 48 rfl Tryd.underlying23 info61 rfl (by decide) (by omega) u292002 x292002_3 (⟨t331, (⟨t336, 0, t345⟩ : S33)⟩ : S61) [.string t331, .int .i64 t336, .int .i64 0, .string t345] (fun k_ => k_ ≠ gb335) (fun _ => False) rfl (by first | (go_simp; done) | (go_simp; rfl)) ?aP (fun _ hk => hk.elim) ?aF ?aO ?aB ?aS ?aL ?_; (case aP => exact k61_mkM _ _ _ (⟨t331, (⟨t336, 0, t345⟩ : S33)⟩ : S61)); (case aB => exact (bl HB.out)); (case aF => exact (fun k_ hk => Kd.freshB (g := gb335) (o := .cells #[.string t331, .int .i64 t336, .int .i64 0, .string t345] 61 (0, 0)) (by refine pk ?_; refine blk_put (cs := #[.string t331, .int .i64 t336, .int .i64 t341, .string t345]) ?_ 2 _ rfl; refine pk ?_; refine blk_put (cs := #[.string t331, .int .i64 t336, .int .i64 t341, .string (⟨#[]⟩ : ByteArray)]) ?_ 3 _ rfl; exact pk BK335.out) k_ hk)); (case aO => exact (by (with_reducible repeat (first | apply Kd.R_alloc | apply Kd.R_drewN | apply Kd.R_drew)); exact Kd.R_mono (Kd.R_far (p := ⟨gb335, 2, none⟩) (Kd.R_far (p := ⟨gb335, 3, none⟩) (Kd.R_mono HO_292002.out (fun k_ hk => (⟨hk, hk⟩ : _ ∧ k_ ≠ gb335))) (fun _ hk => hk.2) (.string t345)) (fun _ hk => hk.2) (.int .i64 0)) (fun _ hk => hk.1))); (case aS => exact (below_size (bl HB.out))); (case aL => have := LMc110.out; omega); intro v350 w122 ho hb hg hat; rw [← Ny349.out] at ho; replace HO_292001 := Aside0.mk (Kd.S_over' (by (with_reducible repeat (first | apply Kd.S_alloc | apply Kd.S_drewN | apply Kd.S_drew)); exact (Kd.S_mono (Kd.S_far (p := ⟨gb335, 2, none⟩) (Kd.S_far (p := ⟨gb335, 3, none⟩) (Kd.S_types HO_292001.out BK335.out (by decide)) (fun _ hk => hk.2) (.string t345)) (fun _ hk => hk.2) (.int .i64 0)) (fun _ h_ => h_.1))) (Kd.R_typed (by (with_reducible repeat (first | apply Kd.R_alloc | apply Kd.R_drewN | apply Kd.R_drew)); exact (Kd.R_mono (Kd.R_far (p := ⟨gb335, 2, none⟩) (Kd.R_far (p := ⟨gb335, 3, none⟩) (Kd.R_mono HO_292002.out (fun k_ hk => (⟨hk, hk⟩ : _ ∧ k_ ≠ gb335))) (fun _ hk => hk.2) (.string t345)) (fun _ hk => hk.2) (.int .i64 0)) (fun _ h_ => h_.1)))) (by decide) hg); replace BK285 := Aside0.mk (blk_grown (g := gb285) (o := .cells #[.int .i64 0, .slice none 0 0, .slice none 0 0] 25 (0, 0)) (by refine pk ?_; refine blk_far ?_ NB285_335.out _; refine pk ?_; refine blk_far ?_ NB285_335.out _; exact pk BK285.out) hg (Kd.R_ne HO_292002.out BK285.out (by decide))); replace BK291 := Aside0.mk (blk_grown (g := gb291) (o := .cells #[.int .i64 t287, u292001, u292002] 25 (0, 0)) (by refine pk ?_; refine blk_far ?_ NB291_335.out _; refine pk ?_; refine blk_far ?_ NB291_335.out _; exact pk BK291.out) hg (Kd.R_ne HO_292002.out BK291.out (by decide))); replace BK335 := Aside0.mk (blk_grown (g := gb335) (o := .cells #[.string t331, .int .i64 t336, .int .i64 0, .string t345] 61 (0, 0)) (by refine pk ?_; refine blk_put (cs := #[.string t331, .int .i64 t336, .int .i64 t341, .string t345]) ?_ 2 _ rfl; refine pk ?_; refine blk_put (cs := #[.string t331, .int .i64 t336, .int .i64 t341, .string (⟨#[]⟩ : ByteArray)]) ?_ 3 _ rfl; exact pk BK335.out) hg (Kd.R_away HO_292002.out (fun _ hk => hk))); replace BK286 := Aside0.mk (blk_grown (g := gb286) (o := .cells #[.string t346, .int .i64 t347, .bool t348] 78 (0, 0)) (by refine pk ?_; refine blk_far ?_ NB286_335.out _; refine pk ?_; refine blk_far ?_ NB286_335.out _; exact pk BK286.out) hg (Kd.R_ne HO_292002.out BK286.out (by decide))); replace HB := Aside0.mk (hb); have HO351 := Aside0.mk (ho); clear HO_292002; clear ho hb hg hat; obtain ⟨Ao123, co123, eo123⟩ := Kd.R_slice HO351.out; subst eo123; obtain ⟨hcz124_0, hcz124_1, hcz124_2, hfz124_0, hfz124_1, hfz124_2⟩ := cz3 BK291.out))
                go_roundg kj78
                case measure => have := HK1.out; have := HJ11.out; have := HK3.out; have := HJ69.out; have := HJ78.out; omega
                case rel => exact ⟨(wrap64 (x10_3 - 1)), (t346), (t347), (t348), (y349), (.slice Ao123 y349.length co123), hsr, H', ⟨by have := HK1.out; have := HJ11.out; have := HK3.out; have := HJ69.out; have := HJ78.out; omega⟩, ⟨by (with_reducible repeat (first | apply Kd.S_alloc | apply Kd.S_drewN | apply Kd.S_drew)); exact Kd.S_mono (Kd.S_far (p := ⟨gb291, 2, none⟩) (Kd.S_types HO_292001.out BK291.out (by decide)) (fun _ hk => hk.2) (.slice Ao123 y349.length co123)) (fun _ hk => trivial)⟩, ⟨by (with_reducible repeat (first | apply Kd.R_alloc | apply Kd.R_drewN | apply Kd.R_drew)); exact Kd.R_mono (Kd.R_far (p := ⟨gb291, 2, none⟩) (Kd.R_types HO351.out BK291.out (by decide)) (fun _ hk => hk.2) (.slice Ao123 y349.length co123)) (fun _ hk => trivial)⟩, ⟨by refine pk ?_; refine blk_far ?_ NB285_291.out _; exact pk BK285.out⟩, ⟨by refine pk ?_; refine blk_put (cs := #[.int .i64 t287, u292001, u292002]) ?_ 2 _ rfl; exact pk BK291.out⟩, ⟨by refine pk ?_; refine blk_far ?_ NB286_291.out _; exact pk BK286.out⟩, ⟨bl HB.out⟩⟩
               ·rw [if_neg c110] at H
                exact absurd H (by simp)
              ·rw [if_neg c108] at H
               have c108b0 : (t336 == 2) = false := beq_eq_false_iff_ne.mpr c108
               have c108b1 : (t336 != 2) = true := bne_iff_ne.mpr c108
               by_cases c125 : x292002_3.length < 2932031007402
               ·rw [if_pos c125] at H
                have LMc125 := Aside0.mk c125
                clear c125
                obtain ⟨y352, hy352⟩ : ∃ y_ : List (S61), y_ = (x292002_3 ++ [(⟨t331, (⟨t336, t341, (⟨#[]⟩ : ByteArray)⟩ : S33)⟩ : S61)]) := ⟨_, rfl⟩
                replace H : (payload_Decode.l2 kj78 (wrap64 (x10_3 - 1)) t342 t343 t344 t287 x292001_1 y352) = some (r1, r2, r3, r4, r5) := by first | (rw [hy352]; with_reducible exact H) | (have H2_ := (Option.bind_some _ _).symm.trans H; rw [hy352]; with_reducible exact H2_) | (have H2_ := (Option.bind_some _ _).symm.trans H; with_reducible exact H2_) | with_reducible exact H | (rw [hy352]; exact H) | exact H
                have Ny352 := Aside0.mk hy352
                clear hy352
                have H' := Aside0.mk H
                clear H
                have hnb126 := NB335_285.out
                have hnc126 := NB285_335.out
                have hnb127 := NB335_291.out
                have hnc127 := NB291_335.out
                have hnb128 := NB335_286.out
                have hnc128 := NB286_335.out
                obtain ⟨hcz129_0, hcz129_1, hcz129_2, hcz129_3, hfz129_0, hfz129_1, hfz129_2, hfz129_3⟩ := cz4 BK335.out
                go_wp2_with (first | ((with_reducible refine gate_callee (f := 32) rfl ?_); refine goesL_ (some 102) rfl rfl Tryd.func32 kr rfl #[.int .i64 t336] rfl ga ?_; (with_reducible refine (payload_width.calls t336 t340 _ A106.out).mono ?_); rintro e w' ⟨rfl, ⟨nd, rfl⟩⟩; refine ⟨_, rfl, ?_⟩; (try (rw [drewN_self wc]; generalize hq_ : World.drewN wc _ = wc; have n0_ : Aside0 (Kd.S k59 59 wc w.heap.size (fun _ => True) u292001 x292001_1) := ⟨by rw [← hq_]; exact (pS HO_292001.out)⟩; have n1_ : Aside0 (Kd.R k61 61 wc w.heap.size (fun k_ => k_ ≠ gb335) u292002 x292002_3) := ⟨by rw [← hq_]; exact (pR HO_292002.out)⟩; have n2_ : Aside0 (wc.heap[gb285]? = some (.cells #[.int .i64 0, .slice none 0 0, .slice none 0 0] 25 (0, 0))) := ⟨by rw [← hq_]; exact (pk BK285.out)⟩; have n3_ : Aside0 (wc.heap[gb286]? = some (.cells #[.string t337, .int .i64 t338, .bool t339] 78 (0, 0))) := ⟨by rw [← hq_]; exact (pk BK286.out)⟩; have n4_ : Aside0 (wc.heap[gb291]? = some (.cells #[.int .i64 t287, u292001, u292002] 25 (0, 0))) := ⟨by rw [← hq_]; exact (pk BK291.out)⟩; have n5_ : Aside0 (wc.heap[gb335]? = some (.cells #[.string t331, .int .i64 t336, .int .i64 0, .string (⟨#[]⟩ : ByteArray)] 61 (0, 0))) := ⟨by rw [← hq_]; exact (pk BK335.out)⟩; have n6_ : Aside0 (Below w.heap.size w wc) := ⟨by rw [← hq_]; exact (bl HB.out)⟩; clear HO_292001 HO_292002 BK285 BK286 BK291 BK335 HB hq_; have HO_292001 := n0_; have HO_292002 := n1_; have BK285 := n2_; have BK286 := n3_; have BK291 := n4_; have BK335 := n5_; have HB := n6_; clear n0_ n1_ n2_ n3_ n4_ n5_ n6_))) | ((with_reducible refine gate_callee (f := 39) rfl ?_); refine goesL_ (some 103) rfl rfl Tryd.func39 kr rfl #[.pointer (some ⟨gb286, 0, none⟩), .int .i64 t340] rfl ga ?_; (with_reducible refine (payload_taker_number.calls kj78 gb286 t337 t338 t339 t340 t341 t342 t343 t344 w _ ?side1 ?side2 A107.out).mono ?_); (case side1 => exact ⟨pk BK286.out, GE286.out⟩); (case side2 => exact bl HB.out); rintro e w130 ⟨rfl, hi, hb, hk⟩; refine ⟨_, rfl, ?_⟩; replace HO_292001 := Aside0.mk (Kd.S_mono (Kd.S_keep (IsS78.apartS (show IsS78 w _ gb286 t337 t338 t339 from by repeat (first | (with_reducible first | exact (Aside0.mk (⟨BK286.out, GE286.out⟩ : IsS78 w _ gb286 t337 t338 t339)).out | apply IsS78.alloc | apply IsS78.drewN | apply IsS78.drew | apply IsS78.set_0 | apply IsS78.set_1 | apply IsS78.set_2 | refine IsS78.far ?_ NB286_285.out _ | refine IsS78.far ?_ NB286_291.out _ | refine IsS78.far ?_ NB286_335.out _) | exact (Aside0.mk (⟨BK286.out, GE286.out⟩ : IsS78 w _ gb286 t337 t338 t339)).out)) (pS HO_292001.out) (by decide)) hk (fun _ h => h.2)) (fun _ h => h.1)); replace HO_292002 := Aside0.mk (Kd.R_mono (Kd.R_keep (IsS78.apart (show IsS78 w _ gb286 t337 t338 t339 from by repeat (first | (with_reducible first | exact (Aside0.mk (⟨BK286.out, GE286.out⟩ : IsS78 w _ gb286 t337 t338 t339)).out | apply IsS78.alloc | apply IsS78.drewN | apply IsS78.drew | apply IsS78.set_0 | apply IsS78.set_1 | apply IsS78.set_2 | refine IsS78.far ?_ NB286_285.out _ | refine IsS78.far ?_ NB286_291.out _ | refine IsS78.far ?_ NB286_335.out _) | exact (Aside0.mk (⟨BK286.out, GE286.out⟩ : IsS78 w _ gb286 t337 t338 t339)).out)) (pR HO_292002.out) (by decide)) hk (fun _ h => h.2)) (fun _ h => h.1)); replace BK285 := Aside0.mk (KeepBut.blk hk (g' := gb285) (o := .cells #[.int .i64 0, .slice none 0 0, .slice none 0 0] 25 (0, 0)) (pk BK285.out) NB285_286.out (by simp)); replace BK291 := Aside0.mk (KeepBut.blk hk (g' := gb291) (o := .cells #[.int .i64 t287, u292001, u292002] 25 (0, 0)) (pk BK291.out) NB291_286.out (by simp)); replace BK335 := Aside0.mk (KeepBut.blk hk (g' := gb335) (o := .cells #[.string t331, .int .i64 t336, .int .i64 0, .string (⟨#[]⟩ : ByteArray)] 61 (0, 0)) (pk BK335.out) NB335_286.out (by simp)); replace HB := Aside0.mk (hb); replace BK286 := Aside0.mk (hi.1); (try clear hb); (try clear hb2); (try clear hk); (try clear hi); obtain ⟨hcz131_0, hcz131_1, hcz131_2, hcz131_3, hfz131_0, hfz131_1, hfz131_2, hfz131_3⟩ := cz4 BK335.out; have hnb132 := NB291_285.out; have hnc132 := NB285_291.out; have hnb133 := NB291_286.out; have hnc133 := NB286_291.out; obtain ⟨hcz134_0, hcz134_1, hcz134_2, hfz134_0, hfz134_1, hfz134_2⟩ := cz3 BK291.out) | ((with_reducible refine gate_builtin (b := .append) (xs := #[.tmp 120, .tmp 122]) rfl ?_); at_builtin; refine Kd.R_append k61 (w0 := w) w.heap.size rfl (.tmp 120) (.tmp 122) 23 61 (.agg #[(.string ⟨#[]⟩), (.int .i64 0), (.int .i64 0), (.string ⟨#[]⟩)]) 48 rfl Tryd.underlying23 info61 rfl (by decide) (by omega) u292002 x292002_3 (⟨t331, (⟨t336, t341, (⟨#[]⟩ : ByteArray)⟩ : S33)⟩ : S61) [.string t331, .int .i64 t336, .int .i64 t341, .string (⟨#[]⟩ : ByteArray)] (fun k_ => k_ ≠ gb335) (fun _ => False) rfl (by first | (go_simp; done) | (go_simp; rfl)) ?aP (fun _ hk => hk.elim) ?aF ?aO ?aB ?aS ?aL ?_; (case aP => exact k61_mkM _ _ _ (⟨t331, (⟨t336, t341, (⟨#[]⟩ : ByteArray)⟩ : S33)⟩ : S61)); (case aB => exact (bl HB.out)); (case aF => exact (fun k_ hk => Kd.freshB (g := gb335) (o := .cells #[.string t331, .int .i64 t336, .int .i64 t341, .string (⟨#[]⟩ : ByteArray)] 61 (0, 0)) (by refine pk ?_; refine blk_put (cs := #[.string t331, .int .i64 t336, .int .i64 0, .string (⟨#[]⟩ : ByteArray)]) ?_ 2 _ rfl; exact pk BK335.out) k_ hk)); (case aO => exact (by (with_reducible repeat (first | apply Kd.R_alloc | apply Kd.R_drewN | apply Kd.R_drew)); exact Kd.R_mono (Kd.R_far (p := ⟨gb335, 2, none⟩) (Kd.R_mono HO_292002.out (fun k_ hk => (⟨hk, hk⟩ : _ ∧ k_ ≠ gb335))) (fun _ hk => hk.2) (.int .i64 t341)) (fun _ hk => hk.1))); (case aS => exact (below_size (bl HB.out))); (case aL => have := LMc125.out; omega); intro v353 w135 ho hb hg hat; rw [← Ny352.out] at ho; replace HO_292001 := Aside0.mk (Kd.S_over' (by (with_reducible repeat (first | apply Kd.S_alloc | apply Kd.S_drewN | apply Kd.S_drew)); exact (Kd.S_mono (Kd.S_far (p := ⟨gb335, 2, none⟩) (Kd.S_types HO_292001.out BK335.out (by decide)) (fun _ hk => hk.2) (.int .i64 t341)) (fun _ h_ => h_.1))) (Kd.R_typed (by (with_reducible repeat (first | apply Kd.R_alloc | apply Kd.R_drewN | apply Kd.R_drew)); exact (Kd.R_mono (Kd.R_far (p := ⟨gb335, 2, none⟩) (Kd.R_mono HO_292002.out (fun k_ hk => (⟨hk, hk⟩ : _ ∧ k_ ≠ gb335))) (fun _ hk => hk.2) (.int .i64 t341)) (fun _ h_ => h_.1)))) (by decide) hg); replace BK285 := Aside0.mk (blk_grown (g := gb285) (o := .cells #[.int .i64 0, .slice none 0 0, .slice none 0 0] 25 (0, 0)) (by refine pk ?_; refine blk_far ?_ NB285_335.out _; exact pk BK285.out) hg (Kd.R_ne HO_292002.out BK285.out (by decide))); replace BK291 := Aside0.mk (blk_grown (g := gb291) (o := .cells #[.int .i64 t287, u292001, u292002] 25 (0, 0)) (by refine pk ?_; refine blk_far ?_ NB291_335.out _; exact pk BK291.out) hg (Kd.R_ne HO_292002.out BK291.out (by decide))); replace BK335 := Aside0.mk (blk_grown (g := gb335) (o := .cells #[.string t331, .int .i64 t336, .int .i64 t341, .string (⟨#[]⟩ : ByteArray)] 61 (0, 0)) (by refine pk ?_; refine blk_put (cs := #[.string t331, .int .i64 t336, .int .i64 0, .string (⟨#[]⟩ : ByteArray)]) ?_ 2 _ rfl; exact pk BK335.out) hg (Kd.R_away HO_292002.out (fun _ hk => hk))); replace BK286 := Aside0.mk (blk_grown (g := gb286) (o := .cells #[.string t342, .int .i64 t343, .bool t344] 78 (0, 0)) (by refine pk ?_; refine blk_far ?_ NB286_335.out _; exact pk BK286.out) hg (Kd.R_ne HO_292002.out BK286.out (by decide))); replace HB := Aside0.mk (hb); have HO354 := Aside0.mk (ho); clear HO_292002; clear ho hb hg hat; obtain ⟨Ao136, co136, eo136⟩ := Kd.R_slice HO354.out; subst eo136; obtain ⟨hcz137_0, hcz137_1, hcz137_2, hfz137_0, hfz137_1, hfz137_2⟩ := cz3 BK291.out))
                go_roundg kj78
                case measure => have := HK1.out; have := HJ11.out; have := HK3.out; have := HJ69.out; have := HJ78.out; omega
                case rel => exact ⟨(wrap64 (x10_3 - 1)), (t342), (t343), (t344), (y352), (.slice Ao136 y352.length co136), hsr, H', ⟨by have := HK1.out; have := HJ11.out; have := HK3.out; have := HJ69.out; have := HJ78.out; omega⟩, ⟨by (with_reducible repeat (first | apply Kd.S_alloc | apply Kd.S_drewN | apply Kd.S_drew)); exact Kd.S_mono (Kd.S_far (p := ⟨gb291, 2, none⟩) (Kd.S_types HO_292001.out BK291.out (by decide)) (fun _ hk => hk.2) (.slice Ao136 y352.length co136)) (fun _ hk => trivial)⟩, ⟨by (with_reducible repeat (first | apply Kd.R_alloc | apply Kd.R_drewN | apply Kd.R_drew)); exact Kd.R_mono (Kd.R_far (p := ⟨gb291, 2, none⟩) (Kd.R_types HO354.out BK291.out (by decide)) (fun _ hk => hk.2) (.slice Ao136 y352.length co136)) (fun _ hk => trivial)⟩, ⟨by refine pk ?_; refine blk_far ?_ NB285_291.out _; exact pk BK285.out⟩, ⟨by refine pk ?_; refine blk_put (cs := #[.int .i64 t287, u292001, u292002]) ?_ 2 _ rfl; exact pk BK291.out⟩, ⟨by refine pk ?_; refine blk_far ?_ NB286_291.out _; exact pk BK286.out⟩, ⟨bl HB.out⟩⟩
               ·rw [if_neg c125] at H
                exact absurd H (by simp)
          ·replace c75 := Bool.eq_false_iff.mpr c75
           subst c75
           have H1 : (if x287002_3 = true then (some (0, ([] : List (S59)), ([] : List (S61)), 0, 52)) else ((payload_may.f kj69 t287 x292001_1 x292002_3).bind fun t326 => (if t326 = true then (some (t287, x292001_1, x292002_3, x287001_3, 0)) else (some (0, ([] : List (S59)), ([] : List (S61)), 0, 52))))) = some (r1, r2, r3, r4, r5) := by rw [if_neg (show ¬ (false = true) by decide)] at H; exact H
           clear H
           have H := H1
           clear H1
           by_cases c138 : x287002_3 = true
           ·subst c138
            have H1 : (some (0, ([] : List (S59)), ([] : List (S61)), 0, 52)) = some (r1, r2, r3, r4, r5) := by rw [if_pos rfl] at H; exact H
            clear H
            have H := H1
            clear H1
            simp only [Option.some.injEq, Prod.mk.injEq] at H
            obtain ⟨rfl, rfl, rfl, rfl, rfl⟩ := H
            have hnb139 := NB286_285.out
            have hnc139 := NB285_286.out
            have hnb140 := NB286_291.out
            have hnc140 := NB291_286.out
            obtain ⟨hcz141_0, hcz141_1, hcz141_2, hfz141_0, hfz141_1, hfz141_2⟩ := cz3 BK286.out
            have hnb142 := NB285_291.out
            have hnc142 := NB291_285.out
            obtain ⟨hcz143_0, hcz143_1, hcz143_2, hfz143_0, hfz143_1, hfz143_2⟩ := cz3 BK285.out
            go_wp2
            refine bodyPost_ret (results_ctt rfl _ _ gb285 25 #[.int .i64 0, .slice none 0 0, .slice none 0 0] (0, 0) _ rfl (by refine pk ?_; refine blk_put (cs := #[.int .i64 0, .slice none 0 0, .slice none 0 0]) ?_ 2 _ rfl; refine pk ?_; refine blk_put (cs := #[.int .i64 0, .slice none 0 0, .slice none 0 0]) ?_ 1 _ rfl; refine pk ?_; refine blk_put (cs := #[.int .i64 0, .slice none 0 0, .slice none 0 0]) ?_ 0 _ rfl; exact pk BK285.out) Tryd.underlying25 rfl kr) rfl ?_
            exact ⟨_, _, er0, by first | exact Kd.S_nil _ _ _ _ _ | exact Kd.N_nil _ _ _ _ _ | exact Kd.V_nil _ _ _ _ _ | exact Kd.Q_nil _ _ _ _ _ | exact Kd.R_nil _ _ _ _ _, by first | exact Kd.R_nil _ _ _ _ _ | exact Kd.N_nil _ _ _ _ _ | exact Kd.V_nil _ _ _ _ _ | exact Kd.Q_nil _ _ _ _ _ | exact Kd.S_nil _ _ _ _ _, bl HB.out⟩
           ·replace c138 := Bool.eq_false_iff.mpr c138
            subst c138
            have H1 : ((payload_may.f kj69 t287 x292001_1 x292002_3).bind fun t326 => (if t326 = true then (some (t287, x292001_1, x292002_3, x287001_3, 0)) else (some (0, ([] : List (S59)), ([] : List (S61)), 0, 52)))) = some (r1, r2, r3, r4, r5) := by rw [if_neg (show ¬ (false = true) by decide)] at H; exact H
            clear H
            have H := H1
            clear H1
            replace H := Option.bind_eq_some_iff.mp H
            obtain ⟨t326, A1440, H⟩ := H
            replace H : (if t326 = true then (some (t287, x292001_1, x292002_3, x287001_3, 0)) else (some (0, ([] : List (S59)), ([] : List (S61)), 0, 52))) = some (r1, r2, r3, r4, r5) := H
            have A144 := Aside0.mk A1440
            clear A1440
            by_cases c145 : t326 = true
            ·subst c145
             have H1 : (some (t287, x292001_1, x292002_3, x287001_3, 0)) = some (r1, r2, r3, r4, r5) := by rw [if_pos rfl] at H; exact H
             clear H
             have H := H1
             clear H1
             simp only [Option.some.injEq, Prod.mk.injEq] at H
             obtain ⟨rfl, rfl, rfl, rfl, rfl⟩ := H
             have hnb146 := NB286_285.out
             have hnc146 := NB285_286.out
             have hnb147 := NB286_291.out
             have hnc147 := NB291_286.out
             obtain ⟨hcz148_0, hcz148_1, hcz148_2, hfz148_0, hfz148_1, hfz148_2⟩ := cz3 BK286.out
             have hnb149 := NB291_285.out
             have hnc149 := NB285_291.out
             obtain ⟨hcz150_0, hcz150_1, hcz150_2, hfz150_0, hfz150_1, hfz150_2⟩ := cz3 BK291.out
             obtain ⟨Ao151, co151, eo151⟩ := Kd.S_slice HO_292001.out
             subst eo151
             obtain ⟨Ao152, co152, eo152⟩ := Kd.R_slice HO_292002.out
             subst eo152
             try go_wp2_with (first | (go_at_call 30; (with_reducible refine (payload_may.calls kj69 t287 _ _ x292001_1 _ _ x292002_3 true _ ?side1 ?side2 ?side3 ?side4 ?side5 A144.out).mono ?_); (case side1 => repeat (first | exact (Kd.S_reads' HO_292001.out).2.2 | (with_reducible refine Kd.C_alloc ?_ _) | (with_reducible refine Kd.C_drewN ?_ _) | (with_reducible refine Kd.C_drew ?_))); (case side2 => exact (Kd.S_reads' HO_292001.out).2.1); (case side3 => repeat (first | exact (Kd.R_reads' HO_292002.out).2.2 | (with_reducible refine Kd.C_alloc ?_ _) | (with_reducible refine Kd.C_drewN ?_ _) | (with_reducible refine Kd.C_drew ?_))); (case side4 => exact (Kd.R_reads' HO_292002.out).2.1); (case side5 => exact LaidU.below HU.out (bl HB.out)); rintro e w153 ⟨rfl, hb⟩; replace HO_292001 := Aside0.mk (Kd.S_below (pS HO_292001.out) hb); replace HO_292002 := Aside0.mk (Kd.R_below (pR HO_292002.out) hb); replace BK285 := Aside0.mk (blk_below (pk BK285.out) hb); replace BK291 := Aside0.mk (blk_below (pk BK291.out) hb); replace BK286 := Aside0.mk (blk_below (pk BK286.out) hb); replace HB := Aside0.mk (below_step (bl HB.out) hb); (try clear hb); (try clear hb2); (try clear hk); (try clear hi)))
             replace HO_292001 := Aside0.mk (Kd.S_drew HO_292001.out)
             replace HO_292002 := Aside0.mk (Kd.R_drew HO_292002.out)
             replace BK285 := Aside0.mk (blk_drew BK285.out)
             replace BK291 := Aside0.mk (blk_drew BK291.out)
             replace BK286 := Aside0.mk (blk_drew BK286.out)
             replace HB := Aside0.mk (below_drew1 HB.out)
             refine start_ (n := 8) (S := fun w' => w'.cell? ⟨gb291, 0, none⟩ = some (.int .i64 t287) ∧ w'.cell? ⟨gb291, 1, none⟩ = some (.slice Ao151 x292001_1.length co151) ∧ w'.cell? ⟨gb291, 2, none⟩ = some (.slice Ao152 x292002_3.length co152) ∧ w'.cell? ⟨gb286, 0, none⟩ = some (.string x287000_3) ∧ w'.cell? ⟨gb286, 1, none⟩ = some (.int .i64 x287001_3) ∧ w'.cell? ⟨gb286, 2, none⟩ = some (.bool false)) (ds := []) #[false, false, false, false, false, false, false, false] kr rfl rfl ⟨(blk_cell BK291.out 0).trans rfl, (blk_cell BK291.out 1).trans rfl, (blk_cell BK291.out 2).trans rfl, (blk_cell BK286.out 0).trans rfl, (blk_cell BK286.out 1).trans rfl, (blk_cell BK286.out 2).trans rfl⟩ (fun hHeld => ?_); refine with_tabW payload_Decode.tab25 payload_Decode.bits25 (fun HT_ HW_ => ?_)
             generalize w153.drew = w154 at HO_292001 HO_292002 BK285 BK291 BK286 HB hHeld ⊢
             refine pure_ (i := 1) (N := some 136) (v := ?_) (a' := ?_) #[false, true, false, false, false, false, false, false] rfl rfl (any_of HT_.out kr) (fun _ _ _ h => h) (Or.inl ⟨by rfl, ?_⟩) ?_ ?_
             rotate_left
             ·exact wl
             rotate_left
             ·exact ap
             refine pure_ (i := 2) (N := some 137) (v := ?_) (a' := ?_) #[false, true, true, false, false, false, false, false] rfl rfl (any_of HT_.out kr) (fun _ _ _ h => h) (Or.inl ⟨by rfl, ?_⟩) ?_ ?_
             rotate_left
             ·exact wl
             rotate_left
             ·exact ap
             refine pure_ (i := 3) (N := some 138) (v := ?_) (a' := ?_) #[false, true, true, true, false, false, false, false] rfl rfl (any_of HT_.out kr) (fun _ _ _ h => h) (Or.inl ⟨by rfl, ?_⟩) ?_ ?_
             rotate_left
             ·exact wl
             rotate_left
             ·exact ap
             refine take_ (i := 0) (N := some 135) (v := ?_) (a' := ?_) #[true, true, true, true, false, false, false, false] rfl rfl (take_ofW HT_.out HW_.out kr) (fun _ _ _ h => h) (Or.inl ⟨by rfl, ?_⟩) hHeld ?_ ?_
             rotate_left
             ·rintro w' ⟨s0, s1, s2, s3, s4, s5⟩
              go_simp
              exact rl
             rotate_left
             ·exact ap
             refine take_ (i := 4) (N := some 139) (v := ?_) (a' := ?_) #[true, true, true, true, true, false, false, false] rfl rfl (take_ofW HT_.out HW_.out kr) (fun _ _ _ h => h) (Or.inl ⟨by rfl, ?_⟩) hHeld ?_ ?_
             rotate_left
             ·rintro w' ⟨s0, s1, s2, s3, s4, s5⟩
              go_simp
              exact rl
             rotate_left
             ·exact ap
             refine one_ (i := 5) (N := none) #[true, true, true, true, true, true, false, false] rfl rfl (one_of HT_.out kr) (by decide) (fun K hK => ?_)
             have hs155 : w154.cell? ⟨gb285, 0, none⟩ = some (.int .i64 0) := (blk_cell BK285.out 0).trans rfl
             have hfs155 := blk_frozen BK285.out 0
             have hns155_1 := NB291_285.out
             have hns155_2 := NB286_285.out
             have hms155_1 := NB285_291.out
             have hms155_2 := NB285_286.out
             have hs156 : w154.cell? ⟨gb285, 1, none⟩ = some (.slice none 0 0) := (blk_cell BK285.out 1).trans rfl
             have hfs156 := blk_frozen BK285.out 1
             have hns156_1 := NB291_285.out
             have hns156_2 := NB286_285.out
             have hms156_1 := NB285_291.out
             have hms156_2 := NB285_286.out
             have hs157 : w154.cell? ⟨gb285, 2, none⟩ = some (.slice none 0 0) := (blk_cell BK285.out 2).trans rfl
             have hfs157 := blk_frozen BK285.out 2
             have hns157_1 := NB291_285.out
             have hns157_2 := NB286_285.out
             have hms157_1 := NB285_291.out
             have hms157_2 := NB285_286.out
             refine skip_ (w1 := ?_) (by rfl) rfl ?_ ?_
             rotate_left
             ·go_simp
              rfl
             refine hK.out _ _ ⟨((cell_far (p := ⟨gb285, _, none⟩) NB291_285.out _).trans (((cell_far (p := ⟨gb285, _, none⟩) NB291_285.out _).trans (((cell_far (p := ⟨gb285, _, none⟩) NB291_285.out _).trans (hHeld.1)))))), ((cell_far (p := ⟨gb285, _, none⟩) NB291_285.out _).trans (((cell_far (p := ⟨gb285, _, none⟩) NB291_285.out _).trans (((cell_far (p := ⟨gb285, _, none⟩) NB291_285.out _).trans (hHeld.2.1)))))), ((cell_far (p := ⟨gb285, _, none⟩) NB291_285.out _).trans (((cell_far (p := ⟨gb285, _, none⟩) NB291_285.out _).trans (((cell_far (p := ⟨gb285, _, none⟩) NB291_285.out _).trans (hHeld.2.2.1)))))), ((cell_far (p := ⟨gb285, _, none⟩) NB286_285.out _).trans (((cell_far (p := ⟨gb285, _, none⟩) NB286_285.out _).trans (((cell_far (p := ⟨gb285, _, none⟩) NB286_285.out _).trans (hHeld.2.2.2.1)))))), ((cell_far (p := ⟨gb285, _, none⟩) NB286_285.out _).trans (((cell_far (p := ⟨gb285, _, none⟩) NB286_285.out _).trans (((cell_far (p := ⟨gb285, _, none⟩) NB286_285.out _).trans (hHeld.2.2.2.2.1)))))), ((cell_far (p := ⟨gb285, _, none⟩) NB286_285.out _).trans (((cell_far (p := ⟨gb285, _, none⟩) NB286_285.out _).trans (((cell_far (p := ⟨gb285, _, none⟩) NB286_285.out _).trans (hHeld.2.2.2.2.2))))))⟩ (fun hHeld => ?_)
             clear hK K
             refine pure_ (i := 6) (N := some 3) (v := ?_) (a' := ?_) #[true, true, true, true, true, true, true, false] rfl rfl (any_of HT_.out kr) (fun _ _ _ h => h) (Or.inl ⟨by rfl, ?_⟩) ?_ ?_
             rotate_left
             ·exact wl
             rotate_left
             ·exact ap
             refine pure_ (i := 7) (N := some 4) (v := ?_) (a' := ?_) #[true, true, true, true, true, true, true, true] rfl rfl (any_of HT_.out kr) (fun _ _ _ h => h) (Or.inl ⟨by rfl, ?_⟩) ?_ ?_
             rotate_left
             ·exact wl
             rotate_left
             ·exact ap
             refine done_ (done_of HT_.out kr) ?_
             try go_wp2
             refine bodyPost_ret (results_ctt rfl _ _ gb285 25 #[.int .i64 t287, .slice Ao151 x292001_1.length co151, .slice Ao152 x292002_3.length co152] (0, 0) _ rfl (by refine pk ?_; refine blk_put (cs := #[.int .i64 t287, .slice Ao151 x292001_1.length co151, .slice none 0 0]) ?_ 2 _ rfl; refine pk ?_; refine blk_put (cs := #[.int .i64 t287, .slice none 0 0, .slice none 0 0]) ?_ 1 _ rfl; refine pk ?_; refine blk_put (cs := #[.int .i64 0, .slice none 0 0, .slice none 0 0]) ?_ 0 _ rfl; exact pk BK285.out) Tryd.underlying25 rfl kr) rfl ?_
             exact ⟨_, _, er0, by (with_reducible repeat (first | apply Kd.S_alloc | apply Kd.S_drewN | apply Kd.S_drew)); exact Kd.S_mono (Kd.S_far (p := ⟨gb285, 2, none⟩) (Kd.S_far (p := ⟨gb285, 1, none⟩) (Kd.S_far (p := ⟨gb285, 0, none⟩) (Kd.S_types HO_292001.out BK285.out (by decide)) (fun _ hk => hk.2) (.int .i64 t287)) (fun _ hk => hk.2) (.slice Ao151 x292001_1.length co151)) (fun _ hk => hk.2) (.slice Ao152 x292002_3.length co152)) (fun _ hk => trivial), by (with_reducible repeat (first | apply Kd.R_alloc | apply Kd.R_drewN | apply Kd.R_drew)); exact Kd.R_mono (Kd.R_far (p := ⟨gb285, 2, none⟩) (Kd.R_far (p := ⟨gb285, 1, none⟩) (Kd.R_far (p := ⟨gb285, 0, none⟩) (Kd.R_types HO_292002.out BK285.out (by decide)) (fun _ hk => hk.2) (.int .i64 t287)) (fun _ hk => hk.2) (.slice Ao151 x292001_1.length co151)) (fun _ hk => hk.2) (.slice Ao152 x292002_3.length co152)) (fun _ hk => trivial), bl HB.out⟩
            ·replace c145 := Bool.eq_false_iff.mpr c145
             subst c145
             have H1 : (some (0, ([] : List (S59)), ([] : List (S61)), 0, 52)) = some (r1, r2, r3, r4, r5) := by rw [if_neg (show ¬ (false = true) by decide)] at H; exact H
             clear H
             have H := H1
             clear H1
             simp only [Option.some.injEq, Prod.mk.injEq] at H
             obtain ⟨rfl, rfl, rfl, rfl, rfl⟩ := H
             have hnb158 := NB286_285.out
             have hnc158 := NB285_286.out
             have hnb159 := NB286_291.out
             have hnc159 := NB291_286.out
             obtain ⟨hcz160_0, hcz160_1, hcz160_2, hfz160_0, hfz160_1, hfz160_2⟩ := cz3 BK286.out
             have hnb161 := NB291_285.out
             have hnc161 := NB285_291.out
             obtain ⟨hcz162_0, hcz162_1, hcz162_2, hfz162_0, hfz162_1, hfz162_2⟩ := cz3 BK291.out
             obtain ⟨Ao163, co163, eo163⟩ := Kd.S_slice HO_292001.out
             subst eo163
             obtain ⟨Ao164, co164, eo164⟩ := Kd.R_slice HO_292002.out
             subst eo164
             go_wp2_with (first | (go_at_call 30; (with_reducible refine (payload_may.calls kj69 t287 _ _ x292001_1 _ _ x292002_3 false _ ?side1 ?side2 ?side3 ?side4 ?side5 A144.out).mono ?_); (case side1 => repeat (first | exact (Kd.S_reads' HO_292001.out).2.2 | (with_reducible refine Kd.C_alloc ?_ _) | (with_reducible refine Kd.C_drewN ?_ _) | (with_reducible refine Kd.C_drew ?_))); (case side2 => exact (Kd.S_reads' HO_292001.out).2.1); (case side3 => repeat (first | exact (Kd.R_reads' HO_292002.out).2.2 | (with_reducible refine Kd.C_alloc ?_ _) | (with_reducible refine Kd.C_drewN ?_ _) | (with_reducible refine Kd.C_drew ?_))); (case side4 => exact (Kd.R_reads' HO_292002.out).2.1); (case side5 => exact LaidU.below HU.out (bl HB.out)); rintro e w165 ⟨rfl, hb⟩; replace HO_292001 := Aside0.mk (Kd.S_below (pS HO_292001.out) hb); replace HO_292002 := Aside0.mk (Kd.R_below (pR HO_292002.out) hb); replace BK285 := Aside0.mk (blk_below (pk BK285.out) hb); replace BK291 := Aside0.mk (blk_below (pk BK291.out) hb); replace BK286 := Aside0.mk (blk_below (pk BK286.out) hb); replace HB := Aside0.mk (below_step (bl HB.out) hb); (try clear hb); (try clear hb2); (try clear hk); (try clear hi); obtain ⟨hcz166_0, hcz166_1, hcz166_2, hfz166_0, hfz166_1, hfz166_2⟩ := cz3 BK285.out))
             refine bodyPost_ret (results_ctt rfl _ _ gb285 25 #[.int .i64 0, .slice none 0 0, .slice none 0 0] (0, 0) _ rfl (by refine pk ?_; refine blk_put (cs := #[.int .i64 0, .slice none 0 0, .slice none 0 0]) ?_ 2 _ rfl; refine pk ?_; refine blk_put (cs := #[.int .i64 0, .slice none 0 0, .slice none 0 0]) ?_ 1 _ rfl; refine pk ?_; refine blk_put (cs := #[.int .i64 0, .slice none 0 0, .slice none 0 0]) ?_ 0 _ rfl; exact pk BK285.out) Tryd.underlying25 rfl kr) rfl ?_
             exact ⟨_, _, er0, by first | exact Kd.S_nil _ _ _ _ _ | exact Kd.N_nil _ _ _ _ _ | exact Kd.V_nil _ _ _ _ _ | exact Kd.Q_nil _ _ _ _ _ | exact Kd.R_nil _ _ _ _ _, by first | exact Kd.R_nil _ _ _ _ _ | exact Kd.N_nil _ _ _ _ _ | exact Kd.V_nil _ _ _ _ _ | exact Kd.Q_nil _ _ _ _ _ | exact Kd.S_nil _ _ _ _ _, bl HB.out⟩

end Go.Proofs.YtbeljekpknpadaaDoor.PPayV
