-- Written by a program of this session on top of the print: some functions by hand.
import Derived.Test.YtbeljekpknpadaaDoorPPayYx0
import Derived.Test.YtbeljekpknpadaaDoorPPayYx4
import Derived.Test.YtbeljekpknpadaaDoorPPayYx5
import Derived.Test.YtbeljekpknpadaaDoorPPayYx7
namespace Go.Proofs.YtbeljekpknpadaaDoor.PPayY
open Go.RowKit Go.Proofs.YtbeljekpknpadaaDoorW.PrintWords Go.Proofs.YtbeljekpknpadaaDoorW.PrintLast Go.Proofs.YtbeljekpknpadaaDoorW.PrintMore
attribute [local go_sem] max2_int min2_int max_two min_two max_three min_three max_four min_four   -- for this text's walks alone
set_option linter.unusedVariables false
set_option linter.unusedSimpArgs false

/-! ### payload_Decode: function 19 -/
mutual
def payload_Decode.l0 : Nat → Int → ByteArray → Int → Bool → Int → List (S59) → Option (Int × (List (S59)) × (List (S61)) × Int × Int)
 | 0, _, _, _, _, _, _ => none
 | k + 1, x7, x236000, x236001, x236002, x241000, x241001 => if x7 > 0 then (payload_Decode.j1 k x7 (!x236002) x236000 x236001 x236002 x241000 x241001) else (payload_Decode.j1 k x7 false x236000 x236001 x236002 x241000 x241001)
def payload_Decode.j1 : Nat → Int → Bool → ByteArray → Int → Bool → Int → List (S59) → Option (Int × (List (S59)) × (List (S61)) × Int × Int)
 | 0, _, _, _, _, _, _, _ => none
 | k + 1, x7, x28, x236000, x236001, x236002, x241000, x241001 => if x28 = true then ((payload_taker_number.f k x236000 x236001 x236002 1).bind fun bt245 => ((payload_taker_text.f bt245.2.1 bt245.2.2.1 bt245.2.2.2 bt245.1).bind fun bt249 => ((payload_taker_number.f k bt249.2.1 bt249.2.2.1 bt249.2.2.2 1).bind fun bt254 => (payload_Decode.l1 k x7 bt254.1 bt254.2.1 bt254.2.2.1 bt254.2.2.2 x241000 x241001 bt249.1 ([] : List Int))))) else ((payload_taker_number.f k x236000 x236001 x236002 1).bind fun bt271 => (payload_Decode.l2 k bt271.1 bt271.2.1 bt271.2.2.1 bt271.2.2.2 x241000 x241001 ([] : List (S61))))
def payload_Decode.l1 : Nat → Int → Int → ByteArray → Int → Bool → Int → List (S59) → ByteArray → List Int → Option (Int × (List (S59)) × (List (S61)) × Int × Int)
 | 0, _, _, _, _, _, _, _, _, _ => none
 | k + 1, x7, x9, x236000, x236001, x236002, x241000, x241001, x254000, x254001 => if x9 > 0 then (if x236002 = true then (if x241001.length < 3518437208883 then (payload_Decode.l0 k (wrap64 (x7 - 1)) x236000 x236001 x236002 x241000 (x241001 ++ [(⟨x254000, x254001⟩ : S59)])) else (none)) else ((payload_taker_number.f k x236000 x236001 x236002 2).bind fun bt261 => (if x254001.length < 17592186044416 then (payload_Decode.l1 k x7 (wrap64 (x9 - 1)) bt261.2.1 bt261.2.2.1 bt261.2.2.2 x241000 x241001 x254000 (x254001 ++ [wrap64 (bt261.1 - 32768)])) else (none)))) else (if x241001.length < 3518437208883 then (payload_Decode.l0 k (wrap64 (x7 - 1)) x236000 x236001 x236002 x241000 (x241001 ++ [(⟨x254000, x254001⟩ : S59)])) else (none))
def payload_Decode.l2 : Nat → Int → ByteArray → Int → Bool → Int → List (S59) → List (S61) → Option (Int × (List (S59)) × (List (S61)) × Int × Int)
 | 0, _, _, _, _, _, _, _ => none
 | k + 1, x10, x236000, x236001, x236002, x241000, x241001, x241002 => if x10 > 0 then (payload_Decode.j4 k x10 (!x236002) x236000 x236001 x236002 x241000 x241001 x241002) else (payload_Decode.j4 k x10 false x236000 x236001 x236002 x241000 x241001 x241002)
def payload_Decode.j4 : Nat → Int → Bool → ByteArray → Int → Bool → Int → List (S59) → List (S61) → Option (Int × (List (S59)) × (List (S61)) × Int × Int)
 | 0, _, _, _, _, _, _, _, _ => none
 | k + 1, x10, x73, x236000, x236001, x236002, x241000, x241001, x241002 => if x73 = true then ((payload_taker_number.f k x236000 x236001 x236002 1).bind fun bt276 => ((payload_taker_text.f bt276.2.1 bt276.2.2.1 bt276.2.2.2 bt276.1).bind fun bt280 => ((payload_taker_number.f k bt280.2.1 bt280.2.2.1 bt280.2.2.2 1).bind fun bt285 => (if bt285.1 < 1 then (payload_Decode.j5 k x10 true bt285.2.1 bt285.2.2.1 bt285.2.2.2 x241000 x241001 x241002 bt280.1 bt285.1 0 (⟨#[]⟩ : ByteArray)) else (payload_Decode.j5 k x10 (decide (bt285.1 > 3)) bt285.2.1 bt285.2.2.1 bt285.2.2.2 x241000 x241001 x241002 bt280.1 bt285.1 0 (⟨#[]⟩ : ByteArray)))))) else (if x236002 = true then (some (0, ([] : List (S59)), ([] : List (S61)), 0, 52)) else ((payload_may.f k x241000 x241001 x241002).bind fun t275 => (if t275 = true then (some (x241000, x241001, x241002, x236001, 0)) else (some (0, ([] : List (S59)), ([] : List (S61)), 0, 52)))))
def payload_Decode.j5 : Nat → Int → Bool → ByteArray → Int → Bool → Int → List (S59) → List (S61) → ByteArray → Int → Int → ByteArray → Option (Int × (List (S59)) × (List (S61)) × Int × Int)
 | 0, _, _, _, _, _, _, _, _, _, _, _, _ => none
 | k + 1, x10, x94, x236000, x236001, x236002, x241000, x241001, x241002, x285000, x285001, x285002, x285003 => if x94 = true then (some (0, ([] : List (S59)), ([] : List (S61)), 0, 52)) else ((payload_width.f x285001).bind fun t289 => ((payload_taker_number.f k x236000 x236001 x236002 t289).bind fun bt290 => (if x285001 = 2 then ((payload_taker_text.f bt290.2.1 bt290.2.2.1 bt290.2.2.2 bt290.1).bind fun bt294 => (if x241002.length < 2932031007402 then (payload_Decode.l2 k (wrap64 (x10 - 1)) bt294.2.1 bt294.2.2.1 bt294.2.2.2 x241000 x241001 (x241002 ++ [(⟨x285000, (⟨x285001, 0, bt294.1⟩ : S33)⟩ : S61)])) else (none))) else (if x241002.length < 2932031007402 then (payload_Decode.l2 k (wrap64 (x10 - 1)) bt290.2.1 bt290.2.2.1 bt290.2.2.2 x241000 x241001 (x241002 ++ [(⟨x285000, (⟨x285001, bt290.1, x285003⟩ : S33)⟩ : S61)])) else (none)))))
end
def payload_Decode.f (k : Nat) (a0 : ByteArray) : Option (Int × (List (S59)) × (List (S61)) × Int × Int) := (payload_taker_number.f k a0 0 false 8).bind fun bt236 => ((payload_taker_number.f k bt236.2.1 bt236.2.2.1 bt236.2.2.2 1).bind fun bt241 => (payload_Decode.l0 k bt241.1 bt241.2.1 bt241.2.2.1 bt241.2.2.2 bt236.1 ([] : List (S59))))
theorem payload_Decode.mono_l : ∀ k, (∀ y0 y1 y2 y3 y4 y5, LeO (payload_Decode.l0 k y0 y1 y2 y3 y4 y5) (payload_Decode.l0 (k + 1) y0 y1 y2 y3 y4 y5)) ∧ (∀ y0 y1 y2 y3 y4 y5 y6, LeO (payload_Decode.j1 k y0 y1 y2 y3 y4 y5 y6) (payload_Decode.j1 (k + 1) y0 y1 y2 y3 y4 y5 y6)) ∧ (∀ y0 y1 y2 y3 y4 y5 y6 y7 y8, LeO (payload_Decode.l1 k y0 y1 y2 y3 y4 y5 y6 y7 y8) (payload_Decode.l1 (k + 1) y0 y1 y2 y3 y4 y5 y6 y7 y8)) ∧ (∀ y0 y1 y2 y3 y4 y5 y6, LeO (payload_Decode.l2 k y0 y1 y2 y3 y4 y5 y6) (payload_Decode.l2 (k + 1) y0 y1 y2 y3 y4 y5 y6)) ∧ (∀ y0 y1 y2 y3 y4 y5 y6 y7, LeO (payload_Decode.j4 k y0 y1 y2 y3 y4 y5 y6 y7) (payload_Decode.j4 (k + 1) y0 y1 y2 y3 y4 y5 y6 y7)) ∧ (∀ y0 y1 y2 y3 y4 y5 y6 y7 y8 y9 y10 y11, LeO (payload_Decode.j5 k y0 y1 y2 y3 y4 y5 y6 y7 y8 y9 y10 y11) (payload_Decode.j5 (k + 1) y0 y1 y2 y3 y4 y5 y6 y7 y8 y9 y10 y11))
 | 0 => ⟨fun _ _ _ _ _ _ r h => by simp [payload_Decode.l0] at h, fun _ _ _ _ _ _ _ r h => by simp [payload_Decode.j1] at h, fun _ _ _ _ _ _ _ _ _ r h => by simp [payload_Decode.l1] at h, fun _ _ _ _ _ _ _ r h => by simp [payload_Decode.l2] at h, fun _ _ _ _ _ _ _ _ r h => by simp [payload_Decode.j4] at h, fun _ _ _ _ _ _ _ _ _ _ _ _ r h => by simp [payload_Decode.j5] at h⟩
 | k + 1 => by
  obtain ⟨ih0, ih1, ih2, ih3, ih4, ih5⟩ := payload_Decode.mono_l k
  refine ⟨?_, ?_, ?_, ?_, ?_, ?_⟩
  all_goals intros
  all_goals first | unfold payload_Decode.l0 | unfold payload_Decode.j1 | unfold payload_Decode.l1 | unfold payload_Decode.l2 | unfold payload_Decode.j4 | unfold payload_Decode.j5
  all_goals repeat' first
   | (with_reducible exact ih0 _ _ _ _ _ _)
   | (with_reducible exact ih1 _ _ _ _ _ _ _)
   | (with_reducible exact ih2 _ _ _ _ _ _ _ _ _)
   | (with_reducible exact ih3 _ _ _ _ _ _ _)
   | (with_reducible exact ih4 _ _ _ _ _ _ _ _)
   | (with_reducible exact ih5 _ _ _ _ _ _ _ _ _ _ _ _)
   | (with_reducible exact payload_may.mono _ _ _ _)
   | (with_reducible exact payload_taker_number.mono _ _ _ _ _)
   | (with_reducible exact LeO.refl _)
   | (with_reducible exact LeO.none _)
   | (with_reducible refine LeO.ite ?_ ?_)
   | (with_reducible refine LeO.bind ?_ (fun _ => ?_))
   | exact ih0 _ _ _ _ _ _
   | exact ih1 _ _ _ _ _ _ _
   | exact ih2 _ _ _ _ _ _ _ _ _
   | exact ih3 _ _ _ _ _ _ _
   | exact ih4 _ _ _ _ _ _ _ _
   | exact ih5 _ _ _ _ _ _ _ _ _ _ _ _
   | exact payload_may.mono _ _ _ _
   | exact payload_taker_number.mono _ _ _ _ _
   | exact LeO.none _
   | refine LeO.ite ?_ ?_
   | refine LeO.bind ?_ (fun _ => ?_)
theorem payload_Decode.mono : ∀ a0 k, LeO (payload_Decode.f k a0) (payload_Decode.f (k + 1) a0) := by
 intro a0 k
 obtain ⟨ih0, ih1, ih2, ih3, ih4, ih5⟩ := payload_Decode.mono_l k
 unfold payload_Decode.f
 repeat' first
   | (with_reducible exact ih0 _ _ _ _ _ _)
   | (with_reducible exact ih1 _ _ _ _ _ _ _)
   | (with_reducible exact ih2 _ _ _ _ _ _ _ _ _)
   | (with_reducible exact ih3 _ _ _ _ _ _ _)
   | (with_reducible exact ih4 _ _ _ _ _ _ _ _)
   | (with_reducible exact ih5 _ _ _ _ _ _ _ _ _ _ _ _)
   | (with_reducible exact payload_may.mono _ _ _ _)
   | (with_reducible exact payload_taker_number.mono _ _ _ _ _)
   | (with_reducible exact LeO.refl _)
   | (with_reducible exact LeO.none _)
   | (with_reducible refine LeO.ite ?_ ?_)
   | (with_reducible refine LeO.bind ?_ (fun _ => ?_))
   | exact ih0 _ _ _ _ _ _
   | exact ih1 _ _ _ _ _ _ _
   | exact ih2 _ _ _ _ _ _ _ _ _
   | exact ih3 _ _ _ _ _ _ _
   | exact ih4 _ _ _ _ _ _ _ _
   | exact ih5 _ _ _ _ _ _ _ _ _ _ _ _
   | exact payload_may.mono _ _ _ _
   | exact payload_taker_number.mono _ _ _ _ _
   | exact LeO.none _
   | refine LeO.ite ?_ ?_
   | refine LeO.bind ?_ (fun _ => ?_)
def payload_Decode.T10 : Bool × List (List Nat × List Nat) := (true, [([], []), ([0], [0]), ([], []), ([2], [2]), ([3], [3]), ([4], [4]), ([1, 5, 3], [1, 5]), ([0, 1, 2, 3, 4, 5, 6], []), ([7, 6, 6, 0, 1, 2, 3, 4, 5, 6], [6, 7])])
def payload_Decode.B10 : List Nat := [0, 1, 0, 4, 12, 28, 63, 127, 255]
theorem payload_Decode.tab10 : rtab .any (opsOf Tryd.f19 10) = payload_Decode.T10 := by kernel_rfl
theorem payload_Decode.bits10 : waitsOk payload_Decode.T10.2 payload_Decode.B10 = true := by kernel_rfl
def payload_Decode.T25 : Bool × List (List Nat × List Nat) := (true, [([], []), ([], []), ([1], [1]), ([2], [2]), ([3], [3]), ([0, 0], [0]), ([4, 5, 0, 1, 2, 3, 4, 5], [4]), ([6, 0, 1, 2, 3, 4, 5, 6], [])])
def payload_Decode.B25 : List Nat := [0, 0, 2, 6, 14, 1, 63, 127]
theorem payload_Decode.tab25 : rtab .any (opsOf Tryd.f19 25) = payload_Decode.T25 := by kernel_rfl
theorem payload_Decode.bits25 : waitsOk payload_Decode.T25.2 payload_Decode.B25 = true := by kernel_rfl
set_option maxHeartbeats 8000000 in
set_option maxRecDepth 100000 in
theorem payload_Decode.calls (k : Nat) (a0 : ByteArray) (r1 : Int) (r2 : List (S59)) (r3 : List (S61)) (r4 : Int) (r5 : Int) (w : World) (hU : LaidU w) (h : payload_Decode.f k a0 = some (r1, r2, r3, r4, r5)) :
  Calls Tryd.prog 19 #[.string a0] w fun e w' => ∃ v1_ v2_ : Value, e = .returned (.tuple #[.agg #[.int .i64 r1, v1_, v2_], .int .i64 r4, .int .i64 r5]) ∧ Kd.S k59 59 w' w.heap.size (fun _ => True) v1_ r2 ∧ Kd.R k61 61 w' w.heap.size (fun _ => True) v2_ r3 ∧ Below w.heap.size w w' := by
 have hu25 := Tryd.underlying25
 have hu78 := Tryd.underlying78
 have hu59 := Tryd.underlying59
 have hu61 := Tryd.underlying61
 have HU := Aside0.mk hU
 clear hU
 have HB := Aside0.mk (Below.refl w.heap.size w)
 have H : ((payload_taker_number.f k a0 0 false 8).bind fun bt236 => ((payload_taker_number.f k bt236.2.1 bt236.2.2.1 bt236.2.2.2 1).bind fun bt241 => (payload_Decode.l0 k bt241.1 bt241.2.1 bt241.2.2.1 bt241.2.2.2 bt236.1 ([] : List (S59))))) = some (r1, r2, r3, r4, r5) := h
 clear h
 replace H := Option.bind_eq_some_iff.mp H
 obtain ⟨⟨t236, t237, t238, t239⟩, A20, H⟩ := H
 replace H : ((payload_taker_number.f k t237 t238 t239 1).bind fun bt241 => (payload_Decode.l0 k bt241.1 bt241.2.1 bt241.2.2.1 bt241.2.2.2 t236 ([] : List (S59)))) = some (r1, r2, r3, r4, r5) := H
 have A2 := Aside0.mk A20
 clear A20
 replace H := Option.bind_eq_some_iff.mp H
 obtain ⟨⟨t241, t242, t243, t244⟩, A30, H⟩ := H
 replace H : (payload_Decode.l0 k t241 t242 t243 t244 t236 ([] : List (S59))) = some (r1, r2, r3, r4, r5) := H
 have A3 := Aside0.mk A30
 clear A30
 have H' := Aside0.mk H
 clear H
 go_enter Tryd.func19, Tryd.ntmps19
 go_wp2_with (first | ((with_reducible refine gate_dst (N := 2) rfl ?_); refine box_event ?hg (N := 2) ?hd (cs := #[.int .i64 0, .slice none 0 0, .slice none 0 0]) (t := 25) ?hr ?_; (case hd => rfl); (case hg => rfl); (case hr => first | (go_simp; done) | (go_simp; rfl)); intro gb234 hg w4 hbox hb; have BK234 := Aside0.mk (hbox); have GW234 := Aside0.mk (gs (w := w) hg (bl HB.out)); have GE234 := Aside0.mk (gs (w := w) hg (bl HB.out)); replace HB := Aside0.mk (below_step (bl HB.out) hb); clear hb hbox hg) | ((with_reducible refine gate_dst (N := 14) rfl ?_); refine box_event ?hg (N := 14) ?hd (cs := #[.string a0, .int .i64 0, .bool false]) (t := 78) ?hr ?_; (case hd => rfl); (case hg => rfl); (case hr => first | (go_simp; done) | (go_simp; rfl)); intro gb235 hg w5 hbox hb; have BK235 := Aside0.mk (hbox); have GW235 := Aside0.mk (gs (w := w) hg (bl HB.out)); have GE235 := Aside0.mk (gs (w := w) hg (bl HB.out)); replace HB := Aside0.mk (below_step (bl HB.out) hb); have NB234_235 := Aside0.mk ((gl (g := gb234) hg (pk BK234.out))); have NB235_234 := Aside0.mk ((gm (g := gb234) hg (pk BK234.out))); replace BK234 := Aside0.mk (blk_below (pk BK234.out) hb); clear hb hbox hg) | ((with_reducible refine gate_callee (f := 39) rfl ?_); refine goesL_ (some 16) rfl rfl Tryd.func39 kr rfl #[.pointer (some ⟨gb235, 0, none⟩), .int .i64 8] rfl ga ?_; (with_reducible refine (payload_taker_number.calls k gb235 a0 0 false 8 t236 t237 t238 t239 w _ ?side1 ?side2 A2.out).mono ?_); (case side1 => exact ⟨pk BK235.out, GE235.out⟩); (case side2 => exact bl HB.out); rintro e w6 ⟨rfl, hi, hb, hk⟩; refine ⟨_, rfl, ?_⟩; replace BK234 := Aside0.mk (KeepBut.blk hk (g' := gb234) (o := .cells #[.int .i64 0, .slice none 0 0, .slice none 0 0] 25 (0, 0)) (pk BK234.out) NB234_235.out (by simp)); replace HB := Aside0.mk (hb); replace BK235 := Aside0.mk (hi.1); (try clear hb); (try clear hb2); (try clear hk); (try clear hi)) | ((with_reducible refine gate_dst (N := 6) rfl ?_); refine box_event ?hg (N := 6) ?hd (cs := #[.int .i64 0, .slice none 0 0, .slice none 0 0]) (t := 25) ?hr ?_; (case hd => rfl); (case hg => rfl); (case hr => first | (go_simp; done) | (go_simp; rfl)); intro gb240 hg w7 hbox hb; have BK240 := Aside0.mk (hbox); have GW240 := Aside0.mk (gs (w := w) hg (bl HB.out)); have GE240 := Aside0.mk (gs (w := w) hg (bl HB.out)); replace HB := Aside0.mk (below_step (bl HB.out) hb); have NB234_240 := Aside0.mk ((gl (g := gb234) hg (pk BK234.out))); have NB240_234 := Aside0.mk ((gm (g := gb234) hg (pk BK234.out))); replace BK234 := Aside0.mk (blk_below (pk BK234.out) hb); have NB235_240 := Aside0.mk ((gl (g := gb235) hg (pk BK235.out))); have NB240_235 := Aside0.mk ((gm (g := gb235) hg (pk BK235.out))); replace BK235 := Aside0.mk (blk_below (pk BK235.out) hb); clear hb hbox hg; have hnb8 := NB240_234.out; have hnc8 := NB234_240.out; have hnb9 := NB240_235.out; have hnc9 := NB235_240.out; obtain ⟨hcz10_0, hcz10_1, hcz10_2, hfz10_0, hfz10_1, hfz10_2⟩ := cz3 BK240.out) | ((with_reducible refine gate_callee (f := 39) rfl ?_); refine goesL_ (some 19) rfl rfl Tryd.func39 kr rfl #[.pointer (some ⟨gb235, 0, none⟩), .int .i64 1] rfl ga ?_; (with_reducible refine (payload_taker_number.calls k gb235 t237 t238 t239 1 t241 t242 t243 t244 w _ ?side1 ?side2 A3.out).mono ?_); (case side1 => exact ⟨by refine pk ?_; refine blk_far ?_ NB235_240.out _; refine pk ?_; refine blk_far ?_ NB235_240.out _; refine pk ?_; refine blk_far ?_ NB235_240.out _; exact pk BK235.out, GE235.out⟩); (case side2 => exact bl HB.out); rintro e w11 ⟨rfl, hi, hb, hk⟩; refine ⟨_, rfl, ?_⟩; replace BK234 := Aside0.mk (KeepBut.blk hk (g' := gb234) (o := .cells #[.int .i64 0, .slice none 0 0, .slice none 0 0] 25 (0, 0)) (by refine pk ?_; refine blk_far ?_ NB234_240.out _; refine pk ?_; refine blk_far ?_ NB234_240.out _; refine pk ?_; refine blk_far ?_ NB234_240.out _; exact pk BK234.out) NB234_235.out (by simp)); replace BK240 := Aside0.mk (KeepBut.blk hk (g' := gb240) (o := .cells #[.int .i64 t236, .slice none 0 0, .slice none 0 0] 25 (0, 0)) (by refine pk ?_; refine blk_put (cs := #[.int .i64 t236, .slice none 0 0, .slice none 0 0]) ?_ 2 _ rfl; refine pk ?_; refine blk_put (cs := #[.int .i64 t236, .slice none 0 0, .slice none 0 0]) ?_ 1 _ rfl; refine pk ?_; refine blk_put (cs := #[.int .i64 0, .slice none 0 0, .slice none 0 0]) ?_ 0 _ rfl; exact pk BK240.out) NB240_235.out (by simp)); replace HB := Aside0.mk (hb); replace BK235 := Aside0.mk (hi.1); (try clear hb); (try clear hb2); (try clear hk); (try clear hi)))
 go_loopg [7] k (fun kq v7 w' => ∃ (x7_1 : Int) (x236000_1 : ByteArray) (x236001_1 : Int) (x236002_1 : Bool) (x241001_1 : List (S59)) (u241001 : Value), v7 = .int .i64 x7_1 ∧ Aside0 (payload_Decode.l0 kq x7_1 x236000_1 x236001_1 x236002_1 t236 x241001_1 = some (r1, r2, r3, r4, r5)) ∧ Aside0 (kq ≤ k) ∧ Aside0 (Kd.S k59 59 w' w.heap.size (fun _ => True) u241001 x241001_1) ∧ Aside0 (w'.heap[gb234]? = some (.cells #[.int .i64 0, (.slice none 0 0), (.slice none 0 0)] 25 (0, 0))) ∧ Aside0 (w'.heap[gb240]? = some (.cells #[.int .i64 t236, u241001, (.slice none 0 0)] 25 (0, 0))) ∧ Aside0 (w'.heap[gb235]? = some (.cells #[.string x236000_1, .int .i64 x236001_1, .bool x236002_1] 78 (0, 0))) ∧ Aside0 (Below w.heap.size w w'))
 case atStart => exact ⟨(t241), (t242), (t243), (t244), (([] : List (S59))), (.slice none 0 0), hsr, H', ⟨Nat.le_refl _⟩, ⟨by first | exact Kd.S_nil _ _ _ _ _ | exact Kd.N_nil _ _ _ _ _ | exact Kd.V_nil _ _ _ _ _ | exact Kd.Q_nil _ _ _ _ _ | exact Kd.R_nil _ _ _ _ _⟩, ⟨pk BK234.out⟩, ⟨pk BK240.out⟩, ⟨pk BK235.out⟩, ⟨bl HB.out⟩⟩
 case round =>
  clear H'
  try clear c1
  try clear p2
  try clear c3
  try clear p6
  try clear c8
  try clear c9
  try clear hcz10_0 hcz10_1 hcz10_2 hfz10_0 hfz10_1 hfz10_2
  obtain ⟨x7_1, x236000_1, x236001_1, x236002_1, x241001_1, u241001, rfl, HA, HK1, HO_241001, BK234, BK240, BK235, HB⟩ := hrel
  cases gk with
  | zero => exact absurd HA.out (by simp [payload_Decode.l0])
  | succ k1 =>
   have H := HA.out
   clear HA
   simp only [payload_Decode.l0] at H
   have HC12 := Aside0.mk H
   clear H
   go_upto_region 4 with (fail)
   go_cut [28] (fun v28 wc => ∃ (kq : Nat) (x28_11 : Bool), v28 = .bool x28_11 ∧ Aside0 (payload_Decode.j1 kq x7_1 x28_11 x236000_1 x236001_1 x236002_1 t236 x241001_1 = some (r1, r2, r3, r4, r5)) ∧ Aside0 (kq ≤ k1) ∧ Aside0 (Kd.S k59 59 wc w.heap.size (fun _ => True) u241001 x241001_1) ∧ Aside0 (wc.heap[gb234]? = some (.cells #[.int .i64 0, (.slice none 0 0), (.slice none 0 0)] 25 (0, 0))) ∧ Aside0 (wc.heap[gb240]? = some (.cells #[.int .i64 t236, u241001, (.slice none 0 0)] 25 (0, 0))) ∧ Aside0 (wc.heap[gb235]? = some (.cells #[.string x236000_1, .int .i64 x236001_1, .bool x236002_1] 78 (0, 0))) ∧ Aside0 (Below w.heap.size w wc))
   case first =>
    have H := HC12.out
    clear HC12
    by_cases c13 : x7_1 > 0
    ·rw [if_pos c13] at H
     have c13b0 : decide (0 < x7_1) = true := decide_eq_true c13
     clear c13
     (first | rw [c13b0] | (simp only [i64_w, i32_w]; rw [c13b0]) | skip)
     have H' := Aside0.mk H
     clear H
     have hnb14 := NB235_234.out
     have hnc14 := NB234_235.out
     have hnb15 := NB235_240.out
     have hnc15 := NB240_235.out
     obtain ⟨hcz16_0, hcz16_1, hcz16_2, hfz16_0, hfz16_1, hfz16_2⟩ := cz3 BK235.out
     go_wp2
     go_meet
     case rel => exact ⟨_, (!x236002_1), hsr, H', ⟨by have := HK1.out; first | omega | exact Nat.le_refl _⟩, ⟨pS HO_241001.out⟩, ⟨pk BK234.out⟩, ⟨pk BK240.out⟩, ⟨pk BK235.out⟩, ⟨bl HB.out⟩⟩
    ·rw [if_neg c13] at H
     have c13b0 : decide (0 < x7_1) = false := decide_eq_false c13
     clear c13
     (first | rw [c13b0] | (simp only [i64_w, i32_w]; rw [c13b0]) | skip)
     have H' := Aside0.mk H
     clear H
     go_wp2
     go_meet
     case rel => exact ⟨_, (false), hsr, H', ⟨by have := HK1.out; first | omega | exact Nat.le_refl _⟩, ⟨pS HO_241001.out⟩, ⟨pk BK234.out⟩, ⟨pk BK240.out⟩, ⟨pk BK235.out⟩, ⟨bl HB.out⟩⟩
   case rest =>
    clear HC12
    try clear c1
    try clear p2
    try clear c3
    try clear p6
    try clear c8
    try clear c9
    try clear c13
    try clear c13b0
    try clear c14
    try clear c15
    try clear hcz16_0 hcz16_1 hcz16_2 hfz16_0 hfz16_1 hfz16_2
    try clear hcz10_0 hcz10_1 hcz10_2 hfz10_0 hfz10_1 hfz10_2
    try clear p2
    try clear p6
    obtain ⟨kq, x28_11, rfl, HA, HJ11, HO_241001, BK234, BK240, BK235, HB⟩ := hcut
    cases kq with
    | zero => exact absurd HA.out (by simp [payload_Decode.j1])
    | succ kj11 =>
     have H := HA.out
     clear HA
     simp only [payload_Decode.j1] at H
     by_cases c17 : x28_11 = true
     ·subst c17
      have H1 : ((payload_taker_number.f kj11 x236000_1 x236001_1 x236002_1 1).bind fun bt245 => ((payload_taker_text.f bt245.2.1 bt245.2.2.1 bt245.2.2.2 bt245.1).bind fun bt249 => ((payload_taker_number.f kj11 bt249.2.1 bt249.2.2.1 bt249.2.2.2 1).bind fun bt254 => (payload_Decode.l1 kj11 x7_1 bt254.1 bt254.2.1 bt254.2.2.1 bt254.2.2.2 t236 x241001_1 bt249.1 ([] : List Int))))) = some (r1, r2, r3, r4, r5) := by rw [if_pos rfl] at H; exact H
      clear H
      have H := H1
      clear H1
      replace H := Option.bind_eq_some_iff.mp H
      obtain ⟨⟨t245, t246, t247, t248⟩, A180, H⟩ := H
      replace H : ((payload_taker_text.f t246 t247 t248 t245).bind fun bt249 => ((payload_taker_number.f kj11 bt249.2.1 bt249.2.2.1 bt249.2.2.2 1).bind fun bt254 => (payload_Decode.l1 kj11 x7_1 bt254.1 bt254.2.1 bt254.2.2.1 bt254.2.2.2 t236 x241001_1 bt249.1 ([] : List Int)))) = some (r1, r2, r3, r4, r5) := H
      have A18 := Aside0.mk A180
      clear A180
      replace H := Option.bind_eq_some_iff.mp H
      obtain ⟨⟨t249, t250, t251, t252⟩, A190, H⟩ := H
      replace H : ((payload_taker_number.f kj11 t250 t251 t252 1).bind fun bt254 => (payload_Decode.l1 kj11 x7_1 bt254.1 bt254.2.1 bt254.2.2.1 bt254.2.2.2 t236 x241001_1 t249 ([] : List Int))) = some (r1, r2, r3, r4, r5) := H
      have A19 := Aside0.mk A190
      clear A190
      replace H := Option.bind_eq_some_iff.mp H
      obtain ⟨⟨t254, t255, t256, t257⟩, A200, H⟩ := H
      replace H : (payload_Decode.l1 kj11 x7_1 t254 t255 t256 t257 t236 x241001_1 t249 ([] : List Int)) = some (r1, r2, r3, r4, r5) := H
      have A20 := Aside0.mk A200
      clear A200
      have H' := Aside0.mk H
      clear H
      go_wp2_with (first | ((with_reducible refine gate_callee (f := 39) rfl ?_); refine goesL_ (some 33) rfl rfl Tryd.func39 kr rfl #[.pointer (some ⟨gb235, 0, none⟩), .int .i64 1] rfl ga ?_; (with_reducible refine (payload_taker_number.calls kj11 gb235 x236000_1 x236001_1 x236002_1 1 t245 t246 t247 t248 w _ ?side1 ?side2 A18.out).mono ?_); (case side1 => exact ⟨pk BK235.out, GE235.out⟩); (case side2 => exact bl HB.out); rintro e w21 ⟨rfl, hi, hb, hk⟩; refine ⟨_, rfl, ?_⟩; replace HO_241001 := Aside0.mk (Kd.S_mono (Kd.S_keep (IsS78.apartS (show IsS78 w _ gb235 x236000_1 x236001_1 x236002_1 from by repeat (first | (with_reducible first | exact (Aside0.mk (⟨BK235.out, GE235.out⟩ : IsS78 w _ gb235 x236000_1 x236001_1 x236002_1)).out | apply IsS78.alloc | apply IsS78.drewN | apply IsS78.drew | apply IsS78.set_0 | apply IsS78.set_1 | apply IsS78.set_2 | refine IsS78.far ?_ NB235_234.out _ | refine IsS78.far ?_ NB235_240.out _) | exact (Aside0.mk (⟨BK235.out, GE235.out⟩ : IsS78 w _ gb235 x236000_1 x236001_1 x236002_1)).out)) (pS HO_241001.out) (by decide)) hk (fun _ h => h.2)) (fun _ h => h.1)); replace BK234 := Aside0.mk (KeepBut.blk hk (g' := gb234) (o := .cells #[.int .i64 0, .slice none 0 0, .slice none 0 0] 25 (0, 0)) (pk BK234.out) NB234_235.out (by simp)); replace BK240 := Aside0.mk (KeepBut.blk hk (g' := gb240) (o := .cells #[.int .i64 t236, u241001, .slice none 0 0] 25 (0, 0)) (pk BK240.out) NB240_235.out (by simp)); replace HB := Aside0.mk (hb); replace BK235 := Aside0.mk (hi.1); (try clear hb); (try clear hb2); (try clear hk); (try clear hi)) | ((with_reducible refine gate_callee (f := 40) rfl ?_); refine goesL_ (some 34) rfl rfl Tryd.func40 kr rfl #[.pointer (some ⟨gb235, 0, none⟩), .int .i64 t245] rfl ga ?_; (with_reducible refine (payload_taker_text.calls gb235 t246 t247 t248 t245 t249 t250 t251 t252 w _ ?side1 ?side2 A19.out).mono ?_); (case side1 => exact ⟨pk BK235.out, GE235.out⟩); (case side2 => exact bl HB.out); rintro e w22 ⟨rfl, hi, hb, hk⟩; refine ⟨_, rfl, ?_⟩; replace HO_241001 := Aside0.mk (Kd.S_mono (Kd.S_keep (IsS78.apartS (show IsS78 w _ gb235 t246 t247 t248 from by repeat (first | (with_reducible first | exact (Aside0.mk (⟨BK235.out, GE235.out⟩ : IsS78 w _ gb235 t246 t247 t248)).out | apply IsS78.alloc | apply IsS78.drewN | apply IsS78.drew | apply IsS78.set_0 | apply IsS78.set_1 | apply IsS78.set_2 | refine IsS78.far ?_ NB235_234.out _ | refine IsS78.far ?_ NB235_240.out _) | exact (Aside0.mk (⟨BK235.out, GE235.out⟩ : IsS78 w _ gb235 t246 t247 t248)).out)) (pS HO_241001.out) (by decide)) hk (fun _ h => h.2)) (fun _ h => h.1)); replace BK234 := Aside0.mk (KeepBut.blk hk (g' := gb234) (o := .cells #[.int .i64 0, .slice none 0 0, .slice none 0 0] 25 (0, 0)) (pk BK234.out) NB234_235.out (by simp)); replace BK240 := Aside0.mk (KeepBut.blk hk (g' := gb240) (o := .cells #[.int .i64 t236, u241001, .slice none 0 0] 25 (0, 0)) (pk BK240.out) NB240_235.out (by simp)); replace HB := Aside0.mk (hb); replace BK235 := Aside0.mk (hi.1); (try clear hb); (try clear hb2); (try clear hk); (try clear hi)) | ((with_reducible refine gate_dst (N := 8) rfl ?_); refine box_event ?hg (N := 8) ?hd (cs := #[.string (⟨#[]⟩ : ByteArray), .slice none 0 0]) (t := 59) ?hr ?_; (case hd => rfl); (case hg => rfl); (case hr => first | (go_simp; done) | (go_simp; rfl)); intro gb253 hg w23 hbox hb; replace HO_241001 := Aside0.mk (Kd.S_below (Kd.S_elderB (pS HO_241001.out) gb253 (Nat.le_of_eq hg.symm)) hb); have BK253 := Aside0.mk (hbox); have GW253 := Aside0.mk (gs (w := w) hg (bl HB.out)); have GE253 := Aside0.mk (gs (w := w) hg (bl HB.out)); replace HB := Aside0.mk (below_step (bl HB.out) hb); have NB234_253 := Aside0.mk ((gl (g := gb234) hg (pk BK234.out))); have NB253_234 := Aside0.mk ((gm (g := gb234) hg (pk BK234.out))); replace BK234 := Aside0.mk (blk_below (pk BK234.out) hb); have NB240_253 := Aside0.mk ((gl (g := gb240) hg (pk BK240.out))); have NB253_240 := Aside0.mk ((gm (g := gb240) hg (pk BK240.out))); replace BK240 := Aside0.mk (blk_below (pk BK240.out) hb); have NB235_253 := Aside0.mk ((gl (g := gb235) hg (pk BK235.out))); have NB253_235 := Aside0.mk ((gm (g := gb235) hg (pk BK235.out))); replace BK235 := Aside0.mk (blk_below (pk BK235.out) hb); clear hb hbox hg; have hnb24 := NB253_234.out; have hnc24 := NB234_253.out; have hnb25 := NB253_240.out; have hnc25 := NB240_253.out; have hnb26 := NB253_235.out; have hnc26 := NB235_253.out; obtain ⟨hcz27_0, hcz27_1, hfz27_0, hfz27_1⟩ := cz2 BK253.out) | ((with_reducible refine gate_callee (f := 39) rfl ?_); refine goesL_ (some 37) rfl rfl Tryd.func39 kr rfl #[.pointer (some ⟨gb235, 0, none⟩), .int .i64 1] rfl ga ?_; (with_reducible refine (payload_taker_number.calls kj11 gb235 t250 t251 t252 1 t254 t255 t256 t257 w _ ?side1 ?side2 A20.out).mono ?_); (case side1 => exact ⟨by refine pk ?_; refine blk_far ?_ NB235_253.out _; refine pk ?_; refine blk_far ?_ NB235_253.out _; exact pk BK235.out, GE235.out⟩); (case side2 => exact bl HB.out); rintro e w28 ⟨rfl, hi, hb, hk⟩; refine ⟨_, rfl, ?_⟩; replace HO_241001 := Aside0.mk (Kd.S_mono (Kd.S_keep (IsS78.apartS (show IsS78 w _ gb235 t250 t251 t252 from by repeat (first | (with_reducible first | exact (Aside0.mk (⟨BK235.out, GE235.out⟩ : IsS78 w _ gb235 t250 t251 t252)).out | apply IsS78.alloc | apply IsS78.drewN | apply IsS78.drew | apply IsS78.set_0 | apply IsS78.set_1 | apply IsS78.set_2 | refine IsS78.far ?_ NB235_234.out _ | refine IsS78.far ?_ NB235_240.out _ | refine IsS78.far ?_ NB235_253.out _) | exact (Aside0.mk (⟨BK235.out, GE235.out⟩ : IsS78 w _ gb235 t250 t251 t252)).out)) (by (with_reducible repeat (first | apply Kd.S_alloc | apply Kd.S_drewN | apply Kd.S_drew)); exact (Kd.S_mono (Kd.S_far (p := ⟨gb253, 1, none⟩) (Kd.S_far (p := ⟨gb253, 0, none⟩) (Kd.S_mono HO_241001.out (fun k_ hk => (⟨hk, hk.2⟩ : _ ∧ k_ ≠ gb253))) (fun _ hk => hk.2) (.string t249)) (fun _ hk => hk.2) (.slice none 0 0)) (fun _ h_ => h_.1))) (by decide)) hk (fun _ h => h.2)) (fun _ h => h.1)); replace BK234 := Aside0.mk (KeepBut.blk hk (g' := gb234) (o := .cells #[.int .i64 0, .slice none 0 0, .slice none 0 0] 25 (0, 0)) (by refine pk ?_; refine blk_far ?_ NB234_253.out _; refine pk ?_; refine blk_far ?_ NB234_253.out _; exact pk BK234.out) NB234_235.out (by simp)); replace BK240 := Aside0.mk (KeepBut.blk hk (g' := gb240) (o := .cells #[.int .i64 t236, u241001, .slice none 0 0] 25 (0, 0)) (by refine pk ?_; refine blk_far ?_ NB240_253.out _; refine pk ?_; refine blk_far ?_ NB240_253.out _; exact pk BK240.out) NB240_235.out (by simp)); replace BK253 := Aside0.mk (KeepBut.blk hk (g' := gb253) (o := .cells #[.string t249, .slice none 0 0] 59 (0, 0)) (by refine pk ?_; refine blk_put (cs := #[.string t249, .slice none 0 0]) ?_ 1 _ rfl; refine pk ?_; refine blk_put (cs := #[.string (⟨#[]⟩ : ByteArray), .slice none 0 0]) ?_ 0 _ rfl; exact pk BK253.out) NB253_235.out (by simp)); replace HB := Aside0.mk (hb); replace BK235 := Aside0.mk (hi.1); (try clear hb); (try clear hb2); (try clear hk); (try clear hi)))
      go_loopg [9] kj11 (fun kq v9 w' => ∃ (x9_3 : Int) (x236000_3 : ByteArray) (x236001_3 : Int) (x236002_3 : Bool) (x254001_3 : List Int) (u254001 : Value), v9 = .int .i64 x9_3 ∧ Aside0 (payload_Decode.l1 kq x7_1 x9_3 x236000_3 x236001_3 x236002_3 t236 x241001_1 t249 x254001_3 = some (r1, r2, r3, r4, r5)) ∧ Aside0 (kq ≤ kj11) ∧ Aside0 (Kd.S k59 59 w' w.heap.size (fun k_ => some k_ ≠ (u254001 : Value).ownBlock ∧ k_ ≠ gb253) u241001 x241001_1) ∧ Aside0 (Kd.R (Kd.int .i64) 3 w' w.heap.size (fun _ => True) u254001 x254001_3) ∧ Aside0 (w'.heap[gb234]? = some (.cells #[.int .i64 0, (.slice none 0 0), (.slice none 0 0)] 25 (0, 0))) ∧ Aside0 (w'.heap[gb240]? = some (.cells #[.int .i64 t236, u241001, (.slice none 0 0)] 25 (0, 0))) ∧ Aside0 (w'.heap[gb253]? = some (.cells #[.string t249, u254001] 59 (0, 0))) ∧ Aside0 (w'.heap[gb235]? = some (.cells #[.string x236000_3, .int .i64 x236001_3, .bool x236002_3] 78 (0, 0))) ∧ Aside0 (Below w.heap.size w w'))
      case atStart => exact ⟨(t254), (t255), (t256), (t257), (([] : List Int)), (.slice none 0 0), hsr, H', ⟨Nat.le_refl _⟩, ⟨by (with_reducible repeat (first | apply Kd.S_alloc | apply Kd.S_drewN | apply Kd.S_drew)); exact Kd.S_mono HO_241001.out (fun _ hk => ⟨(by simp [Value.ownBlock]), hk.2⟩)⟩, ⟨by first | exact Kd.R_nil _ _ _ _ _ | exact Kd.N_nil _ _ _ _ _ | exact Kd.V_nil _ _ _ _ _ | exact Kd.Q_nil _ _ _ _ _ | exact Kd.S_nil _ _ _ _ _⟩, ⟨pk BK234.out⟩, ⟨pk BK240.out⟩, ⟨pk BK253.out⟩, ⟨pk BK235.out⟩, ⟨bl HB.out⟩⟩
      case round =>
       clear H'
       try clear c1
       try clear c2
       try clear p2
       try clear c3
       try clear c4
       try clear p6
       try clear c8
       try clear c9
       try clear c13
       try clear c13b0
       try clear c14
       try clear c15
       try clear c17
       try clear c19
       try clear c24
       try clear c25
       try clear c26
       try clear hcz27_0 hcz27_1 hfz27_0 hfz27_1
       try clear hcz16_0 hcz16_1 hcz16_2 hfz16_0 hfz16_1 hfz16_2
       try clear hcz10_0 hcz10_1 hcz10_2 hfz10_0 hfz10_1 hfz10_2
       try clear p2
       try clear p6
       obtain ⟨x9_3, x236000_3, x236001_3, x236002_3, x254001_3, u254001, rfl, HA, HK3, HO_241001, HO_254001, BK234, BK240, BK253, BK235, HB⟩ := hrel
       cases gk with
       | zero => exact absurd HA.out (by simp [payload_Decode.l1])
       | succ k3 =>
        have H := HA.out
        clear HA
        simp only [payload_Decode.l1] at H
        by_cases c29 : x9_3 > 0
        ·rw [if_pos c29] at H
         have c29b0 : decide (0 < x9_3) = true := decide_eq_true c29
         clear c29
         by_cases c30 : x236002_3 = true
         ·subst c30
          have H1 : (if x241001_1.length < 3518437208883 then (payload_Decode.l0 k3 (wrap64 (x7_1 - 1)) x236000_3 x236001_3 true t236 (x241001_1 ++ [(⟨t249, x254001_3⟩ : S59)])) else (none)) = some (r1, r2, r3, r4, r5) := by rw [if_pos rfl] at H; exact H
          clear H
          have H := H1
          clear H1
          by_cases c31 : x241001_1.length < 3518437208883
          ·rw [if_pos c31] at H
           have LMc31 := Aside0.mk c31
           clear c31
           obtain ⟨y258, hy258⟩ : ∃ y_ : List (S59), y_ = (x241001_1 ++ [(⟨t249, x254001_3⟩ : S59)]) := ⟨_, rfl⟩
           replace H : (payload_Decode.l0 k3 (wrap64 (x7_1 - 1)) x236000_3 x236001_3 true t236 y258) = some (r1, r2, r3, r4, r5) := by first | (rw [hy258]; with_reducible exact H) | (have H2_ := (Option.bind_some _ _).symm.trans H; rw [hy258]; with_reducible exact H2_) | (have H2_ := (Option.bind_some _ _).symm.trans H; with_reducible exact H2_) | with_reducible exact H | (rw [hy258]; exact H) | exact H
           have Ny258 := Aside0.mk hy258
           clear hy258
           have H' := Aside0.mk H
           clear H
           have hnb32 := NB235_234.out
           have hnc32 := NB234_235.out
           have hnb33 := NB235_240.out
           have hnc33 := NB240_235.out
           have hnb34 := NB235_253.out
           have hnc34 := NB253_235.out
           obtain ⟨hcz35_0, hcz35_1, hcz35_2, hfz35_0, hfz35_1, hfz35_2⟩ := cz3 BK235.out
           have hnb36 := NB240_234.out
           have hnc36 := NB234_240.out
           have hnb37 := NB240_253.out
           have hnc37 := NB253_240.out
           obtain ⟨hcz38_0, hcz38_1, hcz38_2, hfz38_0, hfz38_1, hfz38_2⟩ := cz3 BK240.out
           have hnb39 := NB253_234.out
           have hnc39 := NB234_253.out
           obtain ⟨hcz40_0, hcz40_1, hfz40_0, hfz40_1⟩ := cz2 BK253.out
           obtain ⟨Ao42, co42, eo42⟩ := Kd.R_slice HO_254001.out
           subst eo42
           go_wp2_with (first | ((with_reducible refine gate_builtin (b := .append) (xs := #[.tmp 58, .tmp 60]) rfl ?_); at_builtin; refine Kd.S_append k59 (w0 := w) w.heap.size rfl (.tmp 58) (.tmp 60) 22 59 (.agg #[(.string ⟨#[]⟩), (.slice none 0 0)]) 40 rfl Tryd.underlying22 info59 rfl (by decide) (by omega) u241001 x241001_1 (⟨t249, x254001_3⟩ : S59) [.string t249, .slice Ao42 x254001_3.length co42] (fun k_ => k_ ≠ gb253) (fun k_ => some k_ = (.slice Ao42 x254001_3.length co42 : Value).ownBlock) rfl rfl ?aP (fun k_ hk_ => ((Kd.R_mono (ok' := fun k_ => ((fun k_ => k_ ≠ gb253)) k_ ∧ some k_ ≠ (u241001 : Value).ownBlock) (Kd.R_types (Kd.R_apart' (HO_254001.out) (Kd.S_typed HO_241001.out) (by decide)) BK253.out (by decide)) (fun k_ hk => ⟨hk.2, hk.1.2⟩))).1 k_ hk_.symm) ?aF ?aO ?aB ?aS ?aL ?_; (case aP => exact k59_mkM _ _ _ (⟨t249, x254001_3⟩ : S59) (Kd.R_mono (Kd.R_tight rfl (Kd.R_mono (ok' := fun k_ => ((fun k_ => k_ ≠ gb253)) k_ ∧ some k_ ≠ (u241001 : Value).ownBlock) (Kd.R_types (Kd.R_apart' (HO_254001.out) (Kd.S_typed HO_241001.out) (by decide)) BK253.out (by decide)) (fun k_ hk => ⟨hk.2, hk.1.2⟩))) (fun _ h_ => h_))); (case aB => exact (bl HB.out)); (case aF => exact (fun k_ hk => Kd.freshB (g := gb253) (o := .cells #[.string t249, .slice Ao42 x254001_3.length co42] 59 (0, 0)) (pk BK253.out) k_ hk)); (case aO => exact (by (with_reducible repeat (first | apply Kd.S_alloc | apply Kd.S_drewN | apply Kd.S_drew)); exact Kd.S_mono HO_241001.out (fun k_ hk => ⟨hk.2, fun e_ => hk.1 e_⟩))); (case aS => exact (below_size (bl HB.out))); (case aL => have := LMc31.out; omega); intro v259 w41 ho hb hg hat; rw [← Ny258.out] at ho; replace BK234 := Aside0.mk (blk_grown (g := gb234) (o := .cells #[.int .i64 0, .slice none 0 0, .slice none 0 0] 25 (0, 0)) (pk BK234.out) hg (Kd.S_ne HO_241001.out BK234.out (by decide))); replace BK240 := Aside0.mk (blk_grown (g := gb240) (o := .cells #[.int .i64 t236, u241001, .slice none 0 0] 25 (0, 0)) (pk BK240.out) hg (Kd.S_ne HO_241001.out BK240.out (by decide))); replace BK253 := Aside0.mk (blk_grown (g := gb253) (o := .cells #[.string t249, .slice Ao42 x254001_3.length co42] 59 (0, 0)) (pk BK253.out) hg (Kd.S_away HO_241001.out (fun _ hk => hk.2))); replace BK235 := Aside0.mk (blk_grown (g := gb235) (o := .cells #[.string x236000_3, .int .i64 x236001_3, .bool true] 78 (0, 0)) (pk BK235.out) hg (Kd.S_ne HO_241001.out BK235.out (by decide))); replace HB := Aside0.mk (hb); have HO260 := Aside0.mk (ho); clear HO_241001 HO_254001; clear ho hb hg hat; obtain ⟨Ao43, co43, eo43⟩ := Kd.S_slice HO260.out; subst eo43; obtain ⟨hcz44_0, hcz44_1, hcz44_2, hfz44_0, hfz44_1, hfz44_2⟩ := cz3 BK240.out))
           go_roundg k3
           case measure => have := HK1.out; have := HJ11.out; have := HK3.out; omega
           case rel => exact ⟨(wrap64 (x7_1 - 1)), (x236000_3), (x236001_3), (true), (y258), (.slice Ao43 y258.length co43), hsr, H', ⟨by have := HK1.out; have := HJ11.out; have := HK3.out; omega⟩, ⟨by (with_reducible repeat (first | apply Kd.S_alloc | apply Kd.S_drewN | apply Kd.S_drew)); exact Kd.S_mono (Kd.S_far (p := ⟨gb240, 1, none⟩) (Kd.S_types HO260.out BK240.out (by decide)) (fun _ hk => hk.2) (.slice Ao43 y258.length co43)) (fun _ hk => trivial)⟩, ⟨by refine pk ?_; refine blk_far ?_ NB234_240.out _; exact pk BK234.out⟩, ⟨by refine pk ?_; refine blk_put (cs := #[.int .i64 t236, u241001, .slice none 0 0]) ?_ 1 _ rfl; exact pk BK240.out⟩, ⟨by refine pk ?_; refine blk_far ?_ NB235_240.out _; exact pk BK235.out⟩, ⟨bl HB.out⟩⟩
          ·rw [if_neg c31] at H
           exact absurd H (by simp)
         ·replace c30 := Bool.eq_false_iff.mpr c30
          subst c30
          have H1 : ((payload_taker_number.f k3 x236000_3 x236001_3 false 2).bind fun bt261 => (if x254001_3.length < 17592186044416 then (payload_Decode.l1 k3 x7_1 (wrap64 (x9_3 - 1)) bt261.2.1 bt261.2.2.1 bt261.2.2.2 t236 x241001_1 t249 (x254001_3 ++ [wrap64 (bt261.1 - 32768)])) else (none))) = some (r1, r2, r3, r4, r5) := by rw [if_neg (show ¬ (false = true) by decide)] at H; exact H
          clear H
          have H := H1
          clear H1
          replace H := Option.bind_eq_some_iff.mp H
          obtain ⟨⟨t261, t262, t263, t264⟩, A450, H⟩ := H
          replace H : (if x254001_3.length < 17592186044416 then (payload_Decode.l1 k3 x7_1 (wrap64 (x9_3 - 1)) t262 t263 t264 t236 x241001_1 t249 (x254001_3 ++ [wrap64 (t261 - 32768)])) else (none)) = some (r1, r2, r3, r4, r5) := H
          have A45 := Aside0.mk A450
          clear A450
          by_cases c46 : x254001_3.length < 17592186044416
          ·rw [if_pos c46] at H
           have LMc46 := Aside0.mk c46
           clear c46
           obtain ⟨y265, hy265⟩ : ∃ y_ : List Int, y_ = (x254001_3 ++ [wrap64 (t261 - 32768)]) := ⟨_, rfl⟩
           replace H : (payload_Decode.l1 k3 x7_1 (wrap64 (x9_3 - 1)) t262 t263 t264 t236 x241001_1 t249 y265) = some (r1, r2, r3, r4, r5) := by first | (rw [hy265]; with_reducible exact H) | (have H2_ := (Option.bind_some _ _).symm.trans H; rw [hy265]; with_reducible exact H2_) | (have H2_ := (Option.bind_some _ _).symm.trans H; with_reducible exact H2_) | with_reducible exact H | (rw [hy265]; exact H) | exact H
           have Ny265 := Aside0.mk hy265
           clear hy265
           have H' := Aside0.mk H
           clear H
           have hnb47 := NB235_234.out
           have hnc47 := NB234_235.out
           have hnb48 := NB235_240.out
           have hnc48 := NB240_235.out
           have hnb49 := NB235_253.out
           have hnc49 := NB253_235.out
           obtain ⟨hcz50_0, hcz50_1, hcz50_2, hfz50_0, hfz50_1, hfz50_2⟩ := cz3 BK235.out
           try go_wp2
           replace HO_241001 := Aside0.mk (Kd.S_drew HO_241001.out)
           replace HO_254001 := Aside0.mk (Kd.R_drew HO_254001.out)
           replace BK234 := Aside0.mk (blk_drew BK234.out)
           replace BK240 := Aside0.mk (blk_drew BK240.out)
           replace BK253 := Aside0.mk (blk_drew BK253.out)
           replace BK235 := Aside0.mk (blk_drew BK235.out)
           replace HB := Aside0.mk (below_drew1 HB.out)
           refine start_ (n := 9) (S := fun w' => w'.cell? ⟨gb253, 0, none⟩ = some (.string t249) ∧ w'.cell? ⟨gb253, 1, none⟩ = some (u254001)) (ds := [8]) #[false, false, false, false, false, false, false, false, false] kr rfl rfl ⟨(blk_cell BK253.out 0).trans rfl, (blk_cell BK253.out 1).trans rfl⟩ (fun hHeld => ?_); refine with_tabW payload_Decode.tab10 payload_Decode.bits10 (fun HT_ HW_ => ?_)
           generalize wr.drew = w51 at HO_241001 HO_254001 BK234 BK240 BK253 BK235 HB hHeld ⊢
           refine pure_ (i := 0) (N := some 49) (v := ?_) (a' := ?_) #[true, false, false, false, false, false, false, false, false] rfl rfl (any_of HT_.out kr) (fun _ _ _ h => h) (Or.inl ⟨by rfl, ?_⟩) ?_ ?_
           rotate_left
           ·exact wl
           rotate_left
           ·exact ap
           refine pure_ (i := 2) (N := some 51) (v := ?_) (a' := ?_) #[true, false, true, false, false, false, false, false, false] rfl rfl (any_of HT_.out kr) (fun _ _ _ h => h) (Or.inl ⟨by rfl, ?_⟩) ?_ ?_
           rotate_left
           ·exact wl
           rotate_left
           ·exact ap
           refine take_ (i := 1) (N := some 50) (v := ?_) (a' := ?_) #[true, true, true, false, false, false, false, false, false] rfl rfl (take_ofW HT_.out HW_.out kr) (fun _ _ _ h => h) (Or.inl ⟨by rfl, ?_⟩) hHeld ?_ ?_
           rotate_left
           ·rintro w' ⟨s0, s1⟩
            go_simp
            exact rl
           rotate_left
           ·exact ap
           refine one_ (i := 3) (N := some 52) #[true, true, true, true, false, false, false, false, false] rfl rfl (one_of HT_.out kr) (by decide) (fun K hK => ?_)
           refine goes_ Tryd.func39 kr rfl #[.pointer (some ⟨gb235, 0, none⟩), .int .i64 2] (by rfl) rfl rfl ga ?_
           with_reducible refine (payload_taker_number.calls k3 gb235 x236000_3 x236001_3 false 2 t261 t262 t263 t264 w _ ?side1 ?side2 A45.out).mono ?_
           (case side1 => exact ⟨pk BK235.out, GE235.out⟩)
           (case side2 => exact bl HB.out)
           rintro e w52 ⟨rfl, hi, hb, hk⟩
           refine ⟨_, rfl, ?_⟩
           replace HO_241001 := Aside0.mk (Kd.S_mono (Kd.S_keep (IsS78.apartS (show IsS78 w _ gb235 x236000_3 x236001_3 false from by repeat (first | (with_reducible first | exact (Aside0.mk (⟨BK235.out, GE235.out⟩ : IsS78 w _ gb235 x236000_3 x236001_3 false)).out | apply IsS78.alloc | apply IsS78.drewN | apply IsS78.drew | apply IsS78.set_0 | apply IsS78.set_1 | apply IsS78.set_2 | refine IsS78.far ?_ NB235_234.out _ | refine IsS78.far ?_ NB235_240.out _ | refine IsS78.far ?_ NB235_253.out _) | exact (Aside0.mk (⟨BK235.out, GE235.out⟩ : IsS78 w _ gb235 x236000_3 x236001_3 false)).out)) (pS HO_241001.out) (by decide)) hk (fun _ h => h.2)) (fun _ h => h.1))
           replace HO_254001 := Aside0.mk (Kd.R_mono (Kd.R_keep (IsS78.apart (show IsS78 w _ gb235 x236000_3 x236001_3 false from by repeat (first | (with_reducible first | exact (Aside0.mk (⟨BK235.out, GE235.out⟩ : IsS78 w _ gb235 x236000_3 x236001_3 false)).out | apply IsS78.alloc | apply IsS78.drewN | apply IsS78.drew | apply IsS78.set_0 | apply IsS78.set_1 | apply IsS78.set_2 | refine IsS78.far ?_ NB235_234.out _ | refine IsS78.far ?_ NB235_240.out _ | refine IsS78.far ?_ NB235_253.out _) | exact (Aside0.mk (⟨BK235.out, GE235.out⟩ : IsS78 w _ gb235 x236000_3 x236001_3 false)).out)) (pR HO_254001.out) (by decide)) hk (fun _ h => h.2)) (fun _ h => h.1))
           replace BK234 := Aside0.mk (KeepBut.blk hk (g' := gb234) (o := .cells #[.int .i64 0, .slice none 0 0, .slice none 0 0] 25 (0, 0)) (pk BK234.out) NB234_235.out (by simp))
           replace BK240 := Aside0.mk (KeepBut.blk hk (g' := gb240) (o := .cells #[.int .i64 t236, u241001, .slice none 0 0] 25 (0, 0)) (pk BK240.out) NB240_235.out (by simp))
           replace BK253 := Aside0.mk (KeepBut.blk hk (g' := gb253) (o := .cells #[.string t249, u254001] 59 (0, 0)) (pk BK253.out) NB253_235.out (by simp))
           replace HB := Aside0.mk (hb)
           replace BK235 := Aside0.mk (hi.1)
           (try clear hb)
           (try clear hb2)
           (try clear hk)
           (try clear hi)
           refine hK.out _ _ ⟨(blk_cell BK253.out 0).trans rfl, (blk_cell BK253.out 1).trans rfl⟩ (fun hHeld => ?_)
           clear hK K
           refine norm_ (a' := ?_) ?_ ?_
           rotate_left
           ·show Act.put _ (some 52) _ = _
            exact ap
           refine pure_ (i := 4) (N := some 53) (v := ?_) (a' := ?_) #[true, true, true, true, true, false, false, false, false] rfl rfl (any_of HT_.out kr) (fun _ _ _ h => h) (Or.inl ⟨by rfl, ?_⟩) ?_ ?_
           rotate_left
           ·exact wl
           rotate_left
           ·exact ap
           refine one_ (i := 5) (N := some 54) #[true, true, true, true, true, true, false, false, false] rfl rfl (one_of HT_.out kr) (by decide) (fun K hK => ?_)
           refine value_ (w1 := ?_) (v := ?_) (by rfl) rfl ?_ ?_
           rotate_left 2
           ·go_simp
            constructor
            ·rfl
            ·rfl
           refine hK.out _ _ ⟨(blk_cell (blk_alloc BK253.out _) 0).trans rfl, (blk_cell (blk_alloc BK253.out _) 1).trans rfl⟩ (fun hHeld => ?_)
           clear hK K
           refine norm_ (a' := ?_) ?_ ?_
           rotate_left
           ·show Act.put _ (some 54) _ = _
            exact ap
           refine one_ (i := 6) (N := some 55) #[true, true, true, true, true, true, true, false, false] rfl rfl (one_of HT_.out kr) (by decide) (fun K hK => ?_)
           refine Kd.R_append_step (Kd.int .i64) (w0 := w) w.heap.size (by rfl) (.tmp 50) (.tmp 54) 57 3 (.int .i64 0) 8 rfl Tryd.underlying57 info3 rfl (by decide) (by omega) u254001 x254001_3 (wrap64 (t261 - 32768)) [.int .i64 (wrap64 (t261 - 32768))] (fun _ => True) (fun _ => False) rfl rfl ?aP (fun _ hk => hk.elim) ?aF ?aO ?aB ?aS ?aL ?_
           (case aP => exact rfl)
           (case aB => exact (bl HB.out))
           (case aF => exact (fun _ _ => trivial))
           (case aO => exact (pR HO_254001.out))
           (case aS => exact (below_size (bl HB.out)))
           (case aL => have := LMc46.out; omega)
           intro v266 w53 ho hb hg hat
           rw [← Ny265.out] at ho
           replace HO_241001 := Aside0.mk (Kd.S_after (ok := (fun k_ => k_ ≠ gb253)) (by (with_reducible repeat (first | apply Kd.S_alloc | apply Kd.S_drewN | apply Kd.S_drew)); exact Kd.S_mono HO_241001.out (fun _ hk => ⟨hk.2, hk.1⟩)) hg hat)
           replace BK234 := Aside0.mk (blk_grown (g := gb234) (o := .cells #[.int .i64 0, .slice none 0 0, .slice none 0 0] 25 (0, 0)) (pk BK234.out) hg (Kd.R_ne HO_254001.out BK234.out (by decide)))
           replace BK240 := Aside0.mk (blk_grown (g := gb240) (o := .cells #[.int .i64 t236, u241001, .slice none 0 0] 25 (0, 0)) (pk BK240.out) hg (Kd.R_ne HO_254001.out BK240.out (by decide)))
           replace BK253 := Aside0.mk (blk_grown (g := gb253) (o := .cells #[.string t249, u254001] 59 (0, 0)) (pk BK253.out) hg (Kd.R_ne HO_254001.out BK253.out (by decide)))
           replace BK235 := Aside0.mk (blk_grown (g := gb235) (o := .cells #[.string t262, .int .i64 t263, .bool t264] 78 (0, 0)) (pk BK235.out) hg (Kd.R_ne HO_254001.out BK235.out (by decide)))
           replace HB := Aside0.mk (hb)
           have HO267 := Aside0.mk (ho)
           clear HO_254001
           clear ho hb hg hat
           obtain ⟨Ao54, co54, eo54⟩ := Kd.R_slice HO267.out
           (first | subst eo54 | (injection eo54 with f1_ f2_ f3_; have f4_ := f1_.symm; have f5_ := f3_.symm; clear f1_ f2_ f3_; subst f4_; subst f5_))
           refine hK.out _ _ ⟨(blk_cell BK253.out 0).trans rfl, (blk_cell BK253.out 1).trans rfl⟩ (fun hHeld => ?_)
           clear hK K
           refine norm_ (a' := ?_) ?_ ?_
           rotate_left
           ·show Act.put _ (some 55) _ = _
            exact ap
           refine pure_ (i := 7) (N := some 56) (v := ?_) (a' := ?_) #[true, true, true, true, true, true, true, true, false] rfl rfl (any_of HT_.out kr) (fun _ _ _ h => h) (Or.inl ⟨by rfl, ?_⟩) ?_ ?_
           rotate_left
           ·exact wl
           rotate_left
           ·exact ap
           refine last_ (i := 8) (N := none) #[true, true, true, true, true, true, true, true, true] rfl rfl (one_of HT_.out kr) (by decide) (fun K hK => ?_)
           have hs55 : w53.cell? ⟨gb253, 1, none⟩ = some (u254001) := (blk_cell BK253.out 1).trans rfl
           have hfs55 := blk_frozen BK253.out 1
           have hns55_0 := NB234_253.out
           have hns55_1 := NB240_253.out
           have hns55_3 := NB235_253.out
           have hms55_0 := NB253_234.out
           have hms55_1 := NB253_240.out
           have hms55_3 := NB253_235.out
           refine skip_ (w1 := ?_) (by rfl) rfl ?_ ?_
           rotate_left
           ·go_simp
            rfl
           refine hK.out _ _ ?_
           clear hK K
           refine done_ (done_of HT_.out kr) ?_
           try go_wp2
           go_roundg k3
           case measure => have := HK1.out; have := HJ11.out; have := HK3.out; omega
           case rel => exact ⟨(wrap64 (x9_3 - 1)), (t262), (t263), (t264), (y265), (.slice Ao54 y265.length co54), hsr, H', ⟨by have := HK1.out; have := HJ11.out; have := HK3.out; omega⟩, ⟨by (with_reducible repeat (first | apply Kd.S_alloc | apply Kd.S_drewN | apply Kd.S_drew)); exact Kd.S_mono (Kd.S_far (p := ⟨gb253, 1, none⟩) (Kd.S_mono HO_241001.out (fun k_ hk => (⟨hk, hk.1⟩ : _ ∧ k_ ≠ gb253))) (fun _ hk => hk.2) (.slice Ao54 y265.length co54)) (fun _ hk => ⟨hk.1.2, hk.1.1⟩)⟩, ⟨by (with_reducible repeat (first | apply Kd.R_alloc | apply Kd.R_drewN | apply Kd.R_drew)); exact Kd.R_mono (Kd.R_far (p := ⟨gb253, 1, none⟩) (Kd.R_types HO267.out BK253.out (by decide)) (fun _ hk => hk.2) (.slice Ao54 y265.length co54)) (fun _ hk => trivial)⟩, ⟨by refine pk ?_; refine blk_far ?_ NB234_253.out _; exact pk BK234.out⟩, ⟨by refine pk ?_; refine blk_far ?_ NB240_253.out _; exact pk BK240.out⟩, ⟨by refine pk ?_; refine blk_put (cs := #[.string t249, u254001]) ?_ 1 _ rfl; exact pk BK253.out⟩, ⟨by refine pk ?_; refine blk_far ?_ NB235_253.out _; exact pk BK235.out⟩, ⟨bl HB.out⟩⟩
          ·rw [if_neg c46] at H
           exact absurd H (by simp)
        ·rw [if_neg c29] at H
         have c29b0 : decide (0 < x9_3) = false := decide_eq_false c29
         clear c29
         by_cases c56 : x241001_1.length < 3518437208883
         ·rw [if_pos c56] at H
          have LMc56 := Aside0.mk c56
          clear c56
          obtain ⟨y268, hy268⟩ : ∃ y_ : List (S59), y_ = (x241001_1 ++ [(⟨t249, x254001_3⟩ : S59)]) := ⟨_, rfl⟩
          replace H : (payload_Decode.l0 k3 (wrap64 (x7_1 - 1)) x236000_3 x236001_3 x236002_3 t236 y268) = some (r1, r2, r3, r4, r5) := by first | (rw [hy268]; with_reducible exact H) | (have H2_ := (Option.bind_some _ _).symm.trans H; rw [hy268]; with_reducible exact H2_) | (have H2_ := (Option.bind_some _ _).symm.trans H; with_reducible exact H2_) | with_reducible exact H | (rw [hy268]; exact H) | exact H
          have Ny268 := Aside0.mk hy268
          clear hy268
          have H' := Aside0.mk H
          clear H
          have hnb57 := NB240_234.out
          have hnc57 := NB234_240.out
          have hnb58 := NB240_253.out
          have hnc58 := NB253_240.out
          have hnb59 := NB240_235.out
          have hnc59 := NB235_240.out
          obtain ⟨hcz60_0, hcz60_1, hcz60_2, hfz60_0, hfz60_1, hfz60_2⟩ := cz3 BK240.out
          have hnb61 := NB253_234.out
          have hnc61 := NB234_253.out
          have hnb62 := NB253_235.out
          have hnc62 := NB235_253.out
          obtain ⟨hcz63_0, hcz63_1, hfz63_0, hfz63_1⟩ := cz2 BK253.out
          obtain ⟨Ao65, co65, eo65⟩ := Kd.R_slice HO_254001.out
          subst eo65
          go_wp2_with (first | ((with_reducible refine gate_builtin (b := .append) (xs := #[.tmp 58, .tmp 60]) rfl ?_); at_builtin; refine Kd.S_append k59 (w0 := w) w.heap.size rfl (.tmp 58) (.tmp 60) 22 59 (.agg #[(.string ⟨#[]⟩), (.slice none 0 0)]) 40 rfl Tryd.underlying22 info59 rfl (by decide) (by omega) u241001 x241001_1 (⟨t249, x254001_3⟩ : S59) [.string t249, .slice Ao65 x254001_3.length co65] (fun k_ => k_ ≠ gb253) (fun k_ => some k_ = (.slice Ao65 x254001_3.length co65 : Value).ownBlock) rfl rfl ?aP (fun k_ hk_ => ((Kd.R_mono (ok' := fun k_ => ((fun k_ => k_ ≠ gb253)) k_ ∧ some k_ ≠ (u241001 : Value).ownBlock) (Kd.R_types (Kd.R_apart' (HO_254001.out) (Kd.S_typed HO_241001.out) (by decide)) BK253.out (by decide)) (fun k_ hk => ⟨hk.2, hk.1.2⟩))).1 k_ hk_.symm) ?aF ?aO ?aB ?aS ?aL ?_; (case aP => exact k59_mkM _ _ _ (⟨t249, x254001_3⟩ : S59) (Kd.R_mono (Kd.R_tight rfl (Kd.R_mono (ok' := fun k_ => ((fun k_ => k_ ≠ gb253)) k_ ∧ some k_ ≠ (u241001 : Value).ownBlock) (Kd.R_types (Kd.R_apart' (HO_254001.out) (Kd.S_typed HO_241001.out) (by decide)) BK253.out (by decide)) (fun k_ hk => ⟨hk.2, hk.1.2⟩))) (fun _ h_ => h_))); (case aB => exact (bl HB.out)); (case aF => exact (fun k_ hk => Kd.freshB (g := gb253) (o := .cells #[.string t249, .slice Ao65 x254001_3.length co65] 59 (0, 0)) (pk BK253.out) k_ hk)); (case aO => exact (by (with_reducible repeat (first | apply Kd.S_alloc | apply Kd.S_drewN | apply Kd.S_drew)); exact Kd.S_mono HO_241001.out (fun k_ hk => ⟨hk.2, fun e_ => hk.1 e_⟩))); (case aS => exact (below_size (bl HB.out))); (case aL => have := LMc56.out; omega); intro v269 w64 ho hb hg hat; rw [← Ny268.out] at ho; replace BK234 := Aside0.mk (blk_grown (g := gb234) (o := .cells #[.int .i64 0, .slice none 0 0, .slice none 0 0] 25 (0, 0)) (pk BK234.out) hg (Kd.S_ne HO_241001.out BK234.out (by decide))); replace BK240 := Aside0.mk (blk_grown (g := gb240) (o := .cells #[.int .i64 t236, u241001, .slice none 0 0] 25 (0, 0)) (pk BK240.out) hg (Kd.S_ne HO_241001.out BK240.out (by decide))); replace BK253 := Aside0.mk (blk_grown (g := gb253) (o := .cells #[.string t249, .slice Ao65 x254001_3.length co65] 59 (0, 0)) (pk BK253.out) hg (Kd.S_away HO_241001.out (fun _ hk => hk.2))); replace BK235 := Aside0.mk (blk_grown (g := gb235) (o := .cells #[.string x236000_3, .int .i64 x236001_3, .bool x236002_3] 78 (0, 0)) (pk BK235.out) hg (Kd.S_ne HO_241001.out BK235.out (by decide))); replace HB := Aside0.mk (hb); have HO270 := Aside0.mk (ho); clear HO_241001 HO_254001; clear ho hb hg hat; obtain ⟨Ao66, co66, eo66⟩ := Kd.S_slice HO270.out; subst eo66; obtain ⟨hcz67_0, hcz67_1, hcz67_2, hfz67_0, hfz67_1, hfz67_2⟩ := cz3 BK240.out))
          go_roundg k3
          case measure => have := HK1.out; have := HJ11.out; have := HK3.out; omega
          case rel => exact ⟨(wrap64 (x7_1 - 1)), (x236000_3), (x236001_3), (x236002_3), (y268), (.slice Ao66 y268.length co66), hsr, H', ⟨by have := HK1.out; have := HJ11.out; have := HK3.out; omega⟩, ⟨by (with_reducible repeat (first | apply Kd.S_alloc | apply Kd.S_drewN | apply Kd.S_drew)); exact Kd.S_mono (Kd.S_far (p := ⟨gb240, 1, none⟩) (Kd.S_types HO270.out BK240.out (by decide)) (fun _ hk => hk.2) (.slice Ao66 y268.length co66)) (fun _ hk => trivial)⟩, ⟨by refine pk ?_; refine blk_far ?_ NB234_240.out _; exact pk BK234.out⟩, ⟨by refine pk ?_; refine blk_put (cs := #[.int .i64 t236, u241001, .slice none 0 0]) ?_ 1 _ rfl; exact pk BK240.out⟩, ⟨by refine pk ?_; refine blk_far ?_ NB235_240.out _; exact pk BK235.out⟩, ⟨bl HB.out⟩⟩
         ·rw [if_neg c56] at H
          exact absurd H (by simp)
     ·replace c17 := Bool.eq_false_iff.mpr c17
      subst c17
      have H1 : ((payload_taker_number.f kj11 x236000_1 x236001_1 x236002_1 1).bind fun bt271 => (payload_Decode.l2 kj11 bt271.1 bt271.2.1 bt271.2.2.1 bt271.2.2.2 t236 x241001_1 ([] : List (S61)))) = some (r1, r2, r3, r4, r5) := by rw [if_neg (show ¬ (false = true) by decide)] at H; exact H
      clear H
      have H := H1
      clear H1
      replace H := Option.bind_eq_some_iff.mp H
      obtain ⟨⟨t271, t272, t273, t274⟩, A680, H⟩ := H
      replace H : (payload_Decode.l2 kj11 t271 t272 t273 t274 t236 x241001_1 ([] : List (S61))) = some (r1, r2, r3, r4, r5) := H
      have A68 := Aside0.mk A680
      clear A680
      have H' := Aside0.mk H
      clear H
      go_wp2_with (first | ((with_reducible refine gate_callee (f := 39) rfl ?_); refine goesL_ (some 64) rfl rfl Tryd.func39 kr rfl #[.pointer (some ⟨gb235, 0, none⟩), .int .i64 1] rfl ga ?_; (with_reducible refine (payload_taker_number.calls kj11 gb235 x236000_1 x236001_1 x236002_1 1 t271 t272 t273 t274 w _ ?side1 ?side2 A68.out).mono ?_); (case side1 => exact ⟨pk BK235.out, GE235.out⟩); (case side2 => exact bl HB.out); rintro e w69 ⟨rfl, hi, hb, hk⟩; refine ⟨_, rfl, ?_⟩; replace HO_241001 := Aside0.mk (Kd.S_mono (Kd.S_keep (IsS78.apartS (show IsS78 w _ gb235 x236000_1 x236001_1 x236002_1 from by repeat (first | (with_reducible first | exact (Aside0.mk (⟨BK235.out, GE235.out⟩ : IsS78 w _ gb235 x236000_1 x236001_1 x236002_1)).out | apply IsS78.alloc | apply IsS78.drewN | apply IsS78.drew | apply IsS78.set_0 | apply IsS78.set_1 | apply IsS78.set_2 | refine IsS78.far ?_ NB235_234.out _ | refine IsS78.far ?_ NB235_240.out _) | exact (Aside0.mk (⟨BK235.out, GE235.out⟩ : IsS78 w _ gb235 x236000_1 x236001_1 x236002_1)).out)) (pS HO_241001.out) (by decide)) hk (fun _ h => h.2)) (fun _ h => h.1)); replace BK234 := Aside0.mk (KeepBut.blk hk (g' := gb234) (o := .cells #[.int .i64 0, .slice none 0 0, .slice none 0 0] 25 (0, 0)) (pk BK234.out) NB234_235.out (by simp)); replace BK240 := Aside0.mk (KeepBut.blk hk (g' := gb240) (o := .cells #[.int .i64 t236, u241001, .slice none 0 0] 25 (0, 0)) (pk BK240.out) NB240_235.out (by simp)); replace HB := Aside0.mk (hb); replace BK235 := Aside0.mk (hi.1); (try clear hb); (try clear hb2); (try clear hk); (try clear hi)))
      go_loopg [10] kj11 (fun kq v10 w' => ∃ (x10_3 : Int) (x236000_3 : ByteArray) (x236001_3 : Int) (x236002_3 : Bool) (x241002_3 : List (S61)) (u241002 : Value), v10 = .int .i64 x10_3 ∧ Aside0 (payload_Decode.l2 kq x10_3 x236000_3 x236001_3 x236002_3 t236 x241001_1 x241002_3 = some (r1, r2, r3, r4, r5)) ∧ Aside0 (kq ≤ kj11) ∧ Aside0 (Kd.S k59 59 w' w.heap.size (fun _ => True) u241001 x241001_1) ∧ Aside0 (Kd.R k61 61 w' w.heap.size (fun _ => True) u241002 x241002_3) ∧ Aside0 (w'.heap[gb234]? = some (.cells #[.int .i64 0, (.slice none 0 0), (.slice none 0 0)] 25 (0, 0))) ∧ Aside0 (w'.heap[gb240]? = some (.cells #[.int .i64 t236, u241001, u241002] 25 (0, 0))) ∧ Aside0 (w'.heap[gb235]? = some (.cells #[.string x236000_3, .int .i64 x236001_3, .bool x236002_3] 78 (0, 0))) ∧ Aside0 (Below w.heap.size w w'))
      case atStart => exact ⟨(t271), (t272), (t273), (t274), (([] : List (S61))), (.slice none 0 0), hsr, H', ⟨Nat.le_refl _⟩, ⟨pS HO_241001.out⟩, ⟨by first | exact Kd.R_nil _ _ _ _ _ | exact Kd.N_nil _ _ _ _ _ | exact Kd.V_nil _ _ _ _ _ | exact Kd.Q_nil _ _ _ _ _ | exact Kd.S_nil _ _ _ _ _⟩, ⟨pk BK234.out⟩, ⟨pk BK240.out⟩, ⟨pk BK235.out⟩, ⟨bl HB.out⟩⟩
      case round =>
       clear H'
       try clear c1
       try clear c2
       try clear p2
       try clear c3
       try clear c4
       try clear c5
       try clear c6
       try clear p6
       try clear c8
       try clear c9
       try clear c13
       try clear c13b0
       try clear c14
       try clear c15
       try clear c17
       try clear c19
       try clear c24
       try clear c25
       try clear c26
       try clear c29
       try clear c29b0
       try clear c30
       try clear c31
       try clear c32
       try clear c33
       try clear c34
       try clear c36
       try clear c37
       try clear c39
       try clear c40
       try clear c46
       try clear c47
       try clear c48
       try clear c49
       try clear c56
       try clear c57
       try clear c58
       try clear c59
       try clear c61
       try clear c62
       try clear p64
       try clear hcz67_0 hcz67_1 hcz67_2 hfz67_0 hfz67_1 hfz67_2
       try clear hcz63_0 hcz63_1 hfz63_0 hfz63_1
       try clear hcz60_0 hcz60_1 hcz60_2 hfz60_0 hfz60_1 hfz60_2
       try clear hcz50_0 hcz50_1 hcz50_2 hfz50_0 hfz50_1 hfz50_2
       try clear hcz44_0 hcz44_1 hcz44_2 hfz44_0 hfz44_1 hfz44_2
       try clear hcz40_0 hcz40_1 hfz40_0 hfz40_1
       try clear hcz38_0 hcz38_1 hcz38_2 hfz38_0 hfz38_1 hfz38_2
       try clear hcz35_0 hcz35_1 hcz35_2 hfz35_0 hfz35_1 hfz35_2
       try clear hcz27_0 hcz27_1 hfz27_0 hfz27_1
       try clear hcz16_0 hcz16_1 hcz16_2 hfz16_0 hfz16_1 hfz16_2
       try clear hcz10_0 hcz10_1 hcz10_2 hfz10_0 hfz10_1 hfz10_2
       try clear p2
       try clear p6
       obtain ⟨x10_3, x236000_3, x236001_3, x236002_3, x241002_3, u241002, rfl, HA, HK3, HO_241001, HO_241002, BK234, BK240, BK235, HB⟩ := hrel
       cases gk with
       | zero => exact absurd HA.out (by simp [payload_Decode.l2])
       | succ k3 =>
        have H := HA.out
        clear HA
        simp only [payload_Decode.l2] at H
        have HC70 := Aside0.mk H
        clear H
        go_upto_region 13 with (fail)
        go_cut [73] (fun v73 wc => ∃ (kq : Nat) (x73_69 : Bool), v73 = .bool x73_69 ∧ Aside0 (payload_Decode.j4 kq x10_3 x73_69 x236000_3 x236001_3 x236002_3 t236 x241001_1 x241002_3 = some (r1, r2, r3, r4, r5)) ∧ Aside0 (kq ≤ k3) ∧ Aside0 (Kd.S k59 59 wc w.heap.size (fun _ => True) u241001 x241001_1) ∧ Aside0 (Kd.R k61 61 wc w.heap.size (fun _ => True) u241002 x241002_3) ∧ Aside0 (wc.heap[gb234]? = some (.cells #[.int .i64 0, (.slice none 0 0), (.slice none 0 0)] 25 (0, 0))) ∧ Aside0 (wc.heap[gb240]? = some (.cells #[.int .i64 t236, u241001, u241002] 25 (0, 0))) ∧ Aside0 (wc.heap[gb235]? = some (.cells #[.string x236000_3, .int .i64 x236001_3, .bool x236002_3] 78 (0, 0))) ∧ Aside0 (Below w.heap.size w wc))
        case first =>
         have H := HC70.out
         clear HC70
         by_cases c71 : x10_3 > 0
         ·rw [if_pos c71] at H
          have c71b0 : decide (0 < x10_3) = true := decide_eq_true c71
          clear c71
          (first | rw [c71b0] | (simp only [i64_w, i32_w]; rw [c71b0]) | skip)
          have H' := Aside0.mk H
          clear H
          have hnb72 := NB235_234.out
          have hnc72 := NB234_235.out
          have hnb73 := NB235_240.out
          have hnc73 := NB240_235.out
          obtain ⟨hcz74_0, hcz74_1, hcz74_2, hfz74_0, hfz74_1, hfz74_2⟩ := cz3 BK235.out
          go_wp2
          go_meet
          case rel => exact ⟨_, (!x236002_3), hsr, H', ⟨by have := HK1.out; have := HJ11.out; have := HK3.out; first | omega | exact Nat.le_refl _⟩, ⟨pS HO_241001.out⟩, ⟨pR HO_241002.out⟩, ⟨pk BK234.out⟩, ⟨pk BK240.out⟩, ⟨pk BK235.out⟩, ⟨bl HB.out⟩⟩
         ·rw [if_neg c71] at H
          have c71b0 : decide (0 < x10_3) = false := decide_eq_false c71
          clear c71
          (first | rw [c71b0] | (simp only [i64_w, i32_w]; rw [c71b0]) | skip)
          have H' := Aside0.mk H
          clear H
          go_wp2
          go_meet
          case rel => exact ⟨_, (false), hsr, H', ⟨by have := HK1.out; have := HJ11.out; have := HK3.out; first | omega | exact Nat.le_refl _⟩, ⟨pS HO_241001.out⟩, ⟨pR HO_241002.out⟩, ⟨pk BK234.out⟩, ⟨pk BK240.out⟩, ⟨pk BK235.out⟩, ⟨bl HB.out⟩⟩
        case rest =>
         clear HC70
         try clear c1
         try clear c2
         try clear p2
         try clear c3
         try clear c4
         try clear c5
         try clear c6
         try clear p6
         try clear c7
         try clear c8
         try clear c9
         try clear c13
         try clear c13b0
         try clear c14
         try clear c15
         try clear c17
         try clear c19
         try clear c24
         try clear c25
         try clear c26
         try clear c29
         try clear c29b0
         try clear c30
         try clear c31
         try clear c32
         try clear c33
         try clear c34
         try clear c36
         try clear c37
         try clear c39
         try clear c40
         try clear c46
         try clear c47
         try clear c48
         try clear c49
         try clear c56
         try clear c57
         try clear c58
         try clear c59
         try clear c61
         try clear c62
         try clear p64
         try clear c71
         try clear c71b0
         try clear c72
         try clear c73
         try clear hcz74_0 hcz74_1 hcz74_2 hfz74_0 hfz74_1 hfz74_2
         try clear hcz67_0 hcz67_1 hcz67_2 hfz67_0 hfz67_1 hfz67_2
         try clear hcz63_0 hcz63_1 hfz63_0 hfz63_1
         try clear hcz60_0 hcz60_1 hcz60_2 hfz60_0 hfz60_1 hfz60_2
         try clear hcz50_0 hcz50_1 hcz50_2 hfz50_0 hfz50_1 hfz50_2
         try clear hcz44_0 hcz44_1 hcz44_2 hfz44_0 hfz44_1 hfz44_2
         try clear hcz40_0 hcz40_1 hfz40_0 hfz40_1
         try clear hcz38_0 hcz38_1 hcz38_2 hfz38_0 hfz38_1 hfz38_2
         try clear hcz35_0 hcz35_1 hcz35_2 hfz35_0 hfz35_1 hfz35_2
         try clear hcz27_0 hcz27_1 hfz27_0 hfz27_1
         try clear hcz16_0 hcz16_1 hcz16_2 hfz16_0 hfz16_1 hfz16_2
         try clear hcz10_0 hcz10_1 hcz10_2 hfz10_0 hfz10_1 hfz10_2
         try clear p2
         try clear p6
         try clear p64
         obtain ⟨kq, x73_69, rfl, HA, HJ69, HO_241001, HO_241002, BK234, BK240, BK235, HB⟩ := hcut
         cases kq with
         | zero => exact absurd HA.out (by simp [payload_Decode.j4])
         | succ kj69 =>
          have H := HA.out
          clear HA
          simp only [payload_Decode.j4] at H
          by_cases c75 : x73_69 = true
          ·subst c75
           have H1 : ((payload_taker_number.f kj69 x236000_3 x236001_3 x236002_3 1).bind fun bt276 => ((payload_taker_text.f bt276.2.1 bt276.2.2.1 bt276.2.2.2 bt276.1).bind fun bt280 => ((payload_taker_number.f kj69 bt280.2.1 bt280.2.2.1 bt280.2.2.2 1).bind fun bt285 => (if bt285.1 < 1 then (payload_Decode.j5 kj69 x10_3 true bt285.2.1 bt285.2.2.1 bt285.2.2.2 t236 x241001_1 x241002_3 bt280.1 bt285.1 0 (⟨#[]⟩ : ByteArray)) else (payload_Decode.j5 kj69 x10_3 (decide (bt285.1 > 3)) bt285.2.1 bt285.2.2.1 bt285.2.2.2 t236 x241001_1 x241002_3 bt280.1 bt285.1 0 (⟨#[]⟩ : ByteArray)))))) = some (r1, r2, r3, r4, r5) := by rw [if_pos rfl] at H; exact H
           clear H
           have H := H1
           clear H1
           replace H := Option.bind_eq_some_iff.mp H
           obtain ⟨⟨t276, t277, t278, t279⟩, A760, H⟩ := H
           replace H : ((payload_taker_text.f t277 t278 t279 t276).bind fun bt280 => ((payload_taker_number.f kj69 bt280.2.1 bt280.2.2.1 bt280.2.2.2 1).bind fun bt285 => (if bt285.1 < 1 then (payload_Decode.j5 kj69 x10_3 true bt285.2.1 bt285.2.2.1 bt285.2.2.2 t236 x241001_1 x241002_3 bt280.1 bt285.1 0 (⟨#[]⟩ : ByteArray)) else (payload_Decode.j5 kj69 x10_3 (decide (bt285.1 > 3)) bt285.2.1 bt285.2.2.1 bt285.2.2.2 t236 x241001_1 x241002_3 bt280.1 bt285.1 0 (⟨#[]⟩ : ByteArray))))) = some (r1, r2, r3, r4, r5) := H
           have A76 := Aside0.mk A760
           clear A760
           replace H := Option.bind_eq_some_iff.mp H
           obtain ⟨⟨t280, t281, t282, t283⟩, A770, H⟩ := H
           replace H : ((payload_taker_number.f kj69 t281 t282 t283 1).bind fun bt285 => (if bt285.1 < 1 then (payload_Decode.j5 kj69 x10_3 true bt285.2.1 bt285.2.2.1 bt285.2.2.2 t236 x241001_1 x241002_3 t280 bt285.1 0 (⟨#[]⟩ : ByteArray)) else (payload_Decode.j5 kj69 x10_3 (decide (bt285.1 > 3)) bt285.2.1 bt285.2.2.1 bt285.2.2.2 t236 x241001_1 x241002_3 t280 bt285.1 0 (⟨#[]⟩ : ByteArray)))) = some (r1, r2, r3, r4, r5) := H
           have A77 := Aside0.mk A770
           clear A770
           replace H := Option.bind_eq_some_iff.mp H
           obtain ⟨⟨t285, t286, t287, t288⟩, A780, H⟩ := H
           replace H : (if t285 < 1 then (payload_Decode.j5 kj69 x10_3 true t286 t287 t288 t236 x241001_1 x241002_3 t280 t285 0 (⟨#[]⟩ : ByteArray)) else (payload_Decode.j5 kj69 x10_3 (decide (t285 > 3)) t286 t287 t288 t236 x241001_1 x241002_3 t280 t285 0 (⟨#[]⟩ : ByteArray))) = some (r1, r2, r3, r4, r5) := H
           have A78 := Aside0.mk A780
           clear A780
           have HC79 := Aside0.mk H
           clear H
           go_upto_region 17 with (first | ((with_reducible refine gate_callee (f := 39) rfl ?_); refine goesL_ (some 78) rfl rfl Tryd.func39 kr rfl #[.pointer (some ⟨gb235, 0, none⟩), .int .i64 1] rfl ga ?_; (with_reducible refine (payload_taker_number.calls kj69 gb235 x236000_3 x236001_3 x236002_3 1 t276 t277 t278 t279 w _ ?side1 ?side2 A76.out).mono ?_); (case side1 => exact ⟨pk BK235.out, GE235.out⟩); (case side2 => exact bl HB.out); rintro e w80 ⟨rfl, hi, hb, hk⟩; refine ⟨_, rfl, ?_⟩; replace HO_241001 := Aside0.mk (Kd.S_mono (Kd.S_keep (IsS78.apartS (show IsS78 w _ gb235 x236000_3 x236001_3 x236002_3 from by repeat (first | (with_reducible first | exact (Aside0.mk (⟨BK235.out, GE235.out⟩ : IsS78 w _ gb235 x236000_3 x236001_3 x236002_3)).out | apply IsS78.alloc | apply IsS78.drewN | apply IsS78.drew | apply IsS78.set_0 | apply IsS78.set_1 | apply IsS78.set_2 | refine IsS78.far ?_ NB235_234.out _ | refine IsS78.far ?_ NB235_240.out _) | exact (Aside0.mk (⟨BK235.out, GE235.out⟩ : IsS78 w _ gb235 x236000_3 x236001_3 x236002_3)).out)) (pS HO_241001.out) (by decide)) hk (fun _ h => h.2)) (fun _ h => h.1)); replace HO_241002 := Aside0.mk (Kd.R_mono (Kd.R_keep (IsS78.apart (show IsS78 w _ gb235 x236000_3 x236001_3 x236002_3 from by repeat (first | (with_reducible first | exact (Aside0.mk (⟨BK235.out, GE235.out⟩ : IsS78 w _ gb235 x236000_3 x236001_3 x236002_3)).out | apply IsS78.alloc | apply IsS78.drewN | apply IsS78.drew | apply IsS78.set_0 | apply IsS78.set_1 | apply IsS78.set_2 | refine IsS78.far ?_ NB235_234.out _ | refine IsS78.far ?_ NB235_240.out _) | exact (Aside0.mk (⟨BK235.out, GE235.out⟩ : IsS78 w _ gb235 x236000_3 x236001_3 x236002_3)).out)) (pR HO_241002.out) (by decide)) hk (fun _ h => h.2)) (fun _ h => h.1)); replace BK234 := Aside0.mk (KeepBut.blk hk (g' := gb234) (o := .cells #[.int .i64 0, .slice none 0 0, .slice none 0 0] 25 (0, 0)) (pk BK234.out) NB234_235.out (by simp)); replace BK240 := Aside0.mk (KeepBut.blk hk (g' := gb240) (o := .cells #[.int .i64 t236, u241001, u241002] 25 (0, 0)) (pk BK240.out) NB240_235.out (by simp)); replace HB := Aside0.mk (hb); replace BK235 := Aside0.mk (hi.1); (try clear hb); (try clear hb2); (try clear hk); (try clear hi)) | ((with_reducible refine gate_callee (f := 40) rfl ?_); refine goesL_ (some 79) rfl rfl Tryd.func40 kr rfl #[.pointer (some ⟨gb235, 0, none⟩), .int .i64 t276] rfl ga ?_; (with_reducible refine (payload_taker_text.calls gb235 t277 t278 t279 t276 t280 t281 t282 t283 w _ ?side1 ?side2 A77.out).mono ?_); (case side1 => exact ⟨pk BK235.out, GE235.out⟩); (case side2 => exact bl HB.out); rintro e w81 ⟨rfl, hi, hb, hk⟩; refine ⟨_, rfl, ?_⟩; replace HO_241001 := Aside0.mk (Kd.S_mono (Kd.S_keep (IsS78.apartS (show IsS78 w _ gb235 t277 t278 t279 from by repeat (first | (with_reducible first | exact (Aside0.mk (⟨BK235.out, GE235.out⟩ : IsS78 w _ gb235 t277 t278 t279)).out | apply IsS78.alloc | apply IsS78.drewN | apply IsS78.drew | apply IsS78.set_0 | apply IsS78.set_1 | apply IsS78.set_2 | refine IsS78.far ?_ NB235_234.out _ | refine IsS78.far ?_ NB235_240.out _) | exact (Aside0.mk (⟨BK235.out, GE235.out⟩ : IsS78 w _ gb235 t277 t278 t279)).out)) (pS HO_241001.out) (by decide)) hk (fun _ h => h.2)) (fun _ h => h.1)); replace HO_241002 := Aside0.mk (Kd.R_mono (Kd.R_keep (IsS78.apart (show IsS78 w _ gb235 t277 t278 t279 from by repeat (first | (with_reducible first | exact (Aside0.mk (⟨BK235.out, GE235.out⟩ : IsS78 w _ gb235 t277 t278 t279)).out | apply IsS78.alloc | apply IsS78.drewN | apply IsS78.drew | apply IsS78.set_0 | apply IsS78.set_1 | apply IsS78.set_2 | refine IsS78.far ?_ NB235_234.out _ | refine IsS78.far ?_ NB235_240.out _) | exact (Aside0.mk (⟨BK235.out, GE235.out⟩ : IsS78 w _ gb235 t277 t278 t279)).out)) (pR HO_241002.out) (by decide)) hk (fun _ h => h.2)) (fun _ h => h.1)); replace BK234 := Aside0.mk (KeepBut.blk hk (g' := gb234) (o := .cells #[.int .i64 0, .slice none 0 0, .slice none 0 0] 25 (0, 0)) (pk BK234.out) NB234_235.out (by simp)); replace BK240 := Aside0.mk (KeepBut.blk hk (g' := gb240) (o := .cells #[.int .i64 t236, u241001, u241002] 25 (0, 0)) (pk BK240.out) NB240_235.out (by simp)); replace HB := Aside0.mk (hb); replace BK235 := Aside0.mk (hi.1); (try clear hb); (try clear hb2); (try clear hk); (try clear hi)) | ((with_reducible refine gate_dst (N := 11) rfl ?_); refine box_event ?hg (N := 11) ?hd (cs := #[.string (⟨#[]⟩ : ByteArray), .int .i64 0, .int .i64 0, .string (⟨#[]⟩ : ByteArray)]) (t := 61) ?hr ?_; (case hd => rfl); (case hg => rfl); (case hr => first | (go_simp; done) | (go_simp; rfl)); intro gb284 hg w82 hbox hb; replace HO_241001 := Aside0.mk (Kd.S_below (pS HO_241001.out) hb); replace HO_241002 := Aside0.mk (Kd.R_below (Kd.R_elderB (pR HO_241002.out) gb284 (Nat.le_of_eq hg.symm)) hb); have BK284 := Aside0.mk (hbox); have GW284 := Aside0.mk (gs (w := w) hg (bl HB.out)); have GE284 := Aside0.mk (gs (w := w) hg (bl HB.out)); replace HB := Aside0.mk (below_step (bl HB.out) hb); have NB234_284 := Aside0.mk ((gl (g := gb234) hg (pk BK234.out))); have NB284_234 := Aside0.mk ((gm (g := gb234) hg (pk BK234.out))); replace BK234 := Aside0.mk (blk_below (pk BK234.out) hb); have NB240_284 := Aside0.mk ((gl (g := gb240) hg (pk BK240.out))); have NB284_240 := Aside0.mk ((gm (g := gb240) hg (pk BK240.out))); replace BK240 := Aside0.mk (blk_below (pk BK240.out) hb); have NB235_284 := Aside0.mk ((gl (g := gb235) hg (pk BK235.out))); have NB284_235 := Aside0.mk ((gm (g := gb235) hg (pk BK235.out))); replace BK235 := Aside0.mk (blk_below (pk BK235.out) hb); clear hb hbox hg; have hnb83 := NB284_234.out; have hnc83 := NB234_284.out; have hnb84 := NB284_240.out; have hnc84 := NB240_284.out; have hnb85 := NB284_235.out; have hnc85 := NB235_284.out; obtain ⟨hcz86_0, hcz86_1, hcz86_2, hcz86_3, hfz86_0, hfz86_1, hfz86_2, hfz86_3⟩ := cz4 BK284.out) | ((with_reducible refine gate_callee (f := 39) rfl ?_); refine goesL_ (some 82) rfl rfl Tryd.func39 kr rfl #[.pointer (some ⟨gb235, 0, none⟩), .int .i64 1] rfl ga ?_; (with_reducible refine (payload_taker_number.calls kj69 gb235 t281 t282 t283 1 t285 t286 t287 t288 w _ ?side1 ?side2 A78.out).mono ?_); (case side1 => exact ⟨by refine pk ?_; refine blk_far ?_ NB235_284.out _; refine pk ?_; refine blk_far ?_ NB235_284.out _; refine pk ?_; refine blk_far ?_ NB235_284.out _; refine pk ?_; refine blk_far ?_ NB235_284.out _; exact pk BK235.out, GE235.out⟩); (case side2 => exact bl HB.out); rintro e w87 ⟨rfl, hi, hb, hk⟩; refine ⟨_, rfl, ?_⟩; replace HO_241001 := Aside0.mk (Kd.S_mono (Kd.S_keep (IsS78.apartS (show IsS78 w _ gb235 t281 t282 t283 from by repeat (first | (with_reducible first | exact (Aside0.mk (⟨BK235.out, GE235.out⟩ : IsS78 w _ gb235 t281 t282 t283)).out | apply IsS78.alloc | apply IsS78.drewN | apply IsS78.drew | apply IsS78.set_0 | apply IsS78.set_1 | apply IsS78.set_2 | refine IsS78.far ?_ NB235_234.out _ | refine IsS78.far ?_ NB235_240.out _ | refine IsS78.far ?_ NB235_284.out _) | exact (Aside0.mk (⟨BK235.out, GE235.out⟩ : IsS78 w _ gb235 t281 t282 t283)).out)) (by (with_reducible repeat (first | apply Kd.S_alloc | apply Kd.S_drewN | apply Kd.S_drew)); exact (Kd.S_mono (Kd.S_far (p := ⟨gb284, 3, none⟩) (Kd.S_far (p := ⟨gb284, 2, none⟩) (Kd.S_far (p := ⟨gb284, 1, none⟩) (Kd.S_far (p := ⟨gb284, 0, none⟩) (Kd.S_types HO_241001.out BK284.out (by decide)) (fun _ hk => hk.2) (.string t280)) (fun _ hk => hk.2) (.int .i64 0)) (fun _ hk => hk.2) (.int .i64 0)) (fun _ hk => hk.2) (.string (⟨#[]⟩ : ByteArray))) (fun _ h_ => h_.1))) (by decide)) hk (fun _ h => h.2)) (fun _ h => h.1)); replace HO_241002 := Aside0.mk (Kd.R_mono (Kd.R_keep (IsS78.apart (show IsS78 w _ gb235 t281 t282 t283 from by repeat (first | (with_reducible first | exact (Aside0.mk (⟨BK235.out, GE235.out⟩ : IsS78 w _ gb235 t281 t282 t283)).out | apply IsS78.alloc | apply IsS78.drewN | apply IsS78.drew | apply IsS78.set_0 | apply IsS78.set_1 | apply IsS78.set_2 | refine IsS78.far ?_ NB235_234.out _ | refine IsS78.far ?_ NB235_240.out _ | refine IsS78.far ?_ NB235_284.out _) | exact (Aside0.mk (⟨BK235.out, GE235.out⟩ : IsS78 w _ gb235 t281 t282 t283)).out)) (by (with_reducible repeat (first | apply Kd.R_alloc | apply Kd.R_drewN | apply Kd.R_drew)); exact (Kd.R_mono (Kd.R_far (p := ⟨gb284, 3, none⟩) (Kd.R_far (p := ⟨gb284, 2, none⟩) (Kd.R_far (p := ⟨gb284, 1, none⟩) (Kd.R_far (p := ⟨gb284, 0, none⟩) (Kd.R_mono HO_241002.out (fun k_ hk => (⟨hk, hk.2⟩ : _ ∧ k_ ≠ gb284))) (fun _ hk => hk.2) (.string t280)) (fun _ hk => hk.2) (.int .i64 0)) (fun _ hk => hk.2) (.int .i64 0)) (fun _ hk => hk.2) (.string (⟨#[]⟩ : ByteArray))) (fun _ h_ => h_.1))) (by decide)) hk (fun _ h => h.2)) (fun _ h => h.1)); replace BK234 := Aside0.mk (KeepBut.blk hk (g' := gb234) (o := .cells #[.int .i64 0, .slice none 0 0, .slice none 0 0] 25 (0, 0)) (by refine pk ?_; refine blk_far ?_ NB234_284.out _; refine pk ?_; refine blk_far ?_ NB234_284.out _; refine pk ?_; refine blk_far ?_ NB234_284.out _; refine pk ?_; refine blk_far ?_ NB234_284.out _; exact pk BK234.out) NB234_235.out (by simp)); replace BK240 := Aside0.mk (KeepBut.blk hk (g' := gb240) (o := .cells #[.int .i64 t236, u241001, u241002] 25 (0, 0)) (by refine pk ?_; refine blk_far ?_ NB240_284.out _; refine pk ?_; refine blk_far ?_ NB240_284.out _; refine pk ?_; refine blk_far ?_ NB240_284.out _; refine pk ?_; refine blk_far ?_ NB240_284.out _; exact pk BK240.out) NB240_235.out (by simp)); replace BK284 := Aside0.mk (KeepBut.blk hk (g' := gb284) (o := .cells #[.string t280, .int .i64 0, .int .i64 0, .string (⟨#[]⟩ : ByteArray)] 61 (0, 0)) (by refine pk ?_; refine blk_put (cs := #[.string t280, .int .i64 0, .int .i64 0, .string (⟨#[]⟩ : ByteArray)]) ?_ 3 _ rfl; refine pk ?_; refine blk_put (cs := #[.string t280, .int .i64 0, .int .i64 0, .string (⟨#[]⟩ : ByteArray)]) ?_ 2 _ rfl; refine pk ?_; refine blk_put (cs := #[.string t280, .int .i64 0, .int .i64 0, .string (⟨#[]⟩ : ByteArray)]) ?_ 1 _ rfl; refine pk ?_; refine blk_put (cs := #[.string (⟨#[]⟩ : ByteArray), .int .i64 0, .int .i64 0, .string (⟨#[]⟩ : ByteArray)]) ?_ 0 _ rfl; exact pk BK284.out) NB284_235.out (by simp)); replace HB := Aside0.mk (hb); replace BK235 := Aside0.mk (hi.1); (try clear hb); (try clear hb2); (try clear hk); (try clear hi); obtain ⟨hcz88_0, hcz88_1, hcz88_2, hcz88_3, hfz88_0, hfz88_1, hfz88_2, hfz88_3⟩ := cz4 BK284.out))
           (try simp only [Act.put, List.setIfInBounds_toArray, List.set_cons_zero, List.set_cons_succ])
           go_cut [94] (fun v94 wc => ∃ (kq : Nat) (x94_78 : Bool), v94 = .bool x94_78 ∧ Aside0 (payload_Decode.j5 kq x10_3 x94_78 t286 t287 t288 t236 x241001_1 x241002_3 t280 t285 0 (⟨#[]⟩ : ByteArray) = some (r1, r2, r3, r4, r5)) ∧ Aside0 (kq ≤ kj69) ∧ Aside0 (Kd.S k59 59 wc w.heap.size (fun _ => True) u241001 x241001_1) ∧ Aside0 (Kd.R k61 61 wc w.heap.size (fun k_ => k_ ≠ gb284) u241002 x241002_3) ∧ Aside0 (wc.heap[gb234]? = some (.cells #[.int .i64 0, (.slice none 0 0), (.slice none 0 0)] 25 (0, 0))) ∧ Aside0 (wc.heap[gb240]? = some (.cells #[.int .i64 t236, u241001, u241002] 25 (0, 0))) ∧ Aside0 (wc.heap[gb284]? = some (.cells #[.string t280, .int .i64 t285, .int .i64 0, .string (⟨#[]⟩ : ByteArray)] 61 (0, 0))) ∧ Aside0 (wc.heap[gb235]? = some (.cells #[.string t286, .int .i64 t287, .bool t288] 78 (0, 0))) ∧ Aside0 (Below w.heap.size w wc))
           case first =>
            have H := HC79.out
            clear HC79
            by_cases c89 : t285 < 1
            ·rw [if_pos c89] at H
             have c89b0 : decide (t285 < 1) = true := decide_eq_true c89
             clear c89
             (first | rw [c89b0] | (simp only [i64_w, i32_w]; rw [c89b0]) | skip)
             have H' := Aside0.mk H
             clear H
             have hnb90 := NB284_234.out
             have hnc90 := NB234_284.out
             have hnb91 := NB284_240.out
             have hnc91 := NB240_284.out
             have hnb92 := NB284_235.out
             have hnc92 := NB235_284.out
             obtain ⟨hcz93_0, hcz93_1, hcz93_2, hcz93_3, hfz93_0, hfz93_1, hfz93_2, hfz93_3⟩ := cz4 BK284.out
             go_wp2
             go_meet
             case rel => exact ⟨_, (true), hsr, H', ⟨by have := HK1.out; have := HJ11.out; have := HK3.out; have := HJ69.out; first | omega | exact Nat.le_refl _⟩, ⟨by (with_reducible repeat (first | apply Kd.S_alloc | apply Kd.S_drewN | apply Kd.S_drew)); exact Kd.S_mono (Kd.S_far (p := ⟨gb284, 1, none⟩) (Kd.S_types HO_241001.out BK284.out (by decide)) (fun _ hk => hk.2) (.int .i64 t285)) (fun _ hk => trivial)⟩, ⟨by (with_reducible repeat (first | apply Kd.R_alloc | apply Kd.R_drewN | apply Kd.R_drew)); exact Kd.R_mono (Kd.R_far (p := ⟨gb284, 1, none⟩) (Kd.R_mono HO_241002.out (fun k_ hk => (⟨hk, hk.2⟩ : _ ∧ k_ ≠ gb284))) (fun _ hk => hk.2) (.int .i64 t285)) (fun _ hk => hk.1.2)⟩, ⟨by refine pk ?_; refine blk_far ?_ NB234_284.out _; exact pk BK234.out⟩, ⟨by refine pk ?_; refine blk_far ?_ NB240_284.out _; exact pk BK240.out⟩, ⟨by refine pk ?_; refine blk_put (cs := #[.string t280, .int .i64 0, .int .i64 0, .string (⟨#[]⟩ : ByteArray)]) ?_ 1 _ rfl; exact pk BK284.out⟩, ⟨by refine pk ?_; refine blk_far ?_ NB235_284.out _; exact pk BK235.out⟩, ⟨bl HB.out⟩⟩
            ·rw [if_neg c89] at H
             have c89b0 : decide (t285 < 1) = false := decide_eq_false c89
             clear c89
             (first | rw [c89b0] | (simp only [i64_w, i32_w]; rw [c89b0]) | skip)
             have H' := Aside0.mk H
             clear H
             have hnb94 := NB284_234.out
             have hnc94 := NB234_284.out
             have hnb95 := NB284_240.out
             have hnc95 := NB240_284.out
             have hnb96 := NB284_235.out
             have hnc96 := NB235_284.out
             obtain ⟨hcz97_0, hcz97_1, hcz97_2, hcz97_3, hfz97_0, hfz97_1, hfz97_2, hfz97_3⟩ := cz4 BK284.out
             go_wp2
             go_meet
             case rel => exact ⟨_, (decide (t285 > 3)), hsr, H', ⟨by have := HK1.out; have := HJ11.out; have := HK3.out; have := HJ69.out; first | omega | exact Nat.le_refl _⟩, ⟨by (with_reducible repeat (first | apply Kd.S_alloc | apply Kd.S_drewN | apply Kd.S_drew)); exact Kd.S_mono (Kd.S_far (p := ⟨gb284, 1, none⟩) (Kd.S_types HO_241001.out BK284.out (by decide)) (fun _ hk => hk.2) (.int .i64 t285)) (fun _ hk => trivial)⟩, ⟨by (with_reducible repeat (first | apply Kd.R_alloc | apply Kd.R_drewN | apply Kd.R_drew)); exact Kd.R_mono (Kd.R_far (p := ⟨gb284, 1, none⟩) (Kd.R_mono HO_241002.out (fun k_ hk => (⟨hk, hk.2⟩ : _ ∧ k_ ≠ gb284))) (fun _ hk => hk.2) (.int .i64 t285)) (fun _ hk => hk.1.2)⟩, ⟨by refine pk ?_; refine blk_far ?_ NB234_284.out _; exact pk BK234.out⟩, ⟨by refine pk ?_; refine blk_far ?_ NB240_284.out _; exact pk BK240.out⟩, ⟨by refine pk ?_; refine blk_put (cs := #[.string t280, .int .i64 0, .int .i64 0, .string (⟨#[]⟩ : ByteArray)]) ?_ 1 _ rfl; exact pk BK284.out⟩, ⟨by refine pk ?_; refine blk_far ?_ NB235_284.out _; exact pk BK235.out⟩, ⟨bl HB.out⟩⟩
           case rest =>
            clear HC79
            try clear c1
            try clear c2
            try clear p2
            try clear c3
            try clear c4
            try clear c5
            try clear c6
            try clear p6
            try clear c7
            try clear c8
            try clear c9
            try clear c13
            try clear c13b0
            try clear c14
            try clear c15
            try clear c17
            try clear c19
            try clear c24
            try clear c25
            try clear c26
            try clear c29
            try clear c29b0
            try clear c30
            try clear c31
            try clear c32
            try clear c33
            try clear c34
            try clear c36
            try clear c37
            try clear c39
            try clear c40
            try clear c46
            try clear c47
            try clear c48
            try clear c49
            try clear c56
            try clear c57
            try clear c58
            try clear c59
            try clear c61
            try clear c62
            try clear p64
            try clear c71
            try clear c71b0
            try clear c72
            try clear c73
            try clear c75
            try clear c83
            try clear c84
            try clear c85
            try clear c89
            try clear c89b0
            try clear c90
            try clear c91
            try clear c92
            try clear c94
            try clear c95
            try clear c96
            try clear hcz97_0 hcz97_1 hcz97_2 hcz97_3 hfz97_0 hfz97_1 hfz97_2 hfz97_3
            try clear hcz93_0 hcz93_1 hcz93_2 hcz93_3 hfz93_0 hfz93_1 hfz93_2 hfz93_3
            try clear hcz88_0 hcz88_1 hcz88_2 hcz88_3 hfz88_0 hfz88_1 hfz88_2 hfz88_3
            try clear hcz86_0 hcz86_1 hcz86_2 hcz86_3 hfz86_0 hfz86_1 hfz86_2 hfz86_3
            try clear hcz74_0 hcz74_1 hcz74_2 hfz74_0 hfz74_1 hfz74_2
            try clear hcz67_0 hcz67_1 hcz67_2 hfz67_0 hfz67_1 hfz67_2
            try clear hcz63_0 hcz63_1 hfz63_0 hfz63_1
            try clear hcz60_0 hcz60_1 hcz60_2 hfz60_0 hfz60_1 hfz60_2
            try clear hcz50_0 hcz50_1 hcz50_2 hfz50_0 hfz50_1 hfz50_2
            try clear hcz44_0 hcz44_1 hcz44_2 hfz44_0 hfz44_1 hfz44_2
            try clear hcz40_0 hcz40_1 hfz40_0 hfz40_1
            try clear hcz38_0 hcz38_1 hcz38_2 hfz38_0 hfz38_1 hfz38_2
            try clear hcz35_0 hcz35_1 hcz35_2 hfz35_0 hfz35_1 hfz35_2
            try clear hcz27_0 hcz27_1 hfz27_0 hfz27_1
            try clear hcz16_0 hcz16_1 hcz16_2 hfz16_0 hfz16_1 hfz16_2
            try clear hcz10_0 hcz10_1 hcz10_2 hfz10_0 hfz10_1 hfz10_2
            try clear p2
            try clear p6
            try clear p64
            obtain ⟨kq, x94_78, rfl, HA, HJ78, HO_241001, HO_241002, BK234, BK240, BK284, BK235, HB⟩ := hcut
            cases kq with
            | zero => exact absurd HA.out (by simp [payload_Decode.j5])
            | succ kj78 =>
             have H := HA.out
             clear HA
             simp only [payload_Decode.j5] at H
             by_cases c98 : x94_78 = true
             ·subst c98
              have H1 : (some (0, ([] : List (S59)), ([] : List (S61)), 0, 52)) = some (r1, r2, r3, r4, r5) := by rw [if_pos rfl] at H; exact H
              clear H
              have H := H1
              clear H1
              simp only [Option.some.injEq, Prod.mk.injEq] at H
              obtain ⟨rfl, rfl, rfl, rfl, rfl⟩ := H
              have hnb99 := NB235_234.out
              have hnc99 := NB234_235.out
              have hnb100 := NB235_240.out
              have hnc100 := NB240_235.out
              have hnb101 := NB235_284.out
              have hnc101 := NB284_235.out
              obtain ⟨hcz102_0, hcz102_1, hcz102_2, hfz102_0, hfz102_1, hfz102_2⟩ := cz3 BK235.out
              have hnb103 := NB234_240.out
              have hnc103 := NB240_234.out
              have hnb104 := NB234_284.out
              have hnc104 := NB284_234.out
              obtain ⟨hcz105_0, hcz105_1, hcz105_2, hfz105_0, hfz105_1, hfz105_2⟩ := cz3 BK234.out
              go_wp2
              refine bodyPost_ret (results_ctt rfl _ _ gb234 25 #[.int .i64 0, .slice none 0 0, .slice none 0 0] (0, 0) _ rfl (by refine pk ?_; refine blk_put (cs := #[.int .i64 0, .slice none 0 0, .slice none 0 0]) ?_ 2 _ rfl; refine pk ?_; refine blk_put (cs := #[.int .i64 0, .slice none 0 0, .slice none 0 0]) ?_ 1 _ rfl; refine pk ?_; refine blk_put (cs := #[.int .i64 0, .slice none 0 0, .slice none 0 0]) ?_ 0 _ rfl; refine pk ?_; refine blk_far ?_ NB234_235.out _; exact pk BK234.out) Tryd.underlying25 rfl kr) rfl ?_
              exact ⟨_, _, er0, by first | exact Kd.S_nil _ _ _ _ _ | exact Kd.N_nil _ _ _ _ _ | exact Kd.V_nil _ _ _ _ _ | exact Kd.Q_nil _ _ _ _ _ | exact Kd.R_nil _ _ _ _ _, by first | exact Kd.R_nil _ _ _ _ _ | exact Kd.N_nil _ _ _ _ _ | exact Kd.V_nil _ _ _ _ _ | exact Kd.Q_nil _ _ _ _ _ | exact Kd.S_nil _ _ _ _ _, bl HB.out⟩
             ·replace c98 := Bool.eq_false_iff.mpr c98
              subst c98
              have H1 : ((payload_width.f t285).bind fun t289 => ((payload_taker_number.f kj78 t286 t287 t288 t289).bind fun bt290 => (if t285 = 2 then ((payload_taker_text.f bt290.2.1 bt290.2.2.1 bt290.2.2.2 bt290.1).bind fun bt294 => (if x241002_3.length < 2932031007402 then (payload_Decode.l2 kj78 (wrap64 (x10_3 - 1)) bt294.2.1 bt294.2.2.1 bt294.2.2.2 t236 x241001_1 (x241002_3 ++ [(⟨t280, (⟨t285, 0, bt294.1⟩ : S33)⟩ : S61)])) else (none))) else (if x241002_3.length < 2932031007402 then (payload_Decode.l2 kj78 (wrap64 (x10_3 - 1)) bt290.2.1 bt290.2.2.1 bt290.2.2.2 t236 x241001_1 (x241002_3 ++ [(⟨t280, (⟨t285, bt290.1, (⟨#[]⟩ : ByteArray)⟩ : S33)⟩ : S61)])) else (none))))) = some (r1, r2, r3, r4, r5) := by rw [if_neg (show ¬ (false = true) by decide)] at H; exact H
              clear H
              have H := H1
              clear H1
              replace H := Option.bind_eq_some_iff.mp H
              obtain ⟨t289, A1060, H⟩ := H
              replace H : ((payload_taker_number.f kj78 t286 t287 t288 t289).bind fun bt290 => (if t285 = 2 then ((payload_taker_text.f bt290.2.1 bt290.2.2.1 bt290.2.2.2 bt290.1).bind fun bt294 => (if x241002_3.length < 2932031007402 then (payload_Decode.l2 kj78 (wrap64 (x10_3 - 1)) bt294.2.1 bt294.2.2.1 bt294.2.2.2 t236 x241001_1 (x241002_3 ++ [(⟨t280, (⟨t285, 0, bt294.1⟩ : S33)⟩ : S61)])) else (none))) else (if x241002_3.length < 2932031007402 then (payload_Decode.l2 kj78 (wrap64 (x10_3 - 1)) bt290.2.1 bt290.2.2.1 bt290.2.2.2 t236 x241001_1 (x241002_3 ++ [(⟨t280, (⟨t285, bt290.1, (⟨#[]⟩ : ByteArray)⟩ : S33)⟩ : S61)])) else (none)))) = some (r1, r2, r3, r4, r5) := H
              have A106 := Aside0.mk A1060
              clear A1060
              replace H := Option.bind_eq_some_iff.mp H
              obtain ⟨⟨t290, t291, t292, t293⟩, A1070, H⟩ := H
              replace H : (if t285 = 2 then ((payload_taker_text.f t291 t292 t293 t290).bind fun bt294 => (if x241002_3.length < 2932031007402 then (payload_Decode.l2 kj78 (wrap64 (x10_3 - 1)) bt294.2.1 bt294.2.2.1 bt294.2.2.2 t236 x241001_1 (x241002_3 ++ [(⟨t280, (⟨t285, 0, bt294.1⟩ : S33)⟩ : S61)])) else (none))) else (if x241002_3.length < 2932031007402 then (payload_Decode.l2 kj78 (wrap64 (x10_3 - 1)) t291 t292 t293 t236 x241001_1 (x241002_3 ++ [(⟨t280, (⟨t285, t290, (⟨#[]⟩ : ByteArray)⟩ : S33)⟩ : S61)])) else (none))) = some (r1, r2, r3, r4, r5) := H
              have A107 := Aside0.mk A1070
              clear A1070
              by_cases c108 : t285 = 2
              ·rw [if_pos c108] at H
               have c108b0 : (t285 == 2) = true := beq_iff_eq.mpr c108
               have c108b1 : (t285 != 2) = false := bne_eq_false_iff_eq.mpr c108
               clear c108
               replace H := Option.bind_eq_some_iff.mp H
               obtain ⟨⟨t294, t295, t296, t297⟩, A1090, H⟩ := H
               replace H : (if x241002_3.length < 2932031007402 then (payload_Decode.l2 kj78 (wrap64 (x10_3 - 1)) t295 t296 t297 t236 x241001_1 (x241002_3 ++ [(⟨t280, (⟨t285, 0, t294⟩ : S33)⟩ : S61)])) else (none)) = some (r1, r2, r3, r4, r5) := H
               have A109 := Aside0.mk A1090
               clear A1090
               by_cases c110 : x241002_3.length < 2932031007402
               ·rw [if_pos c110] at H
                have LMc110 := Aside0.mk c110
                clear c110
                obtain ⟨y298, hy298⟩ : ∃ y_ : List (S61), y_ = (x241002_3 ++ [(⟨t280, (⟨t285, 0, t294⟩ : S33)⟩ : S61)]) := ⟨_, rfl⟩
                replace H : (payload_Decode.l2 kj78 (wrap64 (x10_3 - 1)) t295 t296 t297 t236 x241001_1 y298) = some (r1, r2, r3, r4, r5) := by first | (rw [hy298]; with_reducible exact H) | (have H2_ := (Option.bind_some _ _).symm.trans H; rw [hy298]; with_reducible exact H2_) | (have H2_ := (Option.bind_some _ _).symm.trans H; with_reducible exact H2_) | with_reducible exact H | (rw [hy298]; exact H) | exact H
                have Ny298 := Aside0.mk hy298
                clear hy298
                have H' := Aside0.mk H
                clear H
                have hnb111 := NB284_234.out
                have hnc111 := NB234_284.out
                have hnb112 := NB284_240.out
                have hnc112 := NB240_284.out
                have hnb113 := NB284_235.out
                have hnc113 := NB235_284.out
                obtain ⟨hcz114_0, hcz114_1, hcz114_2, hcz114_3, hfz114_0, hfz114_1, hfz114_2, hfz114_3⟩ := cz4 BK284.out
                go_wp2_with (first | ((with_reducible refine gate_callee (f := 32) rfl ?_); refine goesL_ (some 102) rfl rfl Tryd.func32 kr rfl #[.int .i64 t285] rfl ga ?_; (with_reducible refine (payload_width.calls t285 t289 _ A106.out).mono ?_); rintro e w' ⟨rfl, ⟨nd, rfl⟩⟩; refine ⟨_, rfl, ?_⟩; (try (rw [drewN_self wc]; generalize hq_ : World.drewN wc _ = wc; have n0_ : Aside0 (Kd.S k59 59 wc w.heap.size (fun _ => True) u241001 x241001_1) := ⟨by rw [← hq_]; exact (pS HO_241001.out)⟩; have n1_ : Aside0 (Kd.R k61 61 wc w.heap.size (fun k_ => k_ ≠ gb284) u241002 x241002_3) := ⟨by rw [← hq_]; exact (pR HO_241002.out)⟩; have n2_ : Aside0 (wc.heap[gb234]? = some (.cells #[.int .i64 0, .slice none 0 0, .slice none 0 0] 25 (0, 0))) := ⟨by rw [← hq_]; exact (pk BK234.out)⟩; have n3_ : Aside0 (wc.heap[gb235]? = some (.cells #[.string t286, .int .i64 t287, .bool t288] 78 (0, 0))) := ⟨by rw [← hq_]; exact (pk BK235.out)⟩; have n4_ : Aside0 (wc.heap[gb240]? = some (.cells #[.int .i64 t236, u241001, u241002] 25 (0, 0))) := ⟨by rw [← hq_]; exact (pk BK240.out)⟩; have n5_ : Aside0 (wc.heap[gb284]? = some (.cells #[.string t280, .int .i64 t285, .int .i64 0, .string (⟨#[]⟩ : ByteArray)] 61 (0, 0))) := ⟨by rw [← hq_]; exact (pk BK284.out)⟩; have n6_ : Aside0 (Below w.heap.size w wc) := ⟨by rw [← hq_]; exact (bl HB.out)⟩; clear HO_241001 HO_241002 BK234 BK235 BK240 BK284 HB hq_; have HO_241001 := n0_; have HO_241002 := n1_; have BK234 := n2_; have BK235 := n3_; have BK240 := n4_; have BK284 := n5_; have HB := n6_; clear n0_ n1_ n2_ n3_ n4_ n5_ n6_))) | ((with_reducible refine gate_callee (f := 39) rfl ?_); refine goesL_ (some 103) rfl rfl Tryd.func39 kr rfl #[.pointer (some ⟨gb235, 0, none⟩), .int .i64 t289] rfl ga ?_; (with_reducible refine (payload_taker_number.calls kj78 gb235 t286 t287 t288 t289 t290 t291 t292 t293 w _ ?side1 ?side2 A107.out).mono ?_); (case side1 => exact ⟨pk BK235.out, GE235.out⟩); (case side2 => exact bl HB.out); rintro e w115 ⟨rfl, hi, hb, hk⟩; refine ⟨_, rfl, ?_⟩; replace HO_241001 := Aside0.mk (Kd.S_mono (Kd.S_keep (IsS78.apartS (show IsS78 w _ gb235 t286 t287 t288 from by repeat (first | (with_reducible first | exact (Aside0.mk (⟨BK235.out, GE235.out⟩ : IsS78 w _ gb235 t286 t287 t288)).out | apply IsS78.alloc | apply IsS78.drewN | apply IsS78.drew | apply IsS78.set_0 | apply IsS78.set_1 | apply IsS78.set_2 | refine IsS78.far ?_ NB235_234.out _ | refine IsS78.far ?_ NB235_240.out _ | refine IsS78.far ?_ NB235_284.out _) | exact (Aside0.mk (⟨BK235.out, GE235.out⟩ : IsS78 w _ gb235 t286 t287 t288)).out)) (pS HO_241001.out) (by decide)) hk (fun _ h => h.2)) (fun _ h => h.1)); replace HO_241002 := Aside0.mk (Kd.R_mono (Kd.R_keep (IsS78.apart (show IsS78 w _ gb235 t286 t287 t288 from by repeat (first | (with_reducible first | exact (Aside0.mk (⟨BK235.out, GE235.out⟩ : IsS78 w _ gb235 t286 t287 t288)).out | apply IsS78.alloc | apply IsS78.drewN | apply IsS78.drew | apply IsS78.set_0 | apply IsS78.set_1 | apply IsS78.set_2 | refine IsS78.far ?_ NB235_234.out _ | refine IsS78.far ?_ NB235_240.out _ | refine IsS78.far ?_ NB235_284.out _) | exact (Aside0.mk (⟨BK235.out, GE235.out⟩ : IsS78 w _ gb235 t286 t287 t288)).out)) (pR HO_241002.out) (by decide)) hk (fun _ h => h.2)) (fun _ h => h.1)); replace BK234 := Aside0.mk (KeepBut.blk hk (g' := gb234) (o := .cells #[.int .i64 0, .slice none 0 0, .slice none 0 0] 25 (0, 0)) (pk BK234.out) NB234_235.out (by simp)); replace BK240 := Aside0.mk (KeepBut.blk hk (g' := gb240) (o := .cells #[.int .i64 t236, u241001, u241002] 25 (0, 0)) (pk BK240.out) NB240_235.out (by simp)); replace BK284 := Aside0.mk (KeepBut.blk hk (g' := gb284) (o := .cells #[.string t280, .int .i64 t285, .int .i64 0, .string (⟨#[]⟩ : ByteArray)] 61 (0, 0)) (pk BK284.out) NB284_235.out (by simp)); replace HB := Aside0.mk (hb); replace BK235 := Aside0.mk (hi.1); (try clear hb); (try clear hb2); (try clear hk); (try clear hi); obtain ⟨hcz116_0, hcz116_1, hcz116_2, hcz116_3, hfz116_0, hfz116_1, hfz116_2, hfz116_3⟩ := cz4 BK284.out) | ((with_reducible refine gate_callee (f := 40) rfl ?_); refine goesL_ (some 114) rfl rfl Tryd.func40 kr rfl #[.pointer (some ⟨gb235, 0, none⟩), .int .i64 t290] rfl ga ?_; (with_reducible refine (payload_taker_text.calls gb235 t291 t292 t293 t290 t294 t295 t296 t297 w _ ?side1 ?side2 A109.out).mono ?_); (case side1 => exact ⟨by refine pk ?_; refine blk_far ?_ NB235_284.out _; exact pk BK235.out, GE235.out⟩); (case side2 => exact bl HB.out); rintro e w117 ⟨rfl, hi, hb, hk⟩; refine ⟨_, rfl, ?_⟩; replace HO_241001 := Aside0.mk (Kd.S_mono (Kd.S_keep (IsS78.apartS (show IsS78 w _ gb235 t291 t292 t293 from by repeat (first | (with_reducible first | exact (Aside0.mk (⟨BK235.out, GE235.out⟩ : IsS78 w _ gb235 t291 t292 t293)).out | apply IsS78.alloc | apply IsS78.drewN | apply IsS78.drew | apply IsS78.set_0 | apply IsS78.set_1 | apply IsS78.set_2 | refine IsS78.far ?_ NB235_234.out _ | refine IsS78.far ?_ NB235_240.out _ | refine IsS78.far ?_ NB235_284.out _) | exact (Aside0.mk (⟨BK235.out, GE235.out⟩ : IsS78 w _ gb235 t291 t292 t293)).out)) (by (with_reducible repeat (first | apply Kd.S_alloc | apply Kd.S_drewN | apply Kd.S_drew)); exact (Kd.S_mono (Kd.S_far (p := ⟨gb284, 2, none⟩) (Kd.S_types HO_241001.out BK284.out (by decide)) (fun _ hk => hk.2) (.int .i64 t290)) (fun _ h_ => h_.1))) (by decide)) hk (fun _ h => h.2)) (fun _ h => h.1)); replace HO_241002 := Aside0.mk (Kd.R_mono (Kd.R_keep (IsS78.apart (show IsS78 w _ gb235 t291 t292 t293 from by repeat (first | (with_reducible first | exact (Aside0.mk (⟨BK235.out, GE235.out⟩ : IsS78 w _ gb235 t291 t292 t293)).out | apply IsS78.alloc | apply IsS78.drewN | apply IsS78.drew | apply IsS78.set_0 | apply IsS78.set_1 | apply IsS78.set_2 | refine IsS78.far ?_ NB235_234.out _ | refine IsS78.far ?_ NB235_240.out _ | refine IsS78.far ?_ NB235_284.out _) | exact (Aside0.mk (⟨BK235.out, GE235.out⟩ : IsS78 w _ gb235 t291 t292 t293)).out)) (by (with_reducible repeat (first | apply Kd.R_alloc | apply Kd.R_drewN | apply Kd.R_drew)); exact (Kd.R_mono (Kd.R_far (p := ⟨gb284, 2, none⟩) (Kd.R_mono HO_241002.out (fun k_ hk => (⟨hk, hk⟩ : _ ∧ k_ ≠ gb284))) (fun _ hk => hk.2) (.int .i64 t290)) (fun _ h_ => h_.1))) (by decide)) hk (fun _ h => h.2)) (fun _ h => h.1)); replace BK234 := Aside0.mk (KeepBut.blk hk (g' := gb234) (o := .cells #[.int .i64 0, .slice none 0 0, .slice none 0 0] 25 (0, 0)) (by refine pk ?_; refine blk_far ?_ NB234_284.out _; exact pk BK234.out) NB234_235.out (by simp)); replace BK240 := Aside0.mk (KeepBut.blk hk (g' := gb240) (o := .cells #[.int .i64 t236, u241001, u241002] 25 (0, 0)) (by refine pk ?_; refine blk_far ?_ NB240_284.out _; exact pk BK240.out) NB240_235.out (by simp)); replace BK284 := Aside0.mk (KeepBut.blk hk (g' := gb284) (o := .cells #[.string t280, .int .i64 t285, .int .i64 t290, .string (⟨#[]⟩ : ByteArray)] 61 (0, 0)) (by refine pk ?_; refine blk_put (cs := #[.string t280, .int .i64 t285, .int .i64 0, .string (⟨#[]⟩ : ByteArray)]) ?_ 2 _ rfl; exact pk BK284.out) NB284_235.out (by simp)); replace HB := Aside0.mk (hb); replace BK235 := Aside0.mk (hi.1); (try clear hb); (try clear hb2); (try clear hk); (try clear hi); obtain ⟨hcz118_0, hcz118_1, hcz118_2, hcz118_3, hfz118_0, hfz118_1, hfz118_2, hfz118_3⟩ := cz4 BK284.out; have hnb119 := NB240_234.out; have hnc119 := NB234_240.out; have hnb120 := NB240_235.out; have hnc120 := NB235_240.out; obtain ⟨hcz121_0, hcz121_1, hcz121_2, hfz121_0, hfz121_1, hfz121_2⟩ := cz3 BK240.out) | ((with_reducible refine gate_builtin (b := .append) (xs := #[.tmp 120, .tmp 122]) rfl ?_); at_builtin; refine Kd.R_append k61 (w0 := w) w.heap.size rfl (.tmp 120) (.tmp 122) 23 61 (.agg #[(.string ⟨#[]⟩), (.int .i64 0), (.int .i64 0), (.string ⟨#[]⟩)]) 48 rfl Tryd.underlying23 info61 rfl (by decide) (by omega) u241002 x241002_3 (⟨t280, (⟨t285, 0, t294⟩ : S33)⟩ : S61) [.string t280, .int .i64 t285, .int .i64 0, .string t294] (fun k_ => k_ ≠ gb284) (fun _ => False) rfl (by first | (go_simp; done) | (go_simp; rfl)) ?aP (fun _ hk => hk.elim) ?aF ?aO ?aB ?aS ?aL ?_; (case aP => exact k61_mkM _ _ _ (⟨t280, (⟨t285, 0, t294⟩ : S33)⟩ : S61)); (case aB => exact (bl HB.out)); (case aF => exact (fun k_ hk => Kd.freshB (g := gb284) (o := .cells #[.string t280, .int .i64 t285, .int .i64 0, .string t294] 61 (0, 0)) (by refine pk ?_; refine blk_put (cs := #[.string t280, .int .i64 t285, .int .i64 t290, .string t294]) ?_ 2 _ rfl; refine pk ?_; refine blk_put (cs := #[.string t280, .int .i64 t285, .int .i64 t290, .string (⟨#[]⟩ : ByteArray)]) ?_ 3 _ rfl; exact pk BK284.out) k_ hk)); (case aO => exact (by (with_reducible repeat (first | apply Kd.R_alloc | apply Kd.R_drewN | apply Kd.R_drew)); exact Kd.R_mono (Kd.R_far (p := ⟨gb284, 2, none⟩) (Kd.R_far (p := ⟨gb284, 3, none⟩) (Kd.R_mono HO_241002.out (fun k_ hk => (⟨hk, hk⟩ : _ ∧ k_ ≠ gb284))) (fun _ hk => hk.2) (.string t294)) (fun _ hk => hk.2) (.int .i64 0)) (fun _ hk => hk.1))); (case aS => exact (below_size (bl HB.out))); (case aL => have := LMc110.out; omega); intro v299 w122 ho hb hg hat; rw [← Ny298.out] at ho; replace HO_241001 := Aside0.mk (Kd.S_over' (by (with_reducible repeat (first | apply Kd.S_alloc | apply Kd.S_drewN | apply Kd.S_drew)); exact (Kd.S_mono (Kd.S_far (p := ⟨gb284, 2, none⟩) (Kd.S_far (p := ⟨gb284, 3, none⟩) (Kd.S_types HO_241001.out BK284.out (by decide)) (fun _ hk => hk.2) (.string t294)) (fun _ hk => hk.2) (.int .i64 0)) (fun _ h_ => h_.1))) (Kd.R_typed (by (with_reducible repeat (first | apply Kd.R_alloc | apply Kd.R_drewN | apply Kd.R_drew)); exact (Kd.R_mono (Kd.R_far (p := ⟨gb284, 2, none⟩) (Kd.R_far (p := ⟨gb284, 3, none⟩) (Kd.R_mono HO_241002.out (fun k_ hk => (⟨hk, hk⟩ : _ ∧ k_ ≠ gb284))) (fun _ hk => hk.2) (.string t294)) (fun _ hk => hk.2) (.int .i64 0)) (fun _ h_ => h_.1)))) (by decide) hg); replace BK234 := Aside0.mk (blk_grown (g := gb234) (o := .cells #[.int .i64 0, .slice none 0 0, .slice none 0 0] 25 (0, 0)) (by refine pk ?_; refine blk_far ?_ NB234_284.out _; refine pk ?_; refine blk_far ?_ NB234_284.out _; exact pk BK234.out) hg (Kd.R_ne HO_241002.out BK234.out (by decide))); replace BK240 := Aside0.mk (blk_grown (g := gb240) (o := .cells #[.int .i64 t236, u241001, u241002] 25 (0, 0)) (by refine pk ?_; refine blk_far ?_ NB240_284.out _; refine pk ?_; refine blk_far ?_ NB240_284.out _; exact pk BK240.out) hg (Kd.R_ne HO_241002.out BK240.out (by decide))); replace BK284 := Aside0.mk (blk_grown (g := gb284) (o := .cells #[.string t280, .int .i64 t285, .int .i64 0, .string t294] 61 (0, 0)) (by refine pk ?_; refine blk_put (cs := #[.string t280, .int .i64 t285, .int .i64 t290, .string t294]) ?_ 2 _ rfl; refine pk ?_; refine blk_put (cs := #[.string t280, .int .i64 t285, .int .i64 t290, .string (⟨#[]⟩ : ByteArray)]) ?_ 3 _ rfl; exact pk BK284.out) hg (Kd.R_away HO_241002.out (fun _ hk => hk))); replace BK235 := Aside0.mk (blk_grown (g := gb235) (o := .cells #[.string t295, .int .i64 t296, .bool t297] 78 (0, 0)) (by refine pk ?_; refine blk_far ?_ NB235_284.out _; refine pk ?_; refine blk_far ?_ NB235_284.out _; exact pk BK235.out) hg (Kd.R_ne HO_241002.out BK235.out (by decide))); replace HB := Aside0.mk (hb); have HO300 := Aside0.mk (ho); clear HO_241002; clear ho hb hg hat; obtain ⟨Ao123, co123, eo123⟩ := Kd.R_slice HO300.out; subst eo123; obtain ⟨hcz124_0, hcz124_1, hcz124_2, hfz124_0, hfz124_1, hfz124_2⟩ := cz3 BK240.out))
                go_roundg kj78
                case measure => have := HK1.out; have := HJ11.out; have := HK3.out; have := HJ69.out; have := HJ78.out; omega
                case rel => exact ⟨(wrap64 (x10_3 - 1)), (t295), (t296), (t297), (y298), (.slice Ao123 y298.length co123), hsr, H', ⟨by have := HK1.out; have := HJ11.out; have := HK3.out; have := HJ69.out; have := HJ78.out; omega⟩, ⟨by (with_reducible repeat (first | apply Kd.S_alloc | apply Kd.S_drewN | apply Kd.S_drew)); exact Kd.S_mono (Kd.S_far (p := ⟨gb240, 2, none⟩) (Kd.S_types HO_241001.out BK240.out (by decide)) (fun _ hk => hk.2) (.slice Ao123 y298.length co123)) (fun _ hk => trivial)⟩, ⟨by (with_reducible repeat (first | apply Kd.R_alloc | apply Kd.R_drewN | apply Kd.R_drew)); exact Kd.R_mono (Kd.R_far (p := ⟨gb240, 2, none⟩) (Kd.R_types HO300.out BK240.out (by decide)) (fun _ hk => hk.2) (.slice Ao123 y298.length co123)) (fun _ hk => trivial)⟩, ⟨by refine pk ?_; refine blk_far ?_ NB234_240.out _; exact pk BK234.out⟩, ⟨by refine pk ?_; refine blk_put (cs := #[.int .i64 t236, u241001, u241002]) ?_ 2 _ rfl; exact pk BK240.out⟩, ⟨by refine pk ?_; refine blk_far ?_ NB235_240.out _; exact pk BK235.out⟩, ⟨bl HB.out⟩⟩
               ·rw [if_neg c110] at H
                exact absurd H (by simp)
              ·rw [if_neg c108] at H
               have c108b0 : (t285 == 2) = false := beq_eq_false_iff_ne.mpr c108
               have c108b1 : (t285 != 2) = true := bne_iff_ne.mpr c108
               by_cases c125 : x241002_3.length < 2932031007402
               ·rw [if_pos c125] at H
                have LMc125 := Aside0.mk c125
                clear c125
                obtain ⟨y301, hy301⟩ : ∃ y_ : List (S61), y_ = (x241002_3 ++ [(⟨t280, (⟨t285, t290, (⟨#[]⟩ : ByteArray)⟩ : S33)⟩ : S61)]) := ⟨_, rfl⟩
                replace H : (payload_Decode.l2 kj78 (wrap64 (x10_3 - 1)) t291 t292 t293 t236 x241001_1 y301) = some (r1, r2, r3, r4, r5) := by first | (rw [hy301]; with_reducible exact H) | (have H2_ := (Option.bind_some _ _).symm.trans H; rw [hy301]; with_reducible exact H2_) | (have H2_ := (Option.bind_some _ _).symm.trans H; with_reducible exact H2_) | with_reducible exact H | (rw [hy301]; exact H) | exact H
                have Ny301 := Aside0.mk hy301
                clear hy301
                have H' := Aside0.mk H
                clear H
                have hnb126 := NB284_234.out
                have hnc126 := NB234_284.out
                have hnb127 := NB284_240.out
                have hnc127 := NB240_284.out
                have hnb128 := NB284_235.out
                have hnc128 := NB235_284.out
                obtain ⟨hcz129_0, hcz129_1, hcz129_2, hcz129_3, hfz129_0, hfz129_1, hfz129_2, hfz129_3⟩ := cz4 BK284.out
                go_wp2_with (first | ((with_reducible refine gate_callee (f := 32) rfl ?_); refine goesL_ (some 102) rfl rfl Tryd.func32 kr rfl #[.int .i64 t285] rfl ga ?_; (with_reducible refine (payload_width.calls t285 t289 _ A106.out).mono ?_); rintro e w' ⟨rfl, ⟨nd, rfl⟩⟩; refine ⟨_, rfl, ?_⟩; (try (rw [drewN_self wc]; generalize hq_ : World.drewN wc _ = wc; have n0_ : Aside0 (Kd.S k59 59 wc w.heap.size (fun _ => True) u241001 x241001_1) := ⟨by rw [← hq_]; exact (pS HO_241001.out)⟩; have n1_ : Aside0 (Kd.R k61 61 wc w.heap.size (fun k_ => k_ ≠ gb284) u241002 x241002_3) := ⟨by rw [← hq_]; exact (pR HO_241002.out)⟩; have n2_ : Aside0 (wc.heap[gb234]? = some (.cells #[.int .i64 0, .slice none 0 0, .slice none 0 0] 25 (0, 0))) := ⟨by rw [← hq_]; exact (pk BK234.out)⟩; have n3_ : Aside0 (wc.heap[gb235]? = some (.cells #[.string t286, .int .i64 t287, .bool t288] 78 (0, 0))) := ⟨by rw [← hq_]; exact (pk BK235.out)⟩; have n4_ : Aside0 (wc.heap[gb240]? = some (.cells #[.int .i64 t236, u241001, u241002] 25 (0, 0))) := ⟨by rw [← hq_]; exact (pk BK240.out)⟩; have n5_ : Aside0 (wc.heap[gb284]? = some (.cells #[.string t280, .int .i64 t285, .int .i64 0, .string (⟨#[]⟩ : ByteArray)] 61 (0, 0))) := ⟨by rw [← hq_]; exact (pk BK284.out)⟩; have n6_ : Aside0 (Below w.heap.size w wc) := ⟨by rw [← hq_]; exact (bl HB.out)⟩; clear HO_241001 HO_241002 BK234 BK235 BK240 BK284 HB hq_; have HO_241001 := n0_; have HO_241002 := n1_; have BK234 := n2_; have BK235 := n3_; have BK240 := n4_; have BK284 := n5_; have HB := n6_; clear n0_ n1_ n2_ n3_ n4_ n5_ n6_))) | ((with_reducible refine gate_callee (f := 39) rfl ?_); refine goesL_ (some 103) rfl rfl Tryd.func39 kr rfl #[.pointer (some ⟨gb235, 0, none⟩), .int .i64 t289] rfl ga ?_; (with_reducible refine (payload_taker_number.calls kj78 gb235 t286 t287 t288 t289 t290 t291 t292 t293 w _ ?side1 ?side2 A107.out).mono ?_); (case side1 => exact ⟨pk BK235.out, GE235.out⟩); (case side2 => exact bl HB.out); rintro e w130 ⟨rfl, hi, hb, hk⟩; refine ⟨_, rfl, ?_⟩; replace HO_241001 := Aside0.mk (Kd.S_mono (Kd.S_keep (IsS78.apartS (show IsS78 w _ gb235 t286 t287 t288 from by repeat (first | (with_reducible first | exact (Aside0.mk (⟨BK235.out, GE235.out⟩ : IsS78 w _ gb235 t286 t287 t288)).out | apply IsS78.alloc | apply IsS78.drewN | apply IsS78.drew | apply IsS78.set_0 | apply IsS78.set_1 | apply IsS78.set_2 | refine IsS78.far ?_ NB235_234.out _ | refine IsS78.far ?_ NB235_240.out _ | refine IsS78.far ?_ NB235_284.out _) | exact (Aside0.mk (⟨BK235.out, GE235.out⟩ : IsS78 w _ gb235 t286 t287 t288)).out)) (pS HO_241001.out) (by decide)) hk (fun _ h => h.2)) (fun _ h => h.1)); replace HO_241002 := Aside0.mk (Kd.R_mono (Kd.R_keep (IsS78.apart (show IsS78 w _ gb235 t286 t287 t288 from by repeat (first | (with_reducible first | exact (Aside0.mk (⟨BK235.out, GE235.out⟩ : IsS78 w _ gb235 t286 t287 t288)).out | apply IsS78.alloc | apply IsS78.drewN | apply IsS78.drew | apply IsS78.set_0 | apply IsS78.set_1 | apply IsS78.set_2 | refine IsS78.far ?_ NB235_234.out _ | refine IsS78.far ?_ NB235_240.out _ | refine IsS78.far ?_ NB235_284.out _) | exact (Aside0.mk (⟨BK235.out, GE235.out⟩ : IsS78 w _ gb235 t286 t287 t288)).out)) (pR HO_241002.out) (by decide)) hk (fun _ h => h.2)) (fun _ h => h.1)); replace BK234 := Aside0.mk (KeepBut.blk hk (g' := gb234) (o := .cells #[.int .i64 0, .slice none 0 0, .slice none 0 0] 25 (0, 0)) (pk BK234.out) NB234_235.out (by simp)); replace BK240 := Aside0.mk (KeepBut.blk hk (g' := gb240) (o := .cells #[.int .i64 t236, u241001, u241002] 25 (0, 0)) (pk BK240.out) NB240_235.out (by simp)); replace BK284 := Aside0.mk (KeepBut.blk hk (g' := gb284) (o := .cells #[.string t280, .int .i64 t285, .int .i64 0, .string (⟨#[]⟩ : ByteArray)] 61 (0, 0)) (pk BK284.out) NB284_235.out (by simp)); replace HB := Aside0.mk (hb); replace BK235 := Aside0.mk (hi.1); (try clear hb); (try clear hb2); (try clear hk); (try clear hi); obtain ⟨hcz131_0, hcz131_1, hcz131_2, hcz131_3, hfz131_0, hfz131_1, hfz131_2, hfz131_3⟩ := cz4 BK284.out; have hnb132 := NB240_234.out; have hnc132 := NB234_240.out; have hnb133 := NB240_235.out; have hnc133 := NB235_240.out; obtain ⟨hcz134_0, hcz134_1, hcz134_2, hfz134_0, hfz134_1, hfz134_2⟩ := cz3 BK240.out) | ((with_reducible refine gate_builtin (b := .append) (xs := #[.tmp 120, .tmp 122]) rfl ?_); at_builtin; refine Kd.R_append k61 (w0 := w) w.heap.size rfl (.tmp 120) (.tmp 122) 23 61 (.agg #[(.string ⟨#[]⟩), (.int .i64 0), (.int .i64 0), (.string ⟨#[]⟩)]) 48 rfl Tryd.underlying23 info61 rfl (by decide) (by omega) u241002 x241002_3 (⟨t280, (⟨t285, t290, (⟨#[]⟩ : ByteArray)⟩ : S33)⟩ : S61) [.string t280, .int .i64 t285, .int .i64 t290, .string (⟨#[]⟩ : ByteArray)] (fun k_ => k_ ≠ gb284) (fun _ => False) rfl (by first | (go_simp; done) | (go_simp; rfl)) ?aP (fun _ hk => hk.elim) ?aF ?aO ?aB ?aS ?aL ?_; (case aP => exact k61_mkM _ _ _ (⟨t280, (⟨t285, t290, (⟨#[]⟩ : ByteArray)⟩ : S33)⟩ : S61)); (case aB => exact (bl HB.out)); (case aF => exact (fun k_ hk => Kd.freshB (g := gb284) (o := .cells #[.string t280, .int .i64 t285, .int .i64 t290, .string (⟨#[]⟩ : ByteArray)] 61 (0, 0)) (by refine pk ?_; refine blk_put (cs := #[.string t280, .int .i64 t285, .int .i64 0, .string (⟨#[]⟩ : ByteArray)]) ?_ 2 _ rfl; exact pk BK284.out) k_ hk)); (case aO => exact (by (with_reducible repeat (first | apply Kd.R_alloc | apply Kd.R_drewN | apply Kd.R_drew)); exact Kd.R_mono (Kd.R_far (p := ⟨gb284, 2, none⟩) (Kd.R_mono HO_241002.out (fun k_ hk => (⟨hk, hk⟩ : _ ∧ k_ ≠ gb284))) (fun _ hk => hk.2) (.int .i64 t290)) (fun _ hk => hk.1))); (case aS => exact (below_size (bl HB.out))); (case aL => have := LMc125.out; omega); intro v302 w135 ho hb hg hat; rw [← Ny301.out] at ho; replace HO_241001 := Aside0.mk (Kd.S_over' (by (with_reducible repeat (first | apply Kd.S_alloc | apply Kd.S_drewN | apply Kd.S_drew)); exact (Kd.S_mono (Kd.S_far (p := ⟨gb284, 2, none⟩) (Kd.S_types HO_241001.out BK284.out (by decide)) (fun _ hk => hk.2) (.int .i64 t290)) (fun _ h_ => h_.1))) (Kd.R_typed (by (with_reducible repeat (first | apply Kd.R_alloc | apply Kd.R_drewN | apply Kd.R_drew)); exact (Kd.R_mono (Kd.R_far (p := ⟨gb284, 2, none⟩) (Kd.R_mono HO_241002.out (fun k_ hk => (⟨hk, hk⟩ : _ ∧ k_ ≠ gb284))) (fun _ hk => hk.2) (.int .i64 t290)) (fun _ h_ => h_.1)))) (by decide) hg); replace BK234 := Aside0.mk (blk_grown (g := gb234) (o := .cells #[.int .i64 0, .slice none 0 0, .slice none 0 0] 25 (0, 0)) (by refine pk ?_; refine blk_far ?_ NB234_284.out _; exact pk BK234.out) hg (Kd.R_ne HO_241002.out BK234.out (by decide))); replace BK240 := Aside0.mk (blk_grown (g := gb240) (o := .cells #[.int .i64 t236, u241001, u241002] 25 (0, 0)) (by refine pk ?_; refine blk_far ?_ NB240_284.out _; exact pk BK240.out) hg (Kd.R_ne HO_241002.out BK240.out (by decide))); replace BK284 := Aside0.mk (blk_grown (g := gb284) (o := .cells #[.string t280, .int .i64 t285, .int .i64 t290, .string (⟨#[]⟩ : ByteArray)] 61 (0, 0)) (by refine pk ?_; refine blk_put (cs := #[.string t280, .int .i64 t285, .int .i64 0, .string (⟨#[]⟩ : ByteArray)]) ?_ 2 _ rfl; exact pk BK284.out) hg (Kd.R_away HO_241002.out (fun _ hk => hk))); replace BK235 := Aside0.mk (blk_grown (g := gb235) (o := .cells #[.string t291, .int .i64 t292, .bool t293] 78 (0, 0)) (by refine pk ?_; refine blk_far ?_ NB235_284.out _; exact pk BK235.out) hg (Kd.R_ne HO_241002.out BK235.out (by decide))); replace HB := Aside0.mk (hb); have HO303 := Aside0.mk (ho); clear HO_241002; clear ho hb hg hat; obtain ⟨Ao136, co136, eo136⟩ := Kd.R_slice HO303.out; subst eo136; obtain ⟨hcz137_0, hcz137_1, hcz137_2, hfz137_0, hfz137_1, hfz137_2⟩ := cz3 BK240.out))
                go_roundg kj78
                case measure => have := HK1.out; have := HJ11.out; have := HK3.out; have := HJ69.out; have := HJ78.out; omega
                case rel => exact ⟨(wrap64 (x10_3 - 1)), (t291), (t292), (t293), (y301), (.slice Ao136 y301.length co136), hsr, H', ⟨by have := HK1.out; have := HJ11.out; have := HK3.out; have := HJ69.out; have := HJ78.out; omega⟩, ⟨by (with_reducible repeat (first | apply Kd.S_alloc | apply Kd.S_drewN | apply Kd.S_drew)); exact Kd.S_mono (Kd.S_far (p := ⟨gb240, 2, none⟩) (Kd.S_types HO_241001.out BK240.out (by decide)) (fun _ hk => hk.2) (.slice Ao136 y301.length co136)) (fun _ hk => trivial)⟩, ⟨by (with_reducible repeat (first | apply Kd.R_alloc | apply Kd.R_drewN | apply Kd.R_drew)); exact Kd.R_mono (Kd.R_far (p := ⟨gb240, 2, none⟩) (Kd.R_types HO303.out BK240.out (by decide)) (fun _ hk => hk.2) (.slice Ao136 y301.length co136)) (fun _ hk => trivial)⟩, ⟨by refine pk ?_; refine blk_far ?_ NB234_240.out _; exact pk BK234.out⟩, ⟨by refine pk ?_; refine blk_put (cs := #[.int .i64 t236, u241001, u241002]) ?_ 2 _ rfl; exact pk BK240.out⟩, ⟨by refine pk ?_; refine blk_far ?_ NB235_240.out _; exact pk BK235.out⟩, ⟨bl HB.out⟩⟩
               ·rw [if_neg c125] at H
                exact absurd H (by simp)
          ·replace c75 := Bool.eq_false_iff.mpr c75
           subst c75
           have H1 : (if x236002_3 = true then (some (0, ([] : List (S59)), ([] : List (S61)), 0, 52)) else ((payload_may.f kj69 t236 x241001_1 x241002_3).bind fun t275 => (if t275 = true then (some (t236, x241001_1, x241002_3, x236001_3, 0)) else (some (0, ([] : List (S59)), ([] : List (S61)), 0, 52))))) = some (r1, r2, r3, r4, r5) := by rw [if_neg (show ¬ (false = true) by decide)] at H; exact H
           clear H
           have H := H1
           clear H1
           by_cases c138 : x236002_3 = true
           ·subst c138
            have H1 : (some (0, ([] : List (S59)), ([] : List (S61)), 0, 52)) = some (r1, r2, r3, r4, r5) := by rw [if_pos rfl] at H; exact H
            clear H
            have H := H1
            clear H1
            simp only [Option.some.injEq, Prod.mk.injEq] at H
            obtain ⟨rfl, rfl, rfl, rfl, rfl⟩ := H
            have hnb139 := NB235_234.out
            have hnc139 := NB234_235.out
            have hnb140 := NB235_240.out
            have hnc140 := NB240_235.out
            obtain ⟨hcz141_0, hcz141_1, hcz141_2, hfz141_0, hfz141_1, hfz141_2⟩ := cz3 BK235.out
            have hnb142 := NB234_240.out
            have hnc142 := NB240_234.out
            obtain ⟨hcz143_0, hcz143_1, hcz143_2, hfz143_0, hfz143_1, hfz143_2⟩ := cz3 BK234.out
            go_wp2
            refine bodyPost_ret (results_ctt rfl _ _ gb234 25 #[.int .i64 0, .slice none 0 0, .slice none 0 0] (0, 0) _ rfl (by refine pk ?_; refine blk_put (cs := #[.int .i64 0, .slice none 0 0, .slice none 0 0]) ?_ 2 _ rfl; refine pk ?_; refine blk_put (cs := #[.int .i64 0, .slice none 0 0, .slice none 0 0]) ?_ 1 _ rfl; refine pk ?_; refine blk_put (cs := #[.int .i64 0, .slice none 0 0, .slice none 0 0]) ?_ 0 _ rfl; exact pk BK234.out) Tryd.underlying25 rfl kr) rfl ?_
            exact ⟨_, _, er0, by first | exact Kd.S_nil _ _ _ _ _ | exact Kd.N_nil _ _ _ _ _ | exact Kd.V_nil _ _ _ _ _ | exact Kd.Q_nil _ _ _ _ _ | exact Kd.R_nil _ _ _ _ _, by first | exact Kd.R_nil _ _ _ _ _ | exact Kd.N_nil _ _ _ _ _ | exact Kd.V_nil _ _ _ _ _ | exact Kd.Q_nil _ _ _ _ _ | exact Kd.S_nil _ _ _ _ _, bl HB.out⟩
           ·replace c138 := Bool.eq_false_iff.mpr c138
            subst c138
            have H1 : ((payload_may.f kj69 t236 x241001_1 x241002_3).bind fun t275 => (if t275 = true then (some (t236, x241001_1, x241002_3, x236001_3, 0)) else (some (0, ([] : List (S59)), ([] : List (S61)), 0, 52)))) = some (r1, r2, r3, r4, r5) := by rw [if_neg (show ¬ (false = true) by decide)] at H; exact H
            clear H
            have H := H1
            clear H1
            replace H := Option.bind_eq_some_iff.mp H
            obtain ⟨t275, A1440, H⟩ := H
            replace H : (if t275 = true then (some (t236, x241001_1, x241002_3, x236001_3, 0)) else (some (0, ([] : List (S59)), ([] : List (S61)), 0, 52))) = some (r1, r2, r3, r4, r5) := H
            have A144 := Aside0.mk A1440
            clear A1440
            by_cases c145 : t275 = true
            ·subst c145
             have H1 : (some (t236, x241001_1, x241002_3, x236001_3, 0)) = some (r1, r2, r3, r4, r5) := by rw [if_pos rfl] at H; exact H
             clear H
             have H := H1
             clear H1
             simp only [Option.some.injEq, Prod.mk.injEq] at H
             obtain ⟨rfl, rfl, rfl, rfl, rfl⟩ := H
             have hnb146 := NB235_234.out
             have hnc146 := NB234_235.out
             have hnb147 := NB235_240.out
             have hnc147 := NB240_235.out
             obtain ⟨hcz148_0, hcz148_1, hcz148_2, hfz148_0, hfz148_1, hfz148_2⟩ := cz3 BK235.out
             have hnb149 := NB240_234.out
             have hnc149 := NB234_240.out
             obtain ⟨hcz150_0, hcz150_1, hcz150_2, hfz150_0, hfz150_1, hfz150_2⟩ := cz3 BK240.out
             obtain ⟨Ao151, co151, eo151⟩ := Kd.S_slice HO_241001.out
             subst eo151
             obtain ⟨Ao152, co152, eo152⟩ := Kd.R_slice HO_241002.out
             subst eo152
             try go_wp2_with (first | (go_at_call 30; (with_reducible refine (payload_may.calls kj69 t236 _ _ x241001_1 _ _ x241002_3 true _ ?side1 ?side2 ?side3 ?side4 ?side5 A144.out).mono ?_); (case side1 => repeat (first | exact (Kd.S_reads' HO_241001.out).2.2 | (with_reducible refine Kd.C_alloc ?_ _) | (with_reducible refine Kd.C_drewN ?_ _) | (with_reducible refine Kd.C_drew ?_))); (case side2 => exact (Kd.S_reads' HO_241001.out).2.1); (case side3 => repeat (first | exact (Kd.R_reads' HO_241002.out).2.2 | (with_reducible refine Kd.C_alloc ?_ _) | (with_reducible refine Kd.C_drewN ?_ _) | (with_reducible refine Kd.C_drew ?_))); (case side4 => exact (Kd.R_reads' HO_241002.out).2.1); (case side5 => exact LaidU.below HU.out (bl HB.out)); rintro e w153 ⟨rfl, hb⟩; replace HO_241001 := Aside0.mk (Kd.S_below (pS HO_241001.out) hb); replace HO_241002 := Aside0.mk (Kd.R_below (pR HO_241002.out) hb); replace BK234 := Aside0.mk (blk_below (pk BK234.out) hb); replace BK240 := Aside0.mk (blk_below (pk BK240.out) hb); replace BK235 := Aside0.mk (blk_below (pk BK235.out) hb); replace HB := Aside0.mk (below_step (bl HB.out) hb); (try clear hb); (try clear hb2); (try clear hk); (try clear hi)))
             replace HO_241001 := Aside0.mk (Kd.S_drew HO_241001.out)
             replace HO_241002 := Aside0.mk (Kd.R_drew HO_241002.out)
             replace BK234 := Aside0.mk (blk_drew BK234.out)
             replace BK240 := Aside0.mk (blk_drew BK240.out)
             replace BK235 := Aside0.mk (blk_drew BK235.out)
             replace HB := Aside0.mk (below_drew1 HB.out)
             refine start_ (n := 8) (S := fun w' => w'.cell? ⟨gb240, 0, none⟩ = some (.int .i64 t236) ∧ w'.cell? ⟨gb240, 1, none⟩ = some (.slice Ao151 x241001_1.length co151) ∧ w'.cell? ⟨gb240, 2, none⟩ = some (.slice Ao152 x241002_3.length co152) ∧ w'.cell? ⟨gb235, 0, none⟩ = some (.string x236000_3) ∧ w'.cell? ⟨gb235, 1, none⟩ = some (.int .i64 x236001_3) ∧ w'.cell? ⟨gb235, 2, none⟩ = some (.bool false)) (ds := []) #[false, false, false, false, false, false, false, false] kr rfl rfl ⟨(blk_cell BK240.out 0).trans rfl, (blk_cell BK240.out 1).trans rfl, (blk_cell BK240.out 2).trans rfl, (blk_cell BK235.out 0).trans rfl, (blk_cell BK235.out 1).trans rfl, (blk_cell BK235.out 2).trans rfl⟩ (fun hHeld => ?_); refine with_tabW payload_Decode.tab25 payload_Decode.bits25 (fun HT_ HW_ => ?_)
             generalize w153.drew = w154 at HO_241001 HO_241002 BK234 BK240 BK235 HB hHeld ⊢
             refine pure_ (i := 1) (N := some 136) (v := ?_) (a' := ?_) #[false, true, false, false, false, false, false, false] rfl rfl (any_of HT_.out kr) (fun _ _ _ h => h) (Or.inl ⟨by rfl, ?_⟩) ?_ ?_
             rotate_left
             ·exact wl
             rotate_left
             ·exact ap
             refine pure_ (i := 2) (N := some 137) (v := ?_) (a' := ?_) #[false, true, true, false, false, false, false, false] rfl rfl (any_of HT_.out kr) (fun _ _ _ h => h) (Or.inl ⟨by rfl, ?_⟩) ?_ ?_
             rotate_left
             ·exact wl
             rotate_left
             ·exact ap
             refine pure_ (i := 3) (N := some 138) (v := ?_) (a' := ?_) #[false, true, true, true, false, false, false, false] rfl rfl (any_of HT_.out kr) (fun _ _ _ h => h) (Or.inl ⟨by rfl, ?_⟩) ?_ ?_
             rotate_left
             ·exact wl
             rotate_left
             ·exact ap
             refine take_ (i := 0) (N := some 135) (v := ?_) (a' := ?_) #[true, true, true, true, false, false, false, false] rfl rfl (take_ofW HT_.out HW_.out kr) (fun _ _ _ h => h) (Or.inl ⟨by rfl, ?_⟩) hHeld ?_ ?_
             rotate_left
             ·rintro w' ⟨s0, s1, s2, s3, s4, s5⟩
              go_simp
              exact rl
             rotate_left
             ·exact ap
             refine take_ (i := 4) (N := some 139) (v := ?_) (a' := ?_) #[true, true, true, true, true, false, false, false] rfl rfl (take_ofW HT_.out HW_.out kr) (fun _ _ _ h => h) (Or.inl ⟨by rfl, ?_⟩) hHeld ?_ ?_
             rotate_left
             ·rintro w' ⟨s0, s1, s2, s3, s4, s5⟩
              go_simp
              exact rl
             rotate_left
             ·exact ap
             refine one_ (i := 5) (N := none) #[true, true, true, true, true, true, false, false] rfl rfl (one_of HT_.out kr) (by decide) (fun K hK => ?_)
             have hs155 : w154.cell? ⟨gb234, 0, none⟩ = some (.int .i64 0) := (blk_cell BK234.out 0).trans rfl
             have hfs155 := blk_frozen BK234.out 0
             have hns155_1 := NB240_234.out
             have hns155_2 := NB235_234.out
             have hms155_1 := NB234_240.out
             have hms155_2 := NB234_235.out
             have hs156 : w154.cell? ⟨gb234, 1, none⟩ = some (.slice none 0 0) := (blk_cell BK234.out 1).trans rfl
             have hfs156 := blk_frozen BK234.out 1
             have hns156_1 := NB240_234.out
             have hns156_2 := NB235_234.out
             have hms156_1 := NB234_240.out
             have hms156_2 := NB234_235.out
             have hs157 : w154.cell? ⟨gb234, 2, none⟩ = some (.slice none 0 0) := (blk_cell BK234.out 2).trans rfl
             have hfs157 := blk_frozen BK234.out 2
             have hns157_1 := NB240_234.out
             have hns157_2 := NB235_234.out
             have hms157_1 := NB234_240.out
             have hms157_2 := NB234_235.out
             refine skip_ (w1 := ?_) (by rfl) rfl ?_ ?_
             rotate_left
             ·go_simp
              rfl
             refine hK.out _ _ ⟨((cell_far (p := ⟨gb234, _, none⟩) NB240_234.out _).trans (((cell_far (p := ⟨gb234, _, none⟩) NB240_234.out _).trans (((cell_far (p := ⟨gb234, _, none⟩) NB240_234.out _).trans (hHeld.1)))))), ((cell_far (p := ⟨gb234, _, none⟩) NB240_234.out _).trans (((cell_far (p := ⟨gb234, _, none⟩) NB240_234.out _).trans (((cell_far (p := ⟨gb234, _, none⟩) NB240_234.out _).trans (hHeld.2.1)))))), ((cell_far (p := ⟨gb234, _, none⟩) NB240_234.out _).trans (((cell_far (p := ⟨gb234, _, none⟩) NB240_234.out _).trans (((cell_far (p := ⟨gb234, _, none⟩) NB240_234.out _).trans (hHeld.2.2.1)))))), ((cell_far (p := ⟨gb234, _, none⟩) NB235_234.out _).trans (((cell_far (p := ⟨gb234, _, none⟩) NB235_234.out _).trans (((cell_far (p := ⟨gb234, _, none⟩) NB235_234.out _).trans (hHeld.2.2.2.1)))))), ((cell_far (p := ⟨gb234, _, none⟩) NB235_234.out _).trans (((cell_far (p := ⟨gb234, _, none⟩) NB235_234.out _).trans (((cell_far (p := ⟨gb234, _, none⟩) NB235_234.out _).trans (hHeld.2.2.2.2.1)))))), ((cell_far (p := ⟨gb234, _, none⟩) NB235_234.out _).trans (((cell_far (p := ⟨gb234, _, none⟩) NB235_234.out _).trans (((cell_far (p := ⟨gb234, _, none⟩) NB235_234.out _).trans (hHeld.2.2.2.2.2))))))⟩ (fun hHeld => ?_)
             clear hK K
             refine pure_ (i := 6) (N := some 3) (v := ?_) (a' := ?_) #[true, true, true, true, true, true, true, false] rfl rfl (any_of HT_.out kr) (fun _ _ _ h => h) (Or.inl ⟨by rfl, ?_⟩) ?_ ?_
             rotate_left
             ·exact wl
             rotate_left
             ·exact ap
             refine pure_ (i := 7) (N := some 4) (v := ?_) (a' := ?_) #[true, true, true, true, true, true, true, true] rfl rfl (any_of HT_.out kr) (fun _ _ _ h => h) (Or.inl ⟨by rfl, ?_⟩) ?_ ?_
             rotate_left
             ·exact wl
             rotate_left
             ·exact ap
             refine done_ (done_of HT_.out kr) ?_
             try go_wp2
             refine bodyPost_ret (results_ctt rfl _ _ gb234 25 #[.int .i64 t236, .slice Ao151 x241001_1.length co151, .slice Ao152 x241002_3.length co152] (0, 0) _ rfl (by refine pk ?_; refine blk_put (cs := #[.int .i64 t236, .slice Ao151 x241001_1.length co151, .slice none 0 0]) ?_ 2 _ rfl; refine pk ?_; refine blk_put (cs := #[.int .i64 t236, .slice none 0 0, .slice none 0 0]) ?_ 1 _ rfl; refine pk ?_; refine blk_put (cs := #[.int .i64 0, .slice none 0 0, .slice none 0 0]) ?_ 0 _ rfl; exact pk BK234.out) Tryd.underlying25 rfl kr) rfl ?_
             exact ⟨_, _, er0, by (with_reducible repeat (first | apply Kd.S_alloc | apply Kd.S_drewN | apply Kd.S_drew)); exact Kd.S_mono (Kd.S_far (p := ⟨gb234, 2, none⟩) (Kd.S_far (p := ⟨gb234, 1, none⟩) (Kd.S_far (p := ⟨gb234, 0, none⟩) (Kd.S_types HO_241001.out BK234.out (by decide)) (fun _ hk => hk.2) (.int .i64 t236)) (fun _ hk => hk.2) (.slice Ao151 x241001_1.length co151)) (fun _ hk => hk.2) (.slice Ao152 x241002_3.length co152)) (fun _ hk => trivial), by (with_reducible repeat (first | apply Kd.R_alloc | apply Kd.R_drewN | apply Kd.R_drew)); exact Kd.R_mono (Kd.R_far (p := ⟨gb234, 2, none⟩) (Kd.R_far (p := ⟨gb234, 1, none⟩) (Kd.R_far (p := ⟨gb234, 0, none⟩) (Kd.R_types HO_241002.out BK234.out (by decide)) (fun _ hk => hk.2) (.int .i64 t236)) (fun _ hk => hk.2) (.slice Ao151 x241001_1.length co151)) (fun _ hk => hk.2) (.slice Ao152 x241002_3.length co152)) (fun _ hk => trivial), bl HB.out⟩
            ·replace c145 := Bool.eq_false_iff.mpr c145
             subst c145
             have H1 : (some (0, ([] : List (S59)), ([] : List (S61)), 0, 52)) = some (r1, r2, r3, r4, r5) := by rw [if_neg (show ¬ (false = true) by decide)] at H; exact H
             clear H
             have H := H1
             clear H1
             simp only [Option.some.injEq, Prod.mk.injEq] at H
             obtain ⟨rfl, rfl, rfl, rfl, rfl⟩ := H
             have hnb158 := NB235_234.out
             have hnc158 := NB234_235.out
             have hnb159 := NB235_240.out
             have hnc159 := NB240_235.out
             obtain ⟨hcz160_0, hcz160_1, hcz160_2, hfz160_0, hfz160_1, hfz160_2⟩ := cz3 BK235.out
             have hnb161 := NB240_234.out
             have hnc161 := NB234_240.out
             obtain ⟨hcz162_0, hcz162_1, hcz162_2, hfz162_0, hfz162_1, hfz162_2⟩ := cz3 BK240.out
             obtain ⟨Ao163, co163, eo163⟩ := Kd.S_slice HO_241001.out
             subst eo163
             obtain ⟨Ao164, co164, eo164⟩ := Kd.R_slice HO_241002.out
             subst eo164
             go_wp2_with (first | (go_at_call 30; (with_reducible refine (payload_may.calls kj69 t236 _ _ x241001_1 _ _ x241002_3 false _ ?side1 ?side2 ?side3 ?side4 ?side5 A144.out).mono ?_); (case side1 => repeat (first | exact (Kd.S_reads' HO_241001.out).2.2 | (with_reducible refine Kd.C_alloc ?_ _) | (with_reducible refine Kd.C_drewN ?_ _) | (with_reducible refine Kd.C_drew ?_))); (case side2 => exact (Kd.S_reads' HO_241001.out).2.1); (case side3 => repeat (first | exact (Kd.R_reads' HO_241002.out).2.2 | (with_reducible refine Kd.C_alloc ?_ _) | (with_reducible refine Kd.C_drewN ?_ _) | (with_reducible refine Kd.C_drew ?_))); (case side4 => exact (Kd.R_reads' HO_241002.out).2.1); (case side5 => exact LaidU.below HU.out (bl HB.out)); rintro e w165 ⟨rfl, hb⟩; replace HO_241001 := Aside0.mk (Kd.S_below (pS HO_241001.out) hb); replace HO_241002 := Aside0.mk (Kd.R_below (pR HO_241002.out) hb); replace BK234 := Aside0.mk (blk_below (pk BK234.out) hb); replace BK240 := Aside0.mk (blk_below (pk BK240.out) hb); replace BK235 := Aside0.mk (blk_below (pk BK235.out) hb); replace HB := Aside0.mk (below_step (bl HB.out) hb); (try clear hb); (try clear hb2); (try clear hk); (try clear hi); obtain ⟨hcz166_0, hcz166_1, hcz166_2, hfz166_0, hfz166_1, hfz166_2⟩ := cz3 BK234.out))
             refine bodyPost_ret (results_ctt rfl _ _ gb234 25 #[.int .i64 0, .slice none 0 0, .slice none 0 0] (0, 0) _ rfl (by refine pk ?_; refine blk_put (cs := #[.int .i64 0, .slice none 0 0, .slice none 0 0]) ?_ 2 _ rfl; refine pk ?_; refine blk_put (cs := #[.int .i64 0, .slice none 0 0, .slice none 0 0]) ?_ 1 _ rfl; refine pk ?_; refine blk_put (cs := #[.int .i64 0, .slice none 0 0, .slice none 0 0]) ?_ 0 _ rfl; exact pk BK234.out) Tryd.underlying25 rfl kr) rfl ?_
             exact ⟨_, _, er0, by first | exact Kd.S_nil _ _ _ _ _ | exact Kd.N_nil _ _ _ _ _ | exact Kd.V_nil _ _ _ _ _ | exact Kd.Q_nil _ _ _ _ _ | exact Kd.R_nil _ _ _ _ _, by first | exact Kd.R_nil _ _ _ _ _ | exact Kd.N_nil _ _ _ _ _ | exact Kd.V_nil _ _ _ _ _ | exact Kd.Q_nil _ _ _ _ _ | exact Kd.S_nil _ _ _ _ _, bl HB.out⟩

end Go.Proofs.YtbeljekpknpadaaDoor.PPayY
