-- Written by a program of this session on top of the print: some functions by hand.
import Derived.Test.YteeiljjjgkinhaaGreatDoorPHttpFx0
import Derived.Test.YteeiljjjgkinhaaGreatDoorPHttpFx8
import Derived.Test.YteeiljjjgkinhaaGreatDoorPHttpFx10
import Derived.Test.YteeiljjjgkinhaaGreatDoorPHttpFx12
namespace Go.Proofs.YteeiljjjgkinhaaGreatDoor.PHttpF
open Go.RowKit Go.Proofs.YteeiljjjgkinhaaGreatDoorW.PrintWords Go.Proofs.YteeiljjjgkinhaaGreatDoorW.PrintLast Go.Proofs.YteeiljjjgkinhaaGreatDoorW.PrintMore
attribute [local go_sem] max2_int min2_int max_two min_two max_three min_three max_four min_four   -- for this text's walks alone
set_option linter.unusedVariables false
set_option linter.unusedSimpArgs false

/-! ### lodestarref04_Parse: function 7 -/
def lodestarref04_Parse.l0 : Nat → ByteArray → Int → Int → Int → Bool → ByteArray → ByteArray → ByteArray → Option (ByteArray × ByteArray × ByteArray × Int)
 | 0, _, _, _, _, _, _, _, _ => none
 | k + 1, x0, x4, x5, x8, x9, x235000, x235001, x235002 => if x5 < x4 then ((lodestarref04_find.f k x0 (⟨#[13, 10]⟩ : ByteArray) (wrap64 (x5 + 2))).bind fun t235 => (if 0 ≤ (wrap64 (x5 + 2)) then (if (wrap64 (x5 + 2)) ≤ t235 then (if t235 ≤ (x0.size : Int) then ((lodestarref04_line.f k (x0.extract ((wrap64 (x5 + 2)) : Int).toNat (t235 : Int).toNat) x9).bind fun bt236 => (if bt236.2 = 0 then (if bt236.1 ≥ 0 then (lodestarref04_Parse.l0 k x0 x4 t235 bt236.1 true x235000 x235001 x235002) else (lodestarref04_Parse.l0 k x0 x4 t235 x8 x9 x235000 x235001 x235002)) else (some ((⟨#[]⟩ : ByteArray), (⟨#[]⟩ : ByteArray), (⟨#[]⟩ : ByteArray), bt236.2)))) else (none)) else (none)) else (none))) else (if (wrap64 ((wrap64 ((x0.size : Int) - x4)) - 4)) = x8 then (if 0 ≤ (wrap64 (x4 + 4)) then (if (wrap64 (x4 + 4)) ≤ (x0.size : Int) then (some (x235000, x235001, x0.extract ((wrap64 (x4 + 4)) : Int).toNat x0.size, 0)) else (none)) else (none)) else (some ((⟨#[]⟩ : ByteArray), (⟨#[]⟩ : ByteArray), (⟨#[]⟩ : ByteArray), 40)))
def lodestarref04_Parse.f (k : Nat) (a0 : ByteArray) : Option (ByteArray × ByteArray × ByteArray × Int) := (lodestarref04_find.f k a0 (⟨#[13, 10, 13, 10]⟩ : ByteArray) 0).bind fun t228 => (if t228 < 0 then (if (a0.size : Int) > 4096 then (some ((⟨#[]⟩ : ByteArray), (⟨#[]⟩ : ByteArray), (⟨#[]⟩ : ByteArray), 41)) else (some ((⟨#[]⟩ : ByteArray), (⟨#[]⟩ : ByteArray), (⟨#[]⟩ : ByteArray), 40))) else (if (wrap64 (t228 + 4)) > 4096 then (some ((⟨#[]⟩ : ByteArray), (⟨#[]⟩ : ByteArray), (⟨#[]⟩ : ByteArray), 41)) else ((lodestarref04_find.f k a0 (⟨#[13, 10]⟩ : ByteArray) 0).bind fun t229 => (if 0 ≤ t229 then (if t229 ≤ (a0.size : Int) then ((lodestarref04_first.f k (a0.extract 0 (t229 : Int).toNat)).bind fun bt230 => (if bt230.2.2.2 = true then (lodestarref04_Parse.l0 k a0 t228 t229 0 false bt230.1 bt230.2.1 bt230.2.2.1) else (some ((⟨#[]⟩ : ByteArray), (⟨#[]⟩ : ByteArray), (⟨#[]⟩ : ByteArray), 40)))) else (none)) else (none)))))
theorem lodestarref04_Parse.mono_l : ∀ k, (∀ y0 y1 y2 y3 y4 y5 y6 y7, LeO (lodestarref04_Parse.l0 k y0 y1 y2 y3 y4 y5 y6 y7) (lodestarref04_Parse.l0 (k + 1) y0 y1 y2 y3 y4 y5 y6 y7))
 | 0 => fun _ _ _ _ _ _ _ _ r h => by simp [lodestarref04_Parse.l0] at h
 | k + 1 => by
  have ih0 := lodestarref04_Parse.mono_l k
  ·intro y0 y1 y2 y3 y4 y5 y6 y7
   unfold lodestarref04_Parse.l0
   repeat' first
   | (with_reducible exact ih0 _ _ _ _ _ _ _ _)
   | (with_reducible exact lodestarref04_find.mono _ _ _ _)
   | (with_reducible exact lodestarref04_first.mono _ _)
   | (with_reducible exact lodestarref04_line.mono _ _ _)
   | (with_reducible exact LeO.refl _)
   | (with_reducible exact LeO.none _)
   | (with_reducible refine LeO.ite ?_ ?_)
   | (with_reducible refine LeO.bind ?_ (fun _ => ?_))
   | exact ih0 _ _ _ _ _ _ _ _
   | exact lodestarref04_find.mono _ _ _ _
   | exact lodestarref04_first.mono _ _
   | exact lodestarref04_line.mono _ _ _
   | exact LeO.none _
   | refine LeO.ite ?_ ?_
   | refine LeO.bind ?_ (fun _ => ?_)
theorem lodestarref04_Parse.mono : ∀ a0 k, LeO (lodestarref04_Parse.f k a0) (lodestarref04_Parse.f (k + 1) a0) := by
 intro a0 k
 have ih0 := lodestarref04_Parse.mono_l k
 unfold lodestarref04_Parse.f
 repeat' first
   | (with_reducible exact ih0 _ _ _ _ _ _ _ _)
   | (with_reducible exact lodestarref04_find.mono _ _ _ _)
   | (with_reducible exact lodestarref04_first.mono _ _)
   | (with_reducible exact lodestarref04_line.mono _ _ _)
   | (with_reducible exact LeO.refl _)
   | (with_reducible exact LeO.none _)
   | (with_reducible refine LeO.ite ?_ ?_)
   | (with_reducible refine LeO.bind ?_ (fun _ => ?_))
   | exact ih0 _ _ _ _ _ _ _ _
   | exact lodestarref04_find.mono _ _ _ _
   | exact lodestarref04_first.mono _ _
   | exact lodestarref04_line.mono _ _ _
   | exact LeO.none _
   | refine LeO.ite ?_ ?_
   | refine LeO.bind ?_ (fun _ => ?_)
set_option maxHeartbeats 8000000 in
set_option maxRecDepth 100000 in
theorem lodestarref04_Parse.calls (k : Nat) (a0 : ByteArray) (r1 : ByteArray) (r2 : ByteArray) (r3 : ByteArray) (r4 : Int) (w : World) (h : lodestarref04_Parse.f k a0 = some (r1, r2, r3, r4)) :
  Calls Tryz.prog 7 #[.string a0] w fun e w' => e = .returned (.tuple #[.agg #[.string r1, .string r2, .string r3], .int .i64 r4]) ∧ Below w.heap.size w w' := by
 have hu23 := Tryz.underlying23
 have HB := Aside0.mk (Below.refl w.heap.size w)
 have H : ((lodestarref04_find.f k a0 (⟨#[13, 10, 13, 10]⟩ : ByteArray) 0).bind fun t228 => (if t228 < 0 then (if (a0.size : Int) > 4096 then (some ((⟨#[]⟩ : ByteArray), (⟨#[]⟩ : ByteArray), (⟨#[]⟩ : ByteArray), 41)) else (some ((⟨#[]⟩ : ByteArray), (⟨#[]⟩ : ByteArray), (⟨#[]⟩ : ByteArray), 40))) else (if (wrap64 (t228 + 4)) > 4096 then (some ((⟨#[]⟩ : ByteArray), (⟨#[]⟩ : ByteArray), (⟨#[]⟩ : ByteArray), 41)) else ((lodestarref04_find.f k a0 (⟨#[13, 10]⟩ : ByteArray) 0).bind fun t229 => (if 0 ≤ t229 then (if t229 ≤ (a0.size : Int) then ((lodestarref04_first.f k (a0.extract 0 (t229 : Int).toNat)).bind fun bt230 => (if bt230.2.2.2 = true then (lodestarref04_Parse.l0 k a0 t228 t229 0 false bt230.1 bt230.2.1 bt230.2.2.1) else (some ((⟨#[]⟩ : ByteArray), (⟨#[]⟩ : ByteArray), (⟨#[]⟩ : ByteArray), 40)))) else (none)) else (none)))))) = some (r1, r2, r3, r4) := h
 clear h
 replace H := Option.bind_eq_some_iff.mp H
 obtain ⟨t228, A20, H⟩ := H
 replace H : (if t228 < 0 then (if (a0.size : Int) > 4096 then (some ((⟨#[]⟩ : ByteArray), (⟨#[]⟩ : ByteArray), (⟨#[]⟩ : ByteArray), 41)) else (some ((⟨#[]⟩ : ByteArray), (⟨#[]⟩ : ByteArray), (⟨#[]⟩ : ByteArray), 40))) else (if (wrap64 (t228 + 4)) > 4096 then (some ((⟨#[]⟩ : ByteArray), (⟨#[]⟩ : ByteArray), (⟨#[]⟩ : ByteArray), 41)) else ((lodestarref04_find.f k a0 (⟨#[13, 10]⟩ : ByteArray) 0).bind fun t229 => (if 0 ≤ t229 then (if t229 ≤ (a0.size : Int) then ((lodestarref04_first.f k (a0.extract 0 (t229 : Int).toNat)).bind fun bt230 => (if bt230.2.2.2 = true then (lodestarref04_Parse.l0 k a0 t228 t229 0 false bt230.1 bt230.2.1 bt230.2.2.1) else (some ((⟨#[]⟩ : ByteArray), (⟨#[]⟩ : ByteArray), (⟨#[]⟩ : ByteArray), 40)))) else (none)) else (none))))) = some (r1, r2, r3, r4) := H
 have A2 := Aside0.mk A20
 clear A20
 by_cases c3 : t228 < 0
 ·rw [if_pos c3] at H
  have c3b0 : decide (t228 < 0) = true := decide_eq_true c3
  clear c3
  by_cases c4 : (a0.size : Int) > 4096
  ·rw [if_pos c4] at H
   have c4b0 : decide (4096 < (a0.size : Int)) = true := decide_eq_true c4
   have c4b1 : decide (4096 < a0.size) = true := decide_eq_true (by omega)
   clear c4
   simp only [Option.some.injEq, Prod.mk.injEq] at H
   obtain ⟨rfl, rfl, rfl, rfl⟩ := H
   go_enter Tryz.func7, Tryz.ntmps7
   go_wp2_with (first | ((with_reducible refine gate_dst (N := 2) rfl ?_); refine box_event ?hg (N := 2) ?hd (cs := #[.string (⟨#[]⟩ : ByteArray), .string (⟨#[]⟩ : ByteArray), .string (⟨#[]⟩ : ByteArray)]) (t := 23) ?hr ?_; (case hd => rfl); (case hg => rfl); (case hr => first | (go_simp; done) | (go_simp; rfl)); intro gb227 hg w5 hbox hb; have BK227 := Aside0.mk (hbox); have GW227 := Aside0.mk (gs (w := w) hg (bl HB.out)); have GE227 := Aside0.mk (gs (w := w) hg (bl HB.out)); replace HB := Aside0.mk (below_step (bl HB.out) hb); clear hb hbox hg) | ((with_reducible refine gate_callee (f := 20) rfl ?_); refine goesL_ (some 14) rfl rfl Tryz.func20 kr rfl #[.string a0, .string (⟨#[13, 10, 13, 10]⟩ : ByteArray), .int .i64 0] rfl ga ?_; (with_reducible refine (lodestarref04_find.calls k a0 (⟨#[13, 10, 13, 10]⟩ : ByteArray) 0 t228 _ A2.out).mono ?_); rintro e w' ⟨rfl, ⟨nd, rfl⟩⟩; refine ⟨_, rfl, ?_⟩; (try (rw [drewN_self w5]; generalize hq_ : World.drewN w5 _ = w5; have n0_ : Aside0 (w5.heap[gb227]? = some (.cells #[.string (⟨#[]⟩ : ByteArray), .string (⟨#[]⟩ : ByteArray), .string (⟨#[]⟩ : ByteArray)] 23 (0, 0))) := ⟨by rw [← hq_]; exact (pk BK227.out)⟩; have n1_ : Aside0 (Below w.heap.size w w5) := ⟨by rw [← hq_]; exact (bl HB.out)⟩; clear BK227 HB hq_; have BK227 := n0_; have HB := n1_; clear n0_ n1_)); obtain ⟨hcz6_0, hcz6_1, hcz6_2, hfz6_0, hfz6_1, hfz6_2⟩ := cz3 BK227.out))
   refine bodyPost_ret (results_ct rfl _ _ gb227 23 #[.string (⟨#[]⟩ : ByteArray), .string (⟨#[]⟩ : ByteArray), .string (⟨#[]⟩ : ByteArray)] (0, 0) _ rfl (by refine pk ?_; refine blk_put (cs := #[.string (⟨#[]⟩ : ByteArray), .string (⟨#[]⟩ : ByteArray), .string (⟨#[]⟩ : ByteArray)]) ?_ 2 _ rfl; refine pk ?_; refine blk_put (cs := #[.string (⟨#[]⟩ : ByteArray), .string (⟨#[]⟩ : ByteArray), .string (⟨#[]⟩ : ByteArray)]) ?_ 1 _ rfl; refine pk ?_; refine blk_put (cs := #[.string (⟨#[]⟩ : ByteArray), .string (⟨#[]⟩ : ByteArray), .string (⟨#[]⟩ : ByteArray)]) ?_ 0 _ rfl; exact pk BK227.out) Tryz.underlying23 rfl kr) rfl ?_
   exact ⟨er0, bl HB.out⟩
  ·rw [if_neg c4] at H
   have c4b0 : decide (4096 < (a0.size : Int)) = false := decide_eq_false c4
   have c4b1 : decide (4096 < a0.size) = false := decide_eq_false (by omega)
   clear c4
   simp only [Option.some.injEq, Prod.mk.injEq] at H
   obtain ⟨rfl, rfl, rfl, rfl⟩ := H
   go_enter Tryz.func7, Tryz.ntmps7
   go_wp2_with (first | ((with_reducible refine gate_dst (N := 2) rfl ?_); refine box_event ?hg (N := 2) ?hd (cs := #[.string (⟨#[]⟩ : ByteArray), .string (⟨#[]⟩ : ByteArray), .string (⟨#[]⟩ : ByteArray)]) (t := 23) ?hr ?_; (case hd => rfl); (case hg => rfl); (case hr => first | (go_simp; done) | (go_simp; rfl)); intro gb227 hg w7 hbox hb; have BK227 := Aside0.mk (hbox); have GW227 := Aside0.mk (gs (w := w) hg (bl HB.out)); have GE227 := Aside0.mk (gs (w := w) hg (bl HB.out)); replace HB := Aside0.mk (below_step (bl HB.out) hb); clear hb hbox hg) | ((with_reducible refine gate_callee (f := 20) rfl ?_); refine goesL_ (some 14) rfl rfl Tryz.func20 kr rfl #[.string a0, .string (⟨#[13, 10, 13, 10]⟩ : ByteArray), .int .i64 0] rfl ga ?_; (with_reducible refine (lodestarref04_find.calls k a0 (⟨#[13, 10, 13, 10]⟩ : ByteArray) 0 t228 _ A2.out).mono ?_); rintro e w' ⟨rfl, ⟨nd, rfl⟩⟩; refine ⟨_, rfl, ?_⟩; (try (rw [drewN_self w7]; generalize hq_ : World.drewN w7 _ = w7; have n0_ : Aside0 (w7.heap[gb227]? = some (.cells #[.string (⟨#[]⟩ : ByteArray), .string (⟨#[]⟩ : ByteArray), .string (⟨#[]⟩ : ByteArray)] 23 (0, 0))) := ⟨by rw [← hq_]; exact (pk BK227.out)⟩; have n1_ : Aside0 (Below w.heap.size w w7) := ⟨by rw [← hq_]; exact (bl HB.out)⟩; clear BK227 HB hq_; have BK227 := n0_; have HB := n1_; clear n0_ n1_)); obtain ⟨hcz8_0, hcz8_1, hcz8_2, hfz8_0, hfz8_1, hfz8_2⟩ := cz3 BK227.out))
   refine bodyPost_ret (results_ct rfl _ _ gb227 23 #[.string (⟨#[]⟩ : ByteArray), .string (⟨#[]⟩ : ByteArray), .string (⟨#[]⟩ : ByteArray)] (0, 0) _ rfl (by refine pk ?_; refine blk_put (cs := #[.string (⟨#[]⟩ : ByteArray), .string (⟨#[]⟩ : ByteArray), .string (⟨#[]⟩ : ByteArray)]) ?_ 2 _ rfl; refine pk ?_; refine blk_put (cs := #[.string (⟨#[]⟩ : ByteArray), .string (⟨#[]⟩ : ByteArray), .string (⟨#[]⟩ : ByteArray)]) ?_ 1 _ rfl; refine pk ?_; refine blk_put (cs := #[.string (⟨#[]⟩ : ByteArray), .string (⟨#[]⟩ : ByteArray), .string (⟨#[]⟩ : ByteArray)]) ?_ 0 _ rfl; exact pk BK227.out) Tryz.underlying23 rfl kr) rfl ?_
   exact ⟨er0, bl HB.out⟩
 ·rw [if_neg c3] at H
  have c3b0 : decide (t228 < 0) = false := decide_eq_false c3
  clear c3
  by_cases c9 : (wrap64 (t228 + 4)) > 4096
  ·rw [if_pos c9] at H
   have c9b0 : decide (4096 < (wrap64 (t228 + 4))) = true := decide_eq_true c9
   clear c9
   simp only [Option.some.injEq, Prod.mk.injEq] at H
   obtain ⟨rfl, rfl, rfl, rfl⟩ := H
   go_enter Tryz.func7, Tryz.ntmps7
   go_wp2_with (first | ((with_reducible refine gate_dst (N := 2) rfl ?_); refine box_event ?hg (N := 2) ?hd (cs := #[.string (⟨#[]⟩ : ByteArray), .string (⟨#[]⟩ : ByteArray), .string (⟨#[]⟩ : ByteArray)]) (t := 23) ?hr ?_; (case hd => rfl); (case hg => rfl); (case hr => first | (go_simp; done) | (go_simp; rfl)); intro gb227 hg w10 hbox hb; have BK227 := Aside0.mk (hbox); have GW227 := Aside0.mk (gs (w := w) hg (bl HB.out)); have GE227 := Aside0.mk (gs (w := w) hg (bl HB.out)); replace HB := Aside0.mk (below_step (bl HB.out) hb); clear hb hbox hg) | ((with_reducible refine gate_callee (f := 20) rfl ?_); refine goesL_ (some 14) rfl rfl Tryz.func20 kr rfl #[.string a0, .string (⟨#[13, 10, 13, 10]⟩ : ByteArray), .int .i64 0] rfl ga ?_; (with_reducible refine (lodestarref04_find.calls k a0 (⟨#[13, 10, 13, 10]⟩ : ByteArray) 0 t228 _ A2.out).mono ?_); rintro e w' ⟨rfl, ⟨nd, rfl⟩⟩; refine ⟨_, rfl, ?_⟩; (try (rw [drewN_self w10]; generalize hq_ : World.drewN w10 _ = w10; have n0_ : Aside0 (w10.heap[gb227]? = some (.cells #[.string (⟨#[]⟩ : ByteArray), .string (⟨#[]⟩ : ByteArray), .string (⟨#[]⟩ : ByteArray)] 23 (0, 0))) := ⟨by rw [← hq_]; exact (pk BK227.out)⟩; have n1_ : Aside0 (Below w.heap.size w w10) := ⟨by rw [← hq_]; exact (bl HB.out)⟩; clear BK227 HB hq_; have BK227 := n0_; have HB := n1_; clear n0_ n1_)); obtain ⟨hcz11_0, hcz11_1, hcz11_2, hfz11_0, hfz11_1, hfz11_2⟩ := cz3 BK227.out))
   refine bodyPost_ret (results_ct rfl _ _ gb227 23 #[.string (⟨#[]⟩ : ByteArray), .string (⟨#[]⟩ : ByteArray), .string (⟨#[]⟩ : ByteArray)] (0, 0) _ rfl (by refine pk ?_; refine blk_put (cs := #[.string (⟨#[]⟩ : ByteArray), .string (⟨#[]⟩ : ByteArray), .string (⟨#[]⟩ : ByteArray)]) ?_ 2 _ rfl; refine pk ?_; refine blk_put (cs := #[.string (⟨#[]⟩ : ByteArray), .string (⟨#[]⟩ : ByteArray), .string (⟨#[]⟩ : ByteArray)]) ?_ 1 _ rfl; refine pk ?_; refine blk_put (cs := #[.string (⟨#[]⟩ : ByteArray), .string (⟨#[]⟩ : ByteArray), .string (⟨#[]⟩ : ByteArray)]) ?_ 0 _ rfl; exact pk BK227.out) Tryz.underlying23 rfl kr) rfl ?_
   exact ⟨er0, bl HB.out⟩
  ·rw [if_neg c9] at H
   have c9b0 : decide (4096 < (wrap64 (t228 + 4))) = false := decide_eq_false c9
   clear c9
   replace H := Option.bind_eq_some_iff.mp H
   obtain ⟨t229, A120, H⟩ := H
   replace H : (if 0 ≤ t229 then (if t229 ≤ (a0.size : Int) then ((lodestarref04_first.f k (a0.extract 0 (t229 : Int).toNat)).bind fun bt230 => (if bt230.2.2.2 = true then (lodestarref04_Parse.l0 k a0 t228 t229 0 false bt230.1 bt230.2.1 bt230.2.2.1) else (some ((⟨#[]⟩ : ByteArray), (⟨#[]⟩ : ByteArray), (⟨#[]⟩ : ByteArray), 40)))) else (none)) else (none)) = some (r1, r2, r3, r4) := H
   have A12 := Aside0.mk A120
   clear A120
   by_cases c13 : 0 ≤ t229
   ·rw [if_pos c13] at H
    have c13b0 := eq_true c13
    have c13b1 : decide (0 ≤ t229) = true := decide_eq_true c13
    clear c13
    by_cases c14 : t229 ≤ (a0.size : Int)
    ·rw [if_pos c14] at H
     have c14b0 := eq_true c14
     have c14b1 : decide (t229 ≤ (a0.size : Int)) = true := decide_eq_true c14
     clear c14
     replace H := Option.bind_eq_some_iff.mp H
     obtain ⟨⟨t230, t231, t232, t233⟩, A150, H⟩ := H
     replace H : (if t233 = true then (lodestarref04_Parse.l0 k a0 t228 t229 0 false t230 t231 t232) else (some ((⟨#[]⟩ : ByteArray), (⟨#[]⟩ : ByteArray), (⟨#[]⟩ : ByteArray), 40))) = some (r1, r2, r3, r4) := H
     have A15 := Aside0.mk A150
     clear A150
     by_cases c16 : t233 = true
     ·subst c16
      have H1 : (lodestarref04_Parse.l0 k a0 t228 t229 0 false t230 t231 t232) = some (r1, r2, r3, r4) := by rw [if_pos rfl] at H; exact H
      clear H
      have H := H1
      clear H1
      have H' := Aside0.mk H
      clear H
      go_enter Tryz.func7, Tryz.ntmps7
      go_wp2_with (first | ((with_reducible refine gate_dst (N := 2) rfl ?_); refine box_event ?hg (N := 2) ?hd (cs := #[.string (⟨#[]⟩ : ByteArray), .string (⟨#[]⟩ : ByteArray), .string (⟨#[]⟩ : ByteArray)]) (t := 23) ?hr ?_; (case hd => rfl); (case hg => rfl); (case hr => first | (go_simp; done) | (go_simp; rfl)); intro gb227 hg w17 hbox hb; have BK227 := Aside0.mk (hbox); have GW227 := Aside0.mk (gs (w := w) hg (bl HB.out)); have GE227 := Aside0.mk (gs (w := w) hg (bl HB.out)); replace HB := Aside0.mk (below_step (bl HB.out) hb); clear hb hbox hg) | ((with_reducible refine gate_callee (f := 20) rfl ?_); refine goesL_ (some 14) rfl rfl Tryz.func20 kr rfl #[.string a0, .string (⟨#[13, 10, 13, 10]⟩ : ByteArray), .int .i64 0] rfl ga ?_; (with_reducible refine (lodestarref04_find.calls k a0 (⟨#[13, 10, 13, 10]⟩ : ByteArray) 0 t228 _ A2.out).mono ?_); rintro e w' ⟨rfl, ⟨nd, rfl⟩⟩; refine ⟨_, rfl, ?_⟩; (try (rw [drewN_self w17]; generalize hq_ : World.drewN w17 _ = w17; have n0_ : Aside0 (w17.heap[gb227]? = some (.cells #[.string (⟨#[]⟩ : ByteArray), .string (⟨#[]⟩ : ByteArray), .string (⟨#[]⟩ : ByteArray)] 23 (0, 0))) := ⟨by rw [← hq_]; exact (pk BK227.out)⟩; have n1_ : Aside0 (Below w.heap.size w w17) := ⟨by rw [← hq_]; exact (bl HB.out)⟩; clear BK227 HB hq_; have BK227 := n0_; have HB := n1_; clear n0_ n1_))) | ((with_reducible refine gate_callee (f := 20) rfl ?_); refine goesL_ (some 27) rfl rfl Tryz.func20 kr rfl #[.string a0, .string (⟨#[13, 10]⟩ : ByteArray), .int .i64 0] rfl ga ?_; (with_reducible refine (lodestarref04_find.calls k a0 (⟨#[13, 10]⟩ : ByteArray) 0 t229 _ A12.out).mono ?_); rintro e w' ⟨rfl, ⟨nd, rfl⟩⟩; refine ⟨_, rfl, ?_⟩; (try (rw [drewN_self w17]; generalize hq_ : World.drewN w17 _ = w17; have n0_ : Aside0 (w17.heap[gb227]? = some (.cells #[.string (⟨#[]⟩ : ByteArray), .string (⟨#[]⟩ : ByteArray), .string (⟨#[]⟩ : ByteArray)] 23 (0, 0))) := ⟨by rw [← hq_]; exact (pk BK227.out)⟩; have n1_ : Aside0 (Below w.heap.size w w17) := ⟨by rw [← hq_]; exact (bl HB.out)⟩; clear BK227 HB hq_; have BK227 := n0_; have HB := n1_; clear n0_ n1_))) | ((with_reducible refine gate_callee (f := 21) rfl ?_); refine goesL_ (some 32) rfl rfl Tryz.func21 kr rfl #[.string (a0.extract 0 (t229 : Int).toNat)] rfl ga ?_; (with_reducible refine (lodestarref04_first.calls k (a0.extract 0 (t229 : Int).toNat) t230 t231 t232 true _ A15.out).mono ?_); rintro e w18 ⟨rfl, hb⟩; refine ⟨_, rfl, ?_⟩; replace BK227 := Aside0.mk (blk_below (pk BK227.out) hb); replace HB := Aside0.mk (below_step (bl HB.out) hb); (try clear hb); (try clear hb2); (try clear hk); (try clear hi)) | ((with_reducible refine gate_dst (N := 6) rfl ?_); refine box_event ?hg (N := 6) ?hd (cs := #[.string (⟨#[]⟩ : ByteArray), .string (⟨#[]⟩ : ByteArray), .string (⟨#[]⟩ : ByteArray)]) (t := 23) ?hr ?_; (case hd => rfl); (case hg => rfl); (case hr => first | (go_simp; done) | (go_simp; rfl)); intro gb234 hg w19 hbox hb; have BK234 := Aside0.mk (hbox); have GW234 := Aside0.mk (gs (w := w) hg (bl HB.out)); have GE234 := Aside0.mk (gs (w := w) hg (bl HB.out)); replace HB := Aside0.mk (below_step (bl HB.out) hb); have NB227_234 := Aside0.mk ((gl (g := gb227) hg (pk BK227.out))); have NB234_227 := Aside0.mk ((gm (g := gb227) hg (pk BK227.out))); replace BK227 := Aside0.mk (blk_below (pk BK227.out) hb); clear hb hbox hg; have hnb20 := NB234_227.out; have hnc20 := NB227_234.out; obtain ⟨hcz21_0, hcz21_1, hcz21_2, hfz21_0, hfz21_1, hfz21_2⟩ := cz3 BK234.out))
      go_loopg [5, 8, 9] k (fun kq v5 v8 v9 w' => ∃ (x5_1 : Int) (x8_1 : Int) (x9_1 : Bool) (x228000_1 : ByteArray) (x228001_1 : ByteArray) (x228002_1 : ByteArray), v5 = .int .i64 x5_1 ∧ v8 = .int .i64 x8_1 ∧ v9 = .bool x9_1 ∧ Aside0 (lodestarref04_Parse.l0 kq a0 t228 x5_1 x8_1 x9_1 t230 t231 t232 = some (r1, r2, r3, r4)) ∧ Aside0 (kq ≤ k) ∧ Aside0 (w'.heap[gb227]? = some (.cells #[.string x228000_1, .string x228001_1, .string x228002_1] 23 (0, 0))) ∧ Aside0 (w'.heap[gb234]? = some (.cells #[.string t230, .string t231, .string t232] 23 (0, 0))) ∧ Aside0 (Below w.heap.size w w'))
      case atStart => exact ⟨(t229), (0), (false), ((⟨#[]⟩ : ByteArray)), ((⟨#[]⟩ : ByteArray)), ((⟨#[]⟩ : ByteArray)), hsr, hsr, hsr, H', ⟨Nat.le_refl _⟩, ⟨by refine pk ?_; refine blk_far ?_ NB227_234.out _; refine pk ?_; refine blk_far ?_ NB227_234.out _; refine pk ?_; refine blk_far ?_ NB227_234.out _; exact pk BK227.out⟩, ⟨by refine pk ?_; refine blk_put (cs := #[.string t230, .string t231, .string (⟨#[]⟩ : ByteArray)]) ?_ 2 _ rfl; refine pk ?_; refine blk_put (cs := #[.string t230, .string (⟨#[]⟩ : ByteArray), .string (⟨#[]⟩ : ByteArray)]) ?_ 1 _ rfl; refine pk ?_; refine blk_put (cs := #[.string (⟨#[]⟩ : ByteArray), .string (⟨#[]⟩ : ByteArray), .string (⟨#[]⟩ : ByteArray)]) ?_ 0 _ rfl; exact pk BK234.out⟩, ⟨bl HB.out⟩⟩
      case round =>
       clear H'
       try clear c1
       try clear c2
       try clear p2
       try clear c3
       try clear c3b0
       try clear c4
       try clear c4b0
       try clear c4b1
       try clear p6
       try clear c7
       try clear c9
       try clear c9b0
       try clear c13
       try clear c13b0
       try clear c13b1
       try clear c14
       try clear c14b0
       try clear c14b1
       try clear c16
       try clear c20
       try clear c21
       try clear hcz21_0 hcz21_1 hcz21_2 hfz21_0 hfz21_1 hfz21_2
       try clear hcz11_0 hcz11_1 hcz11_2 hfz11_0 hfz11_1 hfz11_2
       try clear hcz8_0 hcz8_1 hcz8_2 hfz8_0 hfz8_1 hfz8_2
       try clear hcz6_0 hcz6_1 hcz6_2 hfz6_0 hfz6_1 hfz6_2
       obtain ⟨x5_1, x8_1, x9_1, x228000_1, x228001_1, x228002_1, rfl, rfl, rfl, HA, HK1, BK227, BK234, HB⟩ := hrel
       cases gk with
       | zero => exact absurd HA.out (by simp [lodestarref04_Parse.l0])
       | succ k1 =>
        have H := HA.out
        clear HA
        simp only [lodestarref04_Parse.l0] at H
        by_cases c22 : x5_1 < t228
        ·rw [if_pos c22] at H
         have c22b0 : decide (x5_1 < t228) = true := decide_eq_true c22
         clear c22
         replace H := Option.bind_eq_some_iff.mp H
         obtain ⟨t235, A230, H⟩ := H
         replace H : (if 0 ≤ (wrap64 (x5_1 + 2)) then (if (wrap64 (x5_1 + 2)) ≤ t235 then (if t235 ≤ (a0.size : Int) then ((lodestarref04_line.f k1 (a0.extract ((wrap64 (x5_1 + 2)) : Int).toNat (t235 : Int).toNat) x9_1).bind fun bt236 => (if bt236.2 = 0 then (if bt236.1 ≥ 0 then (lodestarref04_Parse.l0 k1 a0 t228 t235 bt236.1 true t230 t231 t232) else (lodestarref04_Parse.l0 k1 a0 t228 t235 x8_1 x9_1 t230 t231 t232)) else (some ((⟨#[]⟩ : ByteArray), (⟨#[]⟩ : ByteArray), (⟨#[]⟩ : ByteArray), bt236.2)))) else (none)) else (none)) else (none)) = some (r1, r2, r3, r4) := H
         have A23 := Aside0.mk A230
         clear A230
         obtain ⟨ji24, hji24⟩ : ∃ j_ : Int, (wrap64 (x5_1 + 2)) = j_ := ⟨_, rfl⟩
         replace H : (if 0 ≤ (ji24) then (if (ji24) ≤ t235 then (if t235 ≤ (a0.size : Int) then ((lodestarref04_line.f k1 (a0.extract ((ji24) : Int).toNat (t235 : Int).toNat) x9_1).bind fun bt236 => (if bt236.2 = 0 then (if bt236.1 ≥ 0 then (lodestarref04_Parse.l0 k1 a0 t228 t235 bt236.1 true t230 t231 t232) else (lodestarref04_Parse.l0 k1 a0 t228 t235 x8_1 x9_1 t230 t231 t232)) else (some ((⟨#[]⟩ : ByteArray), (⟨#[]⟩ : ByteArray), (⟨#[]⟩ : ByteArray), bt236.2)))) else (none)) else (none)) else (none)) = some (r1, r2, r3, r4) := by first | (rw [hji24] at H; exact H) | (simp only [hji24] at H ⊢; exact H)
         (try rw [hji24] at A23)
         have hji24w : (IntKind.i64.wrap (x5_1 + 2)) = ji24 := (i64_w _).trans hji24
         by_cases c25 : 0 ≤ (ji24)
         ·rw [if_pos c25] at H
          have c25b0 := eq_true c25
          have c25b1 : decide (0 ≤ (ji24)) = true := decide_eq_true c25
          clear c25
          by_cases c26 : (ji24) ≤ t235
          ·rw [if_pos c26] at H
           have c26b0 := eq_true c26
           have c26b1 : decide ((ji24) ≤ t235) = true := decide_eq_true c26
           clear c26
           by_cases c27 : t235 ≤ (a0.size : Int)
           ·rw [if_pos c27] at H
            have c27b0 := eq_true c27
            have c27b1 : decide (t235 ≤ (a0.size : Int)) = true := decide_eq_true c27
            clear c27
            replace H := Option.bind_eq_some_iff.mp H
            obtain ⟨⟨t236, t237⟩, A280, H⟩ := H
            replace H : (if t237 = 0 then (if t236 ≥ 0 then (lodestarref04_Parse.l0 k1 a0 t228 t235 t236 true t230 t231 t232) else (lodestarref04_Parse.l0 k1 a0 t228 t235 x8_1 x9_1 t230 t231 t232)) else (some ((⟨#[]⟩ : ByteArray), (⟨#[]⟩ : ByteArray), (⟨#[]⟩ : ByteArray), t237))) = some (r1, r2, r3, r4) := H
            have A28 := Aside0.mk A280
            clear A280
            by_cases c29 : t237 = 0
            ·rw [if_pos c29] at H
             have c29b0 : (t237 == 0) = true := beq_iff_eq.mpr c29
             have c29b1 : (t237 != 0) = false := bne_eq_false_iff_eq.mpr c29
             clear c29
             by_cases c30 : t236 ≥ 0
             ·rw [if_pos c30] at H
              have c30b0 : decide (0 ≤ t236) = true := decide_eq_true c30
              clear c30
              have H' := Aside0.mk H
              clear H
              go_wp2_with (first | ((with_reducible refine gate_callee (f := 20) rfl ?_); refine goesL_ (some 44) rfl rfl Tryz.func20 kr rfl #[.string a0, .string (⟨#[13, 10]⟩ : ByteArray), .int .i64 ji24] rfl (by (try simp only [List.map_toArray, List.map_cons, List.map_nil]); first | done | (simp only [hji24]; rfl) | rfl | (simp only [List.length_drop, List.length_take]; rfl) | (go_simp; done) | (go_simp; rfl) | (go_simp; simp only [IntKind.wrap_u64]; omega) | (go_simp; simp only [IntKind.wrap_u32]; omega) | (go_simp; simp only [IntKind.wrap_u8]; omega) | (go_simp; unfold wrap64; omega)) ?_; (with_reducible refine (lodestarref04_find.calls k1 a0 (⟨#[13, 10]⟩ : ByteArray) ji24 t235 _ A23.out).mono ?_); rintro e w' ⟨rfl, ⟨nd, rfl⟩⟩; refine ⟨_, rfl, ?_⟩) | ((with_reducible refine gate_callee (f := 22) rfl ?_); refine goesL_ (some 52) rfl rfl Tryz.func22 kr rfl #[.string (a0.extract ((ji24) : Int).toNat (t235 : Int).toNat), .bool x9_1] rfl (by (try simp only [List.map_toArray, List.map_cons, List.map_nil]); first | done | (simp only [hji24]; rfl) | rfl | (simp only [List.length_drop, List.length_take]; rfl) | (go_simp; done) | (go_simp; rfl) | (go_simp; simp only [IntKind.wrap_u64]; omega) | (go_simp; simp only [IntKind.wrap_u32]; omega) | (go_simp; simp only [IntKind.wrap_u8]; omega) | (go_simp; unfold wrap64; omega)) ?_; (with_reducible refine (lodestarref04_line.calls k1 (a0.extract ((ji24) : Int).toNat (t235 : Int).toNat) x9_1 t236 t237 _ A28.out).mono ?_); rintro e w31 ⟨rfl, hb⟩; refine ⟨_, rfl, ?_⟩; replace BK227 := Aside0.mk (blk_below (pk BK227.out) hb); replace BK234 := Aside0.mk (blk_below (pk BK234.out) hb); replace HB := Aside0.mk (below_step (bl HB.out) hb); (try clear hb); (try clear hb2); (try clear hk); (try clear hi)))
              go_roundg k1
              case measure => have := HK1.out; omega
              case rel => exact ⟨(t235), (t236), (true), (x228000_1), (x228001_1), (x228002_1), hsr, hsr, hsr, H', ⟨by have := HK1.out; omega⟩, ⟨pk BK227.out⟩, ⟨pk BK234.out⟩, ⟨bl HB.out⟩⟩
             ·rw [if_neg c30] at H
              have c30b0 : decide (0 ≤ t236) = false := decide_eq_false c30
              clear c30
              have H' := Aside0.mk H
              clear H
              go_wp2_with (first | ((with_reducible refine gate_callee (f := 20) rfl ?_); refine goesL_ (some 44) rfl rfl Tryz.func20 kr rfl #[.string a0, .string (⟨#[13, 10]⟩ : ByteArray), .int .i64 ji24] rfl (by (try simp only [List.map_toArray, List.map_cons, List.map_nil]); first | done | (simp only [hji24]; rfl) | rfl | (simp only [List.length_drop, List.length_take]; rfl) | (go_simp; done) | (go_simp; rfl) | (go_simp; simp only [IntKind.wrap_u64]; omega) | (go_simp; simp only [IntKind.wrap_u32]; omega) | (go_simp; simp only [IntKind.wrap_u8]; omega) | (go_simp; unfold wrap64; omega)) ?_; (with_reducible refine (lodestarref04_find.calls k1 a0 (⟨#[13, 10]⟩ : ByteArray) ji24 t235 _ A23.out).mono ?_); rintro e w' ⟨rfl, ⟨nd, rfl⟩⟩; refine ⟨_, rfl, ?_⟩) | ((with_reducible refine gate_callee (f := 22) rfl ?_); refine goesL_ (some 52) rfl rfl Tryz.func22 kr rfl #[.string (a0.extract ((ji24) : Int).toNat (t235 : Int).toNat), .bool x9_1] rfl (by (try simp only [List.map_toArray, List.map_cons, List.map_nil]); first | done | (simp only [hji24]; rfl) | rfl | (simp only [List.length_drop, List.length_take]; rfl) | (go_simp; done) | (go_simp; rfl) | (go_simp; simp only [IntKind.wrap_u64]; omega) | (go_simp; simp only [IntKind.wrap_u32]; omega) | (go_simp; simp only [IntKind.wrap_u8]; omega) | (go_simp; unfold wrap64; omega)) ?_; (with_reducible refine (lodestarref04_line.calls k1 (a0.extract ((ji24) : Int).toNat (t235 : Int).toNat) x9_1 t236 t237 _ A28.out).mono ?_); rintro e w32 ⟨rfl, hb⟩; refine ⟨_, rfl, ?_⟩; replace BK227 := Aside0.mk (blk_below (pk BK227.out) hb); replace BK234 := Aside0.mk (blk_below (pk BK234.out) hb); replace HB := Aside0.mk (below_step (bl HB.out) hb); (try clear hb); (try clear hb2); (try clear hk); (try clear hi)))
              go_roundg k1
              case measure => have := HK1.out; omega
              case rel => exact ⟨(t235), (x8_1), (x9_1), (x228000_1), (x228001_1), (x228002_1), hsr, hsr, hsr, H', ⟨by have := HK1.out; omega⟩, ⟨pk BK227.out⟩, ⟨pk BK234.out⟩, ⟨bl HB.out⟩⟩
            ·rw [if_neg c29] at H
             have c29b0 : (t237 == 0) = false := beq_eq_false_iff_ne.mpr c29
             have c29b1 : (t237 != 0) = true := bne_iff_ne.mpr c29
             simp only [Option.some.injEq, Prod.mk.injEq] at H
             obtain ⟨rfl, rfl, rfl, rfl⟩ := H
             go_wp2_with (first | ((with_reducible refine gate_callee (f := 20) rfl ?_); refine goesL_ (some 44) rfl rfl Tryz.func20 kr rfl #[.string a0, .string (⟨#[13, 10]⟩ : ByteArray), .int .i64 ji24] rfl (by (try simp only [List.map_toArray, List.map_cons, List.map_nil]); first | done | (simp only [hji24]; rfl) | rfl | (simp only [List.length_drop, List.length_take]; rfl) | (go_simp; done) | (go_simp; rfl) | (go_simp; simp only [IntKind.wrap_u64]; omega) | (go_simp; simp only [IntKind.wrap_u32]; omega) | (go_simp; simp only [IntKind.wrap_u8]; omega) | (go_simp; unfold wrap64; omega)) ?_; (with_reducible refine (lodestarref04_find.calls k1 a0 (⟨#[13, 10]⟩ : ByteArray) ji24 t235 _ A23.out).mono ?_); rintro e w' ⟨rfl, ⟨nd, rfl⟩⟩; refine ⟨_, rfl, ?_⟩; (try (rw [drewN_self wr]; generalize hq_ : World.drewN wr _ = wr; have n0_ : Aside0 (wr.heap[gb227]? = some (.cells #[.string x228000_1, .string x228001_1, .string x228002_1] 23 (0, 0))) := ⟨by rw [← hq_]; exact (pk BK227.out)⟩; have n1_ : Aside0 (wr.heap[gb234]? = some (.cells #[.string t230, .string t231, .string t232] 23 (0, 0))) := ⟨by rw [← hq_]; exact (pk BK234.out)⟩; have n2_ : Aside0 (Below w.heap.size w wr) := ⟨by rw [← hq_]; exact (bl HB.out)⟩; clear BK227 BK234 HB hq_; have BK227 := n0_; have BK234 := n1_; have HB := n2_; clear n0_ n1_ n2_))) | ((with_reducible refine gate_callee (f := 22) rfl ?_); refine goesL_ (some 52) rfl rfl Tryz.func22 kr rfl #[.string (a0.extract ((ji24) : Int).toNat (t235 : Int).toNat), .bool x9_1] rfl (by (try simp only [List.map_toArray, List.map_cons, List.map_nil]); first | done | (simp only [hji24]; rfl) | rfl | (simp only [List.length_drop, List.length_take]; rfl) | (go_simp; done) | (go_simp; rfl) | (go_simp; simp only [IntKind.wrap_u64]; omega) | (go_simp; simp only [IntKind.wrap_u32]; omega) | (go_simp; simp only [IntKind.wrap_u8]; omega) | (go_simp; unfold wrap64; omega)) ?_; (with_reducible refine (lodestarref04_line.calls k1 (a0.extract ((ji24) : Int).toNat (t235 : Int).toNat) x9_1 t236 t237 _ A28.out).mono ?_); rintro e w33 ⟨rfl, hb⟩; refine ⟨_, rfl, ?_⟩; replace BK227 := Aside0.mk (blk_below (pk BK227.out) hb); replace BK234 := Aside0.mk (blk_below (pk BK234.out) hb); replace HB := Aside0.mk (below_step (bl HB.out) hb); (try clear hb); (try clear hb2); (try clear hk); (try clear hi); have hnb34 := NB227_234.out; have hnc34 := NB234_227.out; obtain ⟨hcz35_0, hcz35_1, hcz35_2, hfz35_0, hfz35_1, hfz35_2⟩ := cz3 BK227.out))
             refine bodyPost_ret (results_ct rfl _ _ gb227 23 #[.string (⟨#[]⟩ : ByteArray), .string (⟨#[]⟩ : ByteArray), .string (⟨#[]⟩ : ByteArray)] (0, 0) _ rfl (by refine pk ?_; refine blk_put (cs := #[.string (⟨#[]⟩ : ByteArray), .string (⟨#[]⟩ : ByteArray), .string x228002_1]) ?_ 2 _ rfl; refine pk ?_; refine blk_put (cs := #[.string (⟨#[]⟩ : ByteArray), .string x228001_1, .string x228002_1]) ?_ 1 _ rfl; refine pk ?_; refine blk_put (cs := #[.string x228000_1, .string x228001_1, .string x228002_1]) ?_ 0 _ rfl; exact pk BK227.out) Tryz.underlying23 rfl kr) rfl ?_
             exact ⟨by first | rfl | (simp [errW_none, errW_some] <;> rfl) | (simp only [← hji24]; first | rfl | (simp [errW_none, errW_some] <;> rfl)) | (simp [*, errW_none, errW_some] <;> rfl), bl HB.out⟩
           ·rw [if_neg c27] at H
            exact absurd H (by simp)
          ·rw [if_neg c26] at H
           exact absurd H (by simp)
         ·rw [if_neg c25] at H
          exact absurd H (by simp)
        ·rw [if_neg c22] at H
         have c22b0 : decide (x5_1 < t228) = false := decide_eq_false c22
         clear c22
         by_cases c36 : (wrap64 ((wrap64 ((a0.size : Int) - t228)) - 4)) = x8_1
         ·rw [if_pos c36] at H
          have c36b0 : ((wrap64 ((wrap64 ((a0.size : Int) - t228)) - 4)) == x8_1) = true := beq_iff_eq.mpr c36
          have c36b1 : ((wrap64 ((wrap64 ((a0.size : Int) - t228)) - 4)) != x8_1) = false := bne_eq_false_iff_eq.mpr c36
          clear c36
          obtain ⟨ji37, hji37⟩ : ∃ j_ : Int, (wrap64 (t228 + 4)) = j_ := ⟨_, rfl⟩
          replace H : (if 0 ≤ (ji37) then (if (ji37) ≤ (a0.size : Int) then (some (t230, t231, a0.extract ((ji37) : Int).toNat a0.size, 0)) else (none)) else (none)) = some (r1, r2, r3, r4) := by first | (rw [hji37] at H; exact H) | (simp only [hji37] at H ⊢; exact H)
          (try rw [hji37] at c9b0)
          have hji37w : (IntKind.i64.wrap (t228 + 4)) = ji37 := (i64_w _).trans hji37
          by_cases c38 : 0 ≤ (ji37)
          ·rw [if_pos c38] at H
           have c38b0 := eq_true c38
           have c38b1 : decide (0 ≤ (ji37)) = true := decide_eq_true c38
           clear c38
           by_cases c39 : (ji37) ≤ (a0.size : Int)
           ·rw [if_pos c39] at H
            have c39b0 := eq_true c39
            have c39b1 : decide ((ji37) ≤ (a0.size : Int)) = true := decide_eq_true c39
            clear c39
            simp only [Option.some.injEq, Prod.mk.injEq] at H
            obtain ⟨rfl, rfl, rfl, rfl⟩ := H
            have hnb40 := NB234_227.out
            have hnc40 := NB227_234.out
            obtain ⟨hcz41_0, hcz41_1, hcz41_2, hfz41_0, hfz41_1, hfz41_2⟩ := cz3 BK234.out
            obtain ⟨hcz42_0, hcz42_1, hcz42_2, hfz42_0, hfz42_1, hfz42_2⟩ := cz3 BK227.out
            go_wp2
            refine bodyPost_ret (results_ct rfl _ _ gb227 23 #[.string t230, .string t231, .string (a0.extract ((ji37) : Int).toNat a0.size)] (0, 0) _ rfl (by refine pk ?_; refine blk_put (cs := #[.string t230, .string t231, .string x228002_1]) ?_ 2 _ rfl; refine pk ?_; refine blk_put (cs := #[.string t230, .string x228001_1, .string x228002_1]) ?_ 1 _ rfl; refine pk ?_; refine blk_put (cs := #[.string x228000_1, .string x228001_1, .string x228002_1]) ?_ 0 _ rfl; refine pk ?_; refine blk_far ?_ NB227_234.out _; exact pk BK227.out) Tryz.underlying23 rfl kr) rfl ?_
            exact ⟨by first | rfl | (simp [errW_none, errW_some] <;> rfl) | (simp only [← hji37]; first | rfl | (simp [errW_none, errW_some] <;> rfl)) | (simp [*, errW_none, errW_some] <;> rfl), bl HB.out⟩
           ·rw [if_neg c39] at H
            exact absurd H (by simp)
          ·rw [if_neg c38] at H
           exact absurd H (by simp)
         ·rw [if_neg c36] at H
          have c36b0 : ((wrap64 ((wrap64 ((a0.size : Int) - t228)) - 4)) == x8_1) = false := beq_eq_false_iff_ne.mpr c36
          have c36b1 : ((wrap64 ((wrap64 ((a0.size : Int) - t228)) - 4)) != x8_1) = true := bne_iff_ne.mpr c36
          simp only [Option.some.injEq, Prod.mk.injEq] at H
          obtain ⟨rfl, rfl, rfl, rfl⟩ := H
          have hnb43 := NB227_234.out
          have hnc43 := NB234_227.out
          obtain ⟨hcz44_0, hcz44_1, hcz44_2, hfz44_0, hfz44_1, hfz44_2⟩ := cz3 BK227.out
          go_wp2
          refine bodyPost_ret (results_ct rfl _ _ gb227 23 #[.string (⟨#[]⟩ : ByteArray), .string (⟨#[]⟩ : ByteArray), .string (⟨#[]⟩ : ByteArray)] (0, 0) _ rfl (by refine pk ?_; refine blk_put (cs := #[.string (⟨#[]⟩ : ByteArray), .string (⟨#[]⟩ : ByteArray), .string x228002_1]) ?_ 2 _ rfl; refine pk ?_; refine blk_put (cs := #[.string (⟨#[]⟩ : ByteArray), .string x228001_1, .string x228002_1]) ?_ 1 _ rfl; refine pk ?_; refine blk_put (cs := #[.string x228000_1, .string x228001_1, .string x228002_1]) ?_ 0 _ rfl; exact pk BK227.out) Tryz.underlying23 rfl kr) rfl ?_
          exact ⟨er0, bl HB.out⟩
     ·replace c16 := Bool.eq_false_iff.mpr c16
      subst c16
      have H1 : (some ((⟨#[]⟩ : ByteArray), (⟨#[]⟩ : ByteArray), (⟨#[]⟩ : ByteArray), 40)) = some (r1, r2, r3, r4) := by rw [if_neg (show ¬ (false = true) by decide)] at H; exact H
      clear H
      have H := H1
      clear H1
      simp only [Option.some.injEq, Prod.mk.injEq] at H
      obtain ⟨rfl, rfl, rfl, rfl⟩ := H
      go_enter Tryz.func7, Tryz.ntmps7
      go_wp2_with (first | ((with_reducible refine gate_dst (N := 2) rfl ?_); refine box_event ?hg (N := 2) ?hd (cs := #[.string (⟨#[]⟩ : ByteArray), .string (⟨#[]⟩ : ByteArray), .string (⟨#[]⟩ : ByteArray)]) (t := 23) ?hr ?_; (case hd => rfl); (case hg => rfl); (case hr => first | (go_simp; done) | (go_simp; rfl)); intro gb227 hg w45 hbox hb; have BK227 := Aside0.mk (hbox); have GW227 := Aside0.mk (gs (w := w) hg (bl HB.out)); have GE227 := Aside0.mk (gs (w := w) hg (bl HB.out)); replace HB := Aside0.mk (below_step (bl HB.out) hb); clear hb hbox hg) | ((with_reducible refine gate_callee (f := 20) rfl ?_); refine goesL_ (some 14) rfl rfl Tryz.func20 kr rfl #[.string a0, .string (⟨#[13, 10, 13, 10]⟩ : ByteArray), .int .i64 0] rfl ga ?_; (with_reducible refine (lodestarref04_find.calls k a0 (⟨#[13, 10, 13, 10]⟩ : ByteArray) 0 t228 _ A2.out).mono ?_); rintro e w' ⟨rfl, ⟨nd, rfl⟩⟩; refine ⟨_, rfl, ?_⟩; (try (rw [drewN_self w45]; generalize hq_ : World.drewN w45 _ = w45; have n0_ : Aside0 (w45.heap[gb227]? = some (.cells #[.string (⟨#[]⟩ : ByteArray), .string (⟨#[]⟩ : ByteArray), .string (⟨#[]⟩ : ByteArray)] 23 (0, 0))) := ⟨by rw [← hq_]; exact (pk BK227.out)⟩; have n1_ : Aside0 (Below w.heap.size w w45) := ⟨by rw [← hq_]; exact (bl HB.out)⟩; clear BK227 HB hq_; have BK227 := n0_; have HB := n1_; clear n0_ n1_))) | ((with_reducible refine gate_callee (f := 20) rfl ?_); refine goesL_ (some 27) rfl rfl Tryz.func20 kr rfl #[.string a0, .string (⟨#[13, 10]⟩ : ByteArray), .int .i64 0] rfl ga ?_; (with_reducible refine (lodestarref04_find.calls k a0 (⟨#[13, 10]⟩ : ByteArray) 0 t229 _ A12.out).mono ?_); rintro e w' ⟨rfl, ⟨nd, rfl⟩⟩; refine ⟨_, rfl, ?_⟩; (try (rw [drewN_self w45]; generalize hq_ : World.drewN w45 _ = w45; have n0_ : Aside0 (w45.heap[gb227]? = some (.cells #[.string (⟨#[]⟩ : ByteArray), .string (⟨#[]⟩ : ByteArray), .string (⟨#[]⟩ : ByteArray)] 23 (0, 0))) := ⟨by rw [← hq_]; exact (pk BK227.out)⟩; have n1_ : Aside0 (Below w.heap.size w w45) := ⟨by rw [← hq_]; exact (bl HB.out)⟩; clear BK227 HB hq_; have BK227 := n0_; have HB := n1_; clear n0_ n1_))) | ((with_reducible refine gate_callee (f := 21) rfl ?_); refine goesL_ (some 32) rfl rfl Tryz.func21 kr rfl #[.string (a0.extract 0 (t229 : Int).toNat)] rfl ga ?_; (with_reducible refine (lodestarref04_first.calls k (a0.extract 0 (t229 : Int).toNat) t230 t231 t232 false _ A15.out).mono ?_); rintro e w46 ⟨rfl, hb⟩; refine ⟨_, rfl, ?_⟩; replace BK227 := Aside0.mk (blk_below (pk BK227.out) hb); replace HB := Aside0.mk (below_step (bl HB.out) hb); (try clear hb); (try clear hb2); (try clear hk); (try clear hi)) | ((with_reducible refine gate_dst (N := 6) rfl ?_); refine box_event ?hg (N := 6) ?hd (cs := #[.string (⟨#[]⟩ : ByteArray), .string (⟨#[]⟩ : ByteArray), .string (⟨#[]⟩ : ByteArray)]) (t := 23) ?hr ?_; (case hd => rfl); (case hg => rfl); (case hr => first | (go_simp; done) | (go_simp; rfl)); intro gb234 hg w47 hbox hb; have BK234 := Aside0.mk (hbox); have GW234 := Aside0.mk (gs (w := w) hg (bl HB.out)); have GE234 := Aside0.mk (gs (w := w) hg (bl HB.out)); replace HB := Aside0.mk (below_step (bl HB.out) hb); have NB227_234 := Aside0.mk ((gl (g := gb227) hg (pk BK227.out))); have NB234_227 := Aside0.mk ((gm (g := gb227) hg (pk BK227.out))); replace BK227 := Aside0.mk (blk_below (pk BK227.out) hb); clear hb hbox hg; have hnb48 := NB234_227.out; have hnc48 := NB227_234.out; obtain ⟨hcz49_0, hcz49_1, hcz49_2, hfz49_0, hfz49_1, hfz49_2⟩ := cz3 BK234.out; obtain ⟨hcz50_0, hcz50_1, hcz50_2, hfz50_0, hfz50_1, hfz50_2⟩ := cz3 BK227.out))
      refine bodyPost_ret (results_ct rfl _ _ gb227 23 #[.string (⟨#[]⟩ : ByteArray), .string (⟨#[]⟩ : ByteArray), .string (⟨#[]⟩ : ByteArray)] (0, 0) _ rfl (by refine pk ?_; refine blk_put (cs := #[.string (⟨#[]⟩ : ByteArray), .string (⟨#[]⟩ : ByteArray), .string (⟨#[]⟩ : ByteArray)]) ?_ 2 _ rfl; refine pk ?_; refine blk_put (cs := #[.string (⟨#[]⟩ : ByteArray), .string (⟨#[]⟩ : ByteArray), .string (⟨#[]⟩ : ByteArray)]) ?_ 1 _ rfl; refine pk ?_; refine blk_put (cs := #[.string (⟨#[]⟩ : ByteArray), .string (⟨#[]⟩ : ByteArray), .string (⟨#[]⟩ : ByteArray)]) ?_ 0 _ rfl; refine pk ?_; refine blk_far ?_ NB227_234.out _; refine pk ?_; refine blk_far ?_ NB227_234.out _; refine pk ?_; refine blk_far ?_ NB227_234.out _; exact pk BK227.out) Tryz.underlying23 rfl kr) rfl ?_
      exact ⟨er0, bl HB.out⟩
    ·rw [if_neg c14] at H
     exact absurd H (by simp)
   ·rw [if_neg c13] at H
    exact absurd H (by simp)

end Go.Proofs.YteeiljjjgkinhaaGreatDoor.PHttpF
