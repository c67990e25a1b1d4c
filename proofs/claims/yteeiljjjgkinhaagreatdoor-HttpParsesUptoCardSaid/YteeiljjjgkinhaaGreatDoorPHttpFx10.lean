-- Written by a program of this session on top of the print: some functions by hand.
import Derived.Test.YteeiljjjgkinhaaGreatDoorPHttpFx0
import Derived.Test.YteeiljjjgkinhaaGreatDoorPHttpFx8
import Derived.Test.YteeiljjjgkinhaaGreatDoorPHttpFx9
namespace Go.Proofs.YteeiljjjgkinhaaGreatDoor.PHttpF
open Go.RowKit Go.Proofs.YteeiljjjgkinhaaGreatDoorW.PrintWords Go.Proofs.YteeiljjjgkinhaaGreatDoorW.PrintLast Go.Proofs.YteeiljjjgkinhaaGreatDoorW.PrintMore
attribute [local go_sem] max2_int min2_int max_two min_two max_three min_three max_four min_four   -- for this text's walks alone
set_option linter.unusedVariables false
set_option linter.unusedSimpArgs false

/-! ### lodestarref04_first: function 21 -/
def lodestarref04_first.f (k : Nat) (a0 : ByteArray) : Option (ByteArray × ByteArray × ByteArray × Bool) := (lodestarref04_find.f k a0 (⟨#[32]⟩ : ByteArray) 0).bind fun t213 => (if t213 < 0 then (some ((⟨#[]⟩ : ByteArray), (⟨#[]⟩ : ByteArray), (⟨#[]⟩ : ByteArray), false)) else ((lodestarref04_find.f k a0 (⟨#[32]⟩ : ByteArray) (wrap64 (t213 + 1))).bind fun t214 => (if t214 < 0 then (some ((⟨#[]⟩ : ByteArray), (⟨#[]⟩ : ByteArray), (⟨#[]⟩ : ByteArray), false)) else (if 0 ≤ t213 then (if t213 ≤ (a0.size : Int) then (if 0 ≤ (wrap64 (t213 + 1)) then (if (wrap64 (t213 + 1)) ≤ t214 then (if t214 ≤ (a0.size : Int) then ((lodestarref04_method.f k (a0.extract 0 (t213 : Int).toNat)).bind fun t216 => (if t216 = true then ((lodestarref04_path.f k (a0.extract ((wrap64 (t213 + 1)) : Int).toNat (t214 : Int).toNat)).bind fun t217 => (if t217 = true then (if 0 ≤ (wrap64 (t214 + 1)) then (if (wrap64 (t214 + 1)) ≤ (a0.size : Int) then (some (a0.extract 0 (t213 : Int).toNat, a0.extract ((wrap64 (t213 + 1)) : Int).toNat (t214 : Int).toNat, (⟨#[]⟩ : ByteArray), ((a0.extract ((wrap64 (t214 + 1)) : Int).toNat a0.size).toList == ([72, 84, 84, 80, 47, 49, 46, 49] : List UInt8)))) else (none)) else (none)) else (some (a0.extract 0 (t213 : Int).toNat, a0.extract ((wrap64 (t213 + 1)) : Int).toNat (t214 : Int).toNat, (⟨#[]⟩ : ByteArray), false)))) else (some (a0.extract 0 (t213 : Int).toNat, a0.extract ((wrap64 (t213 + 1)) : Int).toNat (t214 : Int).toNat, (⟨#[]⟩ : ByteArray), false)))) else (none)) else (none)) else (none)) else (none)) else (none)))))
theorem lodestarref04_first.mono : ∀ a0 k, LeO (lodestarref04_first.f k a0) (lodestarref04_first.f (k + 1) a0) := by
 intro a0 k
 unfold lodestarref04_first.f
 repeat' first
   | (with_reducible exact lodestarref04_find.mono _ _ _ _)
   | (with_reducible exact lodestarref04_method.mono _ _)
   | (with_reducible exact lodestarref04_path.mono _ _)
   | (with_reducible exact LeO.refl _)
   | (with_reducible exact LeO.none _)
   | (with_reducible refine LeO.ite ?_ ?_)
   | (with_reducible refine LeO.bind ?_ (fun _ => ?_))
   | exact lodestarref04_find.mono _ _ _ _
   | exact lodestarref04_method.mono _ _
   | exact lodestarref04_path.mono _ _
   | exact LeO.none _
   | refine LeO.ite ?_ ?_
   | refine LeO.bind ?_ (fun _ => ?_)
def lodestarref04_first.T7 : Bool × List (List Nat × List Nat) := (true, [([], []), ([], []), ([0, 1], [0, 1]), ([], []), ([], []), ([4], [4]), ([], []), ([3, 5, 6], [3, 5, 6]), ([2, 7], [2, 7]), ([], []), ([9, 8, 0, 1, 2, 3, 4, 5, 6, 7, 8, 9], [8, 9])])
def lodestarref04_first.B7 : List Nat := [0, 0, 3, 0, 0, 16, 0, 120, 255, 0, 1023]
theorem lodestarref04_first.tab7 : rtab .any (opsOf Tryz.f21 7) = lodestarref04_first.T7 := by kernel_rfl
theorem lodestarref04_first.bits7 : waitsOk lodestarref04_first.T7.2 lodestarref04_first.B7 = true := by kernel_rfl
def lodestarref04_first.T8 : Bool × List (List Nat × List Nat) := (true, [([], []), ([], []), ([1], [1]), ([2], [2]), ([3, 3], [3]), ([4], [4]), ([5, 4], [4, 5]), ([6, 4, 4], [4, 6]), ([4, 7], [4, 7]), ([8, 7], [8]), ([9], [9]), ([9], [9]), ([11, 9], [9, 11]), ([10, 12, 9], [9, 10, 12]), ([13, 9], [9, 13]), ([9, 14], [9, 14]), ([0, 9, 0], [0]), ([15, 16, 0, 1, 2, 3, 4, 5, 6, 7, 8, 9, 10, 11, 12, 13, 14, 15, 16], [15])])
def lodestarref04_first.B8 : List Nat := [0, 0, 2, 6, 14, 30, 62, 126, 254, 510, 1022, 1022, 3070, 8190, 16382, 32766, 1023, 131071]
theorem lodestarref04_first.tab8 : rtab .any (opsOf Tryz.f21 8) = lodestarref04_first.T8 := by kernel_rfl
theorem lodestarref04_first.bits8 : waitsOk lodestarref04_first.T8.2 lodestarref04_first.B8 = true := by kernel_rfl
set_option maxHeartbeats 8000000 in
set_option maxRecDepth 100000 in
theorem lodestarref04_first.calls (k : Nat) (a0 : ByteArray) (r1 : ByteArray) (r2 : ByteArray) (r3 : ByteArray) (r4 : Bool) (w : World) (h : lodestarref04_first.f k a0 = some (r1, r2, r3, r4)) :
  Calls Tryz.prog 21 #[.string a0] w fun e w' => e = .returned (.tuple #[.agg #[.string r1, .string r2, .string r3], .bool r4]) ∧ Below w.heap.size w w' := by
 have hu23 := Tryz.underlying23
 have HB := Aside0.mk (Below.refl w.heap.size w)
 have H : ((lodestarref04_find.f k a0 (⟨#[32]⟩ : ByteArray) 0).bind fun t213 => (if t213 < 0 then (some ((⟨#[]⟩ : ByteArray), (⟨#[]⟩ : ByteArray), (⟨#[]⟩ : ByteArray), false)) else ((lodestarref04_find.f k a0 (⟨#[32]⟩ : ByteArray) (wrap64 (t213 + 1))).bind fun t214 => (if t214 < 0 then (some ((⟨#[]⟩ : ByteArray), (⟨#[]⟩ : ByteArray), (⟨#[]⟩ : ByteArray), false)) else (if 0 ≤ t213 then (if t213 ≤ (a0.size : Int) then (if 0 ≤ (wrap64 (t213 + 1)) then (if (wrap64 (t213 + 1)) ≤ t214 then (if t214 ≤ (a0.size : Int) then ((lodestarref04_method.f k (a0.extract 0 (t213 : Int).toNat)).bind fun t216 => (if t216 = true then ((lodestarref04_path.f k (a0.extract ((wrap64 (t213 + 1)) : Int).toNat (t214 : Int).toNat)).bind fun t217 => (if t217 = true then (if 0 ≤ (wrap64 (t214 + 1)) then (if (wrap64 (t214 + 1)) ≤ (a0.size : Int) then (some (a0.extract 0 (t213 : Int).toNat, a0.extract ((wrap64 (t213 + 1)) : Int).toNat (t214 : Int).toNat, (⟨#[]⟩ : ByteArray), ((a0.extract ((wrap64 (t214 + 1)) : Int).toNat a0.size).toList == ([72, 84, 84, 80, 47, 49, 46, 49] : List UInt8)))) else (none)) else (none)) else (some (a0.extract 0 (t213 : Int).toNat, a0.extract ((wrap64 (t213 + 1)) : Int).toNat (t214 : Int).toNat, (⟨#[]⟩ : ByteArray), false)))) else (some (a0.extract 0 (t213 : Int).toNat, a0.extract ((wrap64 (t213 + 1)) : Int).toNat (t214 : Int).toNat, (⟨#[]⟩ : ByteArray), false)))) else (none)) else (none)) else (none)) else (none)) else (none)))))) = some (r1, r2, r3, r4) := h
 clear h
 replace H := Option.bind_eq_some_iff.mp H
 obtain ⟨t213, A20, H⟩ := H
 replace H : (if t213 < 0 then (some ((⟨#[]⟩ : ByteArray), (⟨#[]⟩ : ByteArray), (⟨#[]⟩ : ByteArray), false)) else ((lodestarref04_find.f k a0 (⟨#[32]⟩ : ByteArray) (wrap64 (t213 + 1))).bind fun t214 => (if t214 < 0 then (some ((⟨#[]⟩ : ByteArray), (⟨#[]⟩ : ByteArray), (⟨#[]⟩ : ByteArray), false)) else (if 0 ≤ t213 then (if t213 ≤ (a0.size : Int) then (if 0 ≤ (wrap64 (t213 + 1)) then (if (wrap64 (t213 + 1)) ≤ t214 then (if t214 ≤ (a0.size : Int) then ((lodestarref04_method.f k (a0.extract 0 (t213 : Int).toNat)).bind fun t216 => (if t216 = true then ((lodestarref04_path.f k (a0.extract ((wrap64 (t213 + 1)) : Int).toNat (t214 : Int).toNat)).bind fun t217 => (if t217 = true then (if 0 ≤ (wrap64 (t214 + 1)) then (if (wrap64 (t214 + 1)) ≤ (a0.size : Int) then (some (a0.extract 0 (t213 : Int).toNat, a0.extract ((wrap64 (t213 + 1)) : Int).toNat (t214 : Int).toNat, (⟨#[]⟩ : ByteArray), ((a0.extract ((wrap64 (t214 + 1)) : Int).toNat a0.size).toList == ([72, 84, 84, 80, 47, 49, 46, 49] : List UInt8)))) else (none)) else (none)) else (some (a0.extract 0 (t213 : Int).toNat, a0.extract ((wrap64 (t213 + 1)) : Int).toNat (t214 : Int).toNat, (⟨#[]⟩ : ByteArray), false)))) else (some (a0.extract 0 (t213 : Int).toNat, a0.extract ((wrap64 (t213 + 1)) : Int).toNat (t214 : Int).toNat, (⟨#[]⟩ : ByteArray), false)))) else (none)) else (none)) else (none)) else (none)) else (none))))) = some (r1, r2, r3, r4) := H
 have A2 := Aside0.mk A20
 clear A20
 by_cases c3 : t213 < 0
 ·rw [if_pos c3] at H
  have c3b0 : decide (t213 < 0) = true := decide_eq_true c3
  clear c3
  simp only [Option.some.injEq, Prod.mk.injEq] at H
  obtain ⟨rfl, rfl, rfl, rfl⟩ := H
  go_enter Tryz.func21, Tryz.ntmps21
  go_wp2_with (first | ((with_reducible refine gate_dst (N := 2) rfl ?_); refine box_event ?hg (N := 2) ?hd (cs := #[.string (⟨#[]⟩ : ByteArray), .string (⟨#[]⟩ : ByteArray), .string (⟨#[]⟩ : ByteArray)]) (t := 23) ?hr ?_; (case hd => rfl); (case hg => rfl); (case hr => first | (go_simp; done) | (go_simp; rfl)); intro gb212 hg w4 hbox hb; have BK212 := Aside0.mk (hbox); have GW212 := Aside0.mk (gs (w := w) hg (bl HB.out)); have GE212 := Aside0.mk (gs (w := w) hg (bl HB.out)); replace HB := Aside0.mk (below_step (bl HB.out) hb); clear hb hbox hg) | ((with_reducible refine gate_callee (f := 20) rfl ?_); refine goesL_ (some 8) rfl rfl Tryz.func20 kr rfl #[.string a0, .string (⟨#[32]⟩ : ByteArray), .int .i64 0] rfl ga ?_; (with_reducible refine (lodestarref04_find.calls k a0 (⟨#[32]⟩ : ByteArray) 0 t213 _ A2.out).mono ?_); rintro e w' ⟨rfl, ⟨nd, rfl⟩⟩; refine ⟨_, rfl, ?_⟩; (try (rw [drewN_self w4]; generalize hq_ : World.drewN w4 _ = w4; have n0_ : Aside0 (w4.heap[gb212]? = some (.cells #[.string (⟨#[]⟩ : ByteArray), .string (⟨#[]⟩ : ByteArray), .string (⟨#[]⟩ : ByteArray)] 23 (0, 0))) := ⟨by rw [← hq_]; exact (pk BK212.out)⟩; have n1_ : Aside0 (Below w.heap.size w w4) := ⟨by rw [← hq_]; exact (bl HB.out)⟩; clear BK212 HB hq_; have BK212 := n0_; have HB := n1_; clear n0_ n1_)); obtain ⟨hcz5_0, hcz5_1, hcz5_2, hfz5_0, hfz5_1, hfz5_2⟩ := cz3 BK212.out))
  refine bodyPost_ret (results_ct rfl _ _ gb212 23 #[.string (⟨#[]⟩ : ByteArray), .string (⟨#[]⟩ : ByteArray), .string (⟨#[]⟩ : ByteArray)] (0, 0) _ rfl (by refine pk ?_; refine blk_put (cs := #[.string (⟨#[]⟩ : ByteArray), .string (⟨#[]⟩ : ByteArray), .string (⟨#[]⟩ : ByteArray)]) ?_ 2 _ rfl; refine pk ?_; refine blk_put (cs := #[.string (⟨#[]⟩ : ByteArray), .string (⟨#[]⟩ : ByteArray), .string (⟨#[]⟩ : ByteArray)]) ?_ 1 _ rfl; refine pk ?_; refine blk_put (cs := #[.string (⟨#[]⟩ : ByteArray), .string (⟨#[]⟩ : ByteArray), .string (⟨#[]⟩ : ByteArray)]) ?_ 0 _ rfl; exact pk BK212.out) Tryz.underlying23 rfl kr) rfl ?_
  exact ⟨er0, bl HB.out⟩
 ·rw [if_neg c3] at H
  have c3b0 : decide (t213 < 0) = false := decide_eq_false c3
  clear c3
  replace H := Option.bind_eq_some_iff.mp H
  obtain ⟨t214, A60, H⟩ := H
  replace H : (if t214 < 0 then (some ((⟨#[]⟩ : ByteArray), (⟨#[]⟩ : ByteArray), (⟨#[]⟩ : ByteArray), false)) else (if 0 ≤ t213 then (if t213 ≤ (a0.size : Int) then (if 0 ≤ (wrap64 (t213 + 1)) then (if (wrap64 (t213 + 1)) ≤ t214 then (if t214 ≤ (a0.size : Int) then ((lodestarref04_method.f k (a0.extract 0 (t213 : Int).toNat)).bind fun t216 => (if t216 = true then ((lodestarref04_path.f k (a0.extract ((wrap64 (t213 + 1)) : Int).toNat (t214 : Int).toNat)).bind fun t217 => (if t217 = true then (if 0 ≤ (wrap64 (t214 + 1)) then (if (wrap64 (t214 + 1)) ≤ (a0.size : Int) then (some (a0.extract 0 (t213 : Int).toNat, a0.extract ((wrap64 (t213 + 1)) : Int).toNat (t214 : Int).toNat, (⟨#[]⟩ : ByteArray), ((a0.extract ((wrap64 (t214 + 1)) : Int).toNat a0.size).toList == ([72, 84, 84, 80, 47, 49, 46, 49] : List UInt8)))) else (none)) else (none)) else (some (a0.extract 0 (t213 : Int).toNat, a0.extract ((wrap64 (t213 + 1)) : Int).toNat (t214 : Int).toNat, (⟨#[]⟩ : ByteArray), false)))) else (some (a0.extract 0 (t213 : Int).toNat, a0.extract ((wrap64 (t213 + 1)) : Int).toNat (t214 : Int).toNat, (⟨#[]⟩ : ByteArray), false)))) else (none)) else (none)) else (none)) else (none)) else (none))) = some (r1, r2, r3, r4) := H
  have A6 := Aside0.mk A60
  clear A60
  by_cases c7 : t214 < 0
  ·rw [if_pos c7] at H
   have c7b0 : decide (t214 < 0) = true := decide_eq_true c7
   clear c7
   simp only [Option.some.injEq, Prod.mk.injEq] at H
   obtain ⟨rfl, rfl, rfl, rfl⟩ := H
   go_enter Tryz.func21, Tryz.ntmps21
   go_wp2_with (first | ((with_reducible refine gate_dst (N := 2) rfl ?_); refine box_event ?hg (N := 2) ?hd (cs := #[.string (⟨#[]⟩ : ByteArray), .string (⟨#[]⟩ : ByteArray), .string (⟨#[]⟩ : ByteArray)]) (t := 23) ?hr ?_; (case hd => rfl); (case hg => rfl); (case hr => first | (go_simp; done) | (go_simp; rfl)); intro gb212 hg w8 hbox hb; have BK212 := Aside0.mk (hbox); have GW212 := Aside0.mk (gs (w := w) hg (bl HB.out)); have GE212 := Aside0.mk (gs (w := w) hg (bl HB.out)); replace HB := Aside0.mk (below_step (bl HB.out) hb); clear hb hbox hg) | ((with_reducible refine gate_callee (f := 20) rfl ?_); refine goesL_ (some 8) rfl rfl Tryz.func20 kr rfl #[.string a0, .string (⟨#[32]⟩ : ByteArray), .int .i64 0] rfl ga ?_; (with_reducible refine (lodestarref04_find.calls k a0 (⟨#[32]⟩ : ByteArray) 0 t213 _ A2.out).mono ?_); rintro e w' ⟨rfl, ⟨nd, rfl⟩⟩; refine ⟨_, rfl, ?_⟩; (try (rw [drewN_self w8]; generalize hq_ : World.drewN w8 _ = w8; have n0_ : Aside0 (w8.heap[gb212]? = some (.cells #[.string (⟨#[]⟩ : ByteArray), .string (⟨#[]⟩ : ByteArray), .string (⟨#[]⟩ : ByteArray)] 23 (0, 0))) := ⟨by rw [← hq_]; exact (pk BK212.out)⟩; have n1_ : Aside0 (Below w.heap.size w w8) := ⟨by rw [← hq_]; exact (bl HB.out)⟩; clear BK212 HB hq_; have BK212 := n0_; have HB := n1_; clear n0_ n1_))) | ((with_reducible refine gate_callee (f := 20) rfl ?_); refine goesL_ (some 15) rfl rfl Tryz.func20 kr rfl #[.string a0, .string (⟨#[32]⟩ : ByteArray), .int .i64 (wrap64 (t213 + 1))] rfl ga ?_; (with_reducible refine (lodestarref04_find.calls k a0 (⟨#[32]⟩ : ByteArray) (wrap64 (t213 + 1)) t214 _ A6.out).mono ?_); rintro e w' ⟨rfl, ⟨nd, rfl⟩⟩; refine ⟨_, rfl, ?_⟩; (try (rw [drewN_self w8]; generalize hq_ : World.drewN w8 _ = w8; have n0_ : Aside0 (w8.heap[gb212]? = some (.cells #[.string (⟨#[]⟩ : ByteArray), .string (⟨#[]⟩ : ByteArray), .string (⟨#[]⟩ : ByteArray)] 23 (0, 0))) := ⟨by rw [← hq_]; exact (pk BK212.out)⟩; have n1_ : Aside0 (Below w.heap.size w w8) := ⟨by rw [← hq_]; exact (bl HB.out)⟩; clear BK212 HB hq_; have BK212 := n0_; have HB := n1_; clear n0_ n1_)); obtain ⟨hcz9_0, hcz9_1, hcz9_2, hfz9_0, hfz9_1, hfz9_2⟩ := cz3 BK212.out))
   refine bodyPost_ret (results_ct rfl _ _ gb212 23 #[.string (⟨#[]⟩ : ByteArray), .string (⟨#[]⟩ : ByteArray), .string (⟨#[]⟩ : ByteArray)] (0, 0) _ rfl (by refine pk ?_; refine blk_put (cs := #[.string (⟨#[]⟩ : ByteArray), .string (⟨#[]⟩ : ByteArray), .string (⟨#[]⟩ : ByteArray)]) ?_ 2 _ rfl; refine pk ?_; refine blk_put (cs := #[.string (⟨#[]⟩ : ByteArray), .string (⟨#[]⟩ : ByteArray), .string (⟨#[]⟩ : ByteArray)]) ?_ 1 _ rfl; refine pk ?_; refine blk_put (cs := #[.string (⟨#[]⟩ : ByteArray), .string (⟨#[]⟩ : ByteArray), .string (⟨#[]⟩ : ByteArray)]) ?_ 0 _ rfl; exact pk BK212.out) Tryz.underlying23 rfl kr) rfl ?_
   exact ⟨er0, bl HB.out⟩
  ·rw [if_neg c7] at H
   have c7b0 : decide (t214 < 0) = false := decide_eq_false c7
   clear c7
   by_cases c10 : 0 ≤ t213
   ·rw [if_pos c10] at H
    have c10b0 := eq_true c10
    have c10b1 : decide (0 ≤ t213) = true := decide_eq_true c10
    clear c10
    by_cases c11 : t213 ≤ (a0.size : Int)
    ·rw [if_pos c11] at H
     have c11b0 := eq_true c11
     have c11b1 : decide (t213 ≤ (a0.size : Int)) = true := decide_eq_true c11
     clear c11
     obtain ⟨ji12, hji12⟩ : ∃ j_ : Int, (wrap64 (t213 + 1)) = j_ := ⟨_, rfl⟩
     replace H : (if 0 ≤ (ji12) then (if (ji12) ≤ t214 then (if t214 ≤ (a0.size : Int) then ((lodestarref04_method.f k (a0.extract 0 (t213 : Int).toNat)).bind fun t216 => (if t216 = true then ((lodestarref04_path.f k (a0.extract ((ji12) : Int).toNat (t214 : Int).toNat)).bind fun t217 => (if t217 = true then (if 0 ≤ (wrap64 (t214 + 1)) then (if (wrap64 (t214 + 1)) ≤ (a0.size : Int) then (some (a0.extract 0 (t213 : Int).toNat, a0.extract ((ji12) : Int).toNat (t214 : Int).toNat, (⟨#[]⟩ : ByteArray), ((a0.extract ((wrap64 (t214 + 1)) : Int).toNat a0.size).toList == ([72, 84, 84, 80, 47, 49, 46, 49] : List UInt8)))) else (none)) else (none)) else (some (a0.extract 0 (t213 : Int).toNat, a0.extract ((ji12) : Int).toNat (t214 : Int).toNat, (⟨#[]⟩ : ByteArray), false)))) else (some (a0.extract 0 (t213 : Int).toNat, a0.extract ((ji12) : Int).toNat (t214 : Int).toNat, (⟨#[]⟩ : ByteArray), false)))) else (none)) else (none)) else (none)) = some (r1, r2, r3, r4) := by first | (rw [hji12] at H; exact H) | (simp only [hji12] at H ⊢; exact H)
     (try rw [hji12] at A2)
     (try rw [hji12] at A6)
     have hji12w : (IntKind.i64.wrap (t213 + 1)) = ji12 := (i64_w _).trans hji12
     by_cases c13 : 0 ≤ (ji12)
     ·rw [if_pos c13] at H
      have c13b0 := eq_true c13
      have c13b1 : decide (0 ≤ (ji12)) = true := decide_eq_true c13
      clear c13
      by_cases c14 : (ji12) ≤ t214
      ·rw [if_pos c14] at H
       have c14b0 := eq_true c14
       have c14b1 : decide ((ji12) ≤ t214) = true := decide_eq_true c14
       clear c14
       by_cases c15 : t214 ≤ (a0.size : Int)
       ·rw [if_pos c15] at H
        have c15b0 := eq_true c15
        have c15b1 : decide (t214 ≤ (a0.size : Int)) = true := decide_eq_true c15
        clear c15
        replace H := Option.bind_eq_some_iff.mp H
        obtain ⟨t216, A160, H⟩ := H
        replace H : (if t216 = true then ((lodestarref04_path.f k (a0.extract ((ji12) : Int).toNat (t214 : Int).toNat)).bind fun t217 => (if t217 = true then (if 0 ≤ (wrap64 (t214 + 1)) then (if (wrap64 (t214 + 1)) ≤ (a0.size : Int) then (some (a0.extract 0 (t213 : Int).toNat, a0.extract ((ji12) : Int).toNat (t214 : Int).toNat, (⟨#[]⟩ : ByteArray), ((a0.extract ((wrap64 (t214 + 1)) : Int).toNat a0.size).toList == ([72, 84, 84, 80, 47, 49, 46, 49] : List UInt8)))) else (none)) else (none)) else (some (a0.extract 0 (t213 : Int).toNat, a0.extract ((ji12) : Int).toNat (t214 : Int).toNat, (⟨#[]⟩ : ByteArray), false)))) else (some (a0.extract 0 (t213 : Int).toNat, a0.extract ((ji12) : Int).toNat (t214 : Int).toNat, (⟨#[]⟩ : ByteArray), false))) = some (r1, r2, r3, r4) := H
        have A16 := Aside0.mk A160
        clear A160
        by_cases c17 : t216 = true
        ·subst c17
         have H1 : ((lodestarref04_path.f k (a0.extract ((ji12) : Int).toNat (t214 : Int).toNat)).bind fun t217 => (if t217 = true then (if 0 ≤ (wrap64 (t214 + 1)) then (if (wrap64 (t214 + 1)) ≤ (a0.size : Int) then (some (a0.extract 0 (t213 : Int).toNat, a0.extract ((ji12) : Int).toNat (t214 : Int).toNat, (⟨#[]⟩ : ByteArray), ((a0.extract ((wrap64 (t214 + 1)) : Int).toNat a0.size).toList == ([72, 84, 84, 80, 47, 49, 46, 49] : List UInt8)))) else (none)) else (none)) else (some (a0.extract 0 (t213 : Int).toNat, a0.extract ((ji12) : Int).toNat (t214 : Int).toNat, (⟨#[]⟩ : ByteArray), false)))) = some (r1, r2, r3, r4) := by rw [if_pos rfl] at H; exact H
         clear H
         have H := H1
         clear H1
         replace H := Option.bind_eq_some_iff.mp H
         obtain ⟨t217, A180, H⟩ := H
         replace H : (if t217 = true then (if 0 ≤ (wrap64 (t214 + 1)) then (if (wrap64 (t214 + 1)) ≤ (a0.size : Int) then (some (a0.extract 0 (t213 : Int).toNat, a0.extract ((ji12) : Int).toNat (t214 : Int).toNat, (⟨#[]⟩ : ByteArray), ((a0.extract ((wrap64 (t214 + 1)) : Int).toNat a0.size).toList == ([72, 84, 84, 80, 47, 49, 46, 49] : List UInt8)))) else (none)) else (none)) else (some (a0.extract 0 (t213 : Int).toNat, a0.extract ((ji12) : Int).toNat (t214 : Int).toNat, (⟨#[]⟩ : ByteArray), false))) = some (r1, r2, r3, r4) := H
         have A18 := Aside0.mk A180
         clear A180
         by_cases c19 : t217 = true
         ·subst c19
          have H1 : (if 0 ≤ (wrap64 (t214 + 1)) then (if (wrap64 (t214 + 1)) ≤ (a0.size : Int) then (some (a0.extract 0 (t213 : Int).toNat, a0.extract ((ji12) : Int).toNat (t214 : Int).toNat, (⟨#[]⟩ : ByteArray), ((a0.extract ((wrap64 (t214 + 1)) : Int).toNat a0.size).toList == ([72, 84, 84, 80, 47, 49, 46, 49] : List UInt8)))) else (none)) else (none)) = some (r1, r2, r3, r4) := by rw [if_pos rfl] at H; exact H
          clear H
          have H := H1
          clear H1
          obtain ⟨ji20, hji20⟩ : ∃ j_ : Int, (wrap64 (t214 + 1)) = j_ := ⟨_, rfl⟩
          replace H : (if 0 ≤ (ji20) then (if (ji20) ≤ (a0.size : Int) then (some (a0.extract 0 (t213 : Int).toNat, a0.extract ((ji12) : Int).toNat (t214 : Int).toNat, (⟨#[]⟩ : ByteArray), ((a0.extract ((ji20) : Int).toNat a0.size).toList == ([72, 84, 84, 80, 47, 49, 46, 49] : List UInt8)))) else (none)) else (none)) = some (r1, r2, r3, r4) := by first | (rw [hji20] at H; exact H) | (simp only [hji20] at H ⊢; exact H)
          (try rw [hji20] at A2)
          (try rw [hji20] at A6)
          (try rw [hji20] at A16)
          (try rw [hji20] at A18)
          have hji20w : (IntKind.i64.wrap (t214 + 1)) = ji20 := (i64_w _).trans hji20
          by_cases c21 : 0 ≤ (ji20)
          ·rw [if_pos c21] at H
           have c21b0 := eq_true c21
           have c21b1 : decide (0 ≤ (ji20)) = true := decide_eq_true c21
           clear c21
           by_cases c22 : (ji20) ≤ (a0.size : Int)
           ·rw [if_pos c22] at H
            have c22b0 := eq_true c22
            have c22b1 : decide ((ji20) ≤ (a0.size : Int)) = true := decide_eq_true c22
            clear c22
            simp only [Option.some.injEq, Prod.mk.injEq] at H
            obtain ⟨rfl, rfl, rfl, rfl⟩ := H
            go_enter Tryz.func21, Tryz.ntmps21
            try go_wp2_with (first | ((with_reducible refine gate_dst (N := 2) rfl ?_); refine box_event ?hg (N := 2) ?hd (cs := #[.string (⟨#[]⟩ : ByteArray), .string (⟨#[]⟩ : ByteArray), .string (⟨#[]⟩ : ByteArray)]) (t := 23) ?hr ?_; (case hd => rfl); (case hg => rfl); (case hr => first | (go_simp; done) | (go_simp; rfl)); intro gb212 hg w23 hbox hb; have BK212 := Aside0.mk (hbox); have GW212 := Aside0.mk (gs (w := w) hg (bl HB.out)); have GE212 := Aside0.mk (gs (w := w) hg (bl HB.out)); replace HB := Aside0.mk (below_step (bl HB.out) hb); clear hb hbox hg) | ((with_reducible refine gate_callee (f := 20) rfl ?_); refine goesL_ (some 8) rfl rfl Tryz.func20 kr rfl #[.string a0, .string (⟨#[32]⟩ : ByteArray), .int .i64 0] rfl ga ?_; (with_reducible refine (lodestarref04_find.calls k a0 (⟨#[32]⟩ : ByteArray) 0 t213 _ A2.out).mono ?_); rintro e w' ⟨rfl, ⟨nd, rfl⟩⟩; refine ⟨_, rfl, ?_⟩; (try (rw [drewN_self w23]; generalize hq_ : World.drewN w23 _ = w23; have n0_ : Aside0 (w23.heap[gb212]? = some (.cells #[.string (⟨#[]⟩ : ByteArray), .string (⟨#[]⟩ : ByteArray), .string (⟨#[]⟩ : ByteArray)] 23 (0, 0))) := ⟨by rw [← hq_]; exact (pk BK212.out)⟩; have n1_ : Aside0 (Below w.heap.size w w23) := ⟨by rw [← hq_]; exact (bl HB.out)⟩; clear BK212 HB hq_; have BK212 := n0_; have HB := n1_; clear n0_ n1_))) | ((with_reducible refine gate_callee (f := 20) rfl ?_); refine goesL_ (some 15) rfl rfl Tryz.func20 kr rfl #[.string a0, .string (⟨#[32]⟩ : ByteArray), .int .i64 ji12] rfl (by (try simp only [List.map_toArray, List.map_cons, List.map_nil]); first | done | (simp only [hji12]; rfl) | rfl | (simp only [List.length_drop, List.length_take]; rfl) | (go_simp; done) | (go_simp; rfl) | (go_simp; simp only [IntKind.wrap_u64]; omega) | (go_simp; simp only [IntKind.wrap_u32]; omega) | (go_simp; simp only [IntKind.wrap_u8]; omega) | (go_simp; unfold wrap64; omega)) ?_; (with_reducible refine (lodestarref04_find.calls k a0 (⟨#[32]⟩ : ByteArray) ji12 t214 _ A6.out).mono ?_); rintro e w' ⟨rfl, ⟨nd, rfl⟩⟩; refine ⟨_, rfl, ?_⟩; (try (rw [drewN_self w23]; generalize hq_ : World.drewN w23 _ = w23; have n0_ : Aside0 (w23.heap[gb212]? = some (.cells #[.string (⟨#[]⟩ : ByteArray), .string (⟨#[]⟩ : ByteArray), .string (⟨#[]⟩ : ByteArray)] 23 (0, 0))) := ⟨by rw [← hq_]; exact (pk BK212.out)⟩; have n1_ : Aside0 (Below w.heap.size w w23) := ⟨by rw [← hq_]; exact (bl HB.out)⟩; clear BK212 HB hq_; have BK212 := n0_; have HB := n1_; clear n0_ n1_))))
            replace BK212 := Aside0.mk (blk_drew BK212.out)
            replace HB := Aside0.mk (below_drew1 HB.out)
            refine start_ (n := 11) (S := fun w' => True) (ds := []) #[false, false, false, false, false, false, false, false, false, false, false] kr rfl rfl trivial (fun hHeld => ?_); refine with_tabW lodestarref04_first.tab7 lodestarref04_first.bits7 (fun HT_ HW_ => ?_)
            generalize w23.drew = w24 at BK212 HB hHeld ⊢
            refine pure_ (i := 0) (N := some 19) (v := ?_) (a' := ?_) #[true, false, false, false, false, false, false, false, false, false, false] rfl rfl (any_of HT_.out kr) (fun _ _ _ h => h) (Or.inl ⟨by rfl, ?_⟩) ?_ ?_
            rotate_left
            ·exact wl
            rotate_left
            ·exact ap
            refine pure_ (i := 1) (N := some 20) (v := ?_) (a' := ?_) #[true, true, false, false, false, false, false, false, false, false, false] rfl rfl (any_of HT_.out kr) (fun _ _ _ h => h) (Or.inl ⟨by rfl, ?_⟩) ?_ ?_
            rotate_left
            ·exact wl
            rotate_left
            ·exact ap
            refine pure_ (i := 2) (N := some 21) (v := ?_) (a' := ?_) #[true, true, true, false, false, false, false, false, false, false, false] rfl rfl (any_of HT_.out kr) (fun _ _ _ h => h) (Or.inl ⟨by rfl, ?_⟩) ?_ ?_
            rotate_left
            ·exact wl
            rotate_left
            ·exact ap
            refine pure_ (i := 3) (N := some 22) (v := ?_) (a' := ?_) #[true, true, true, true, false, false, false, false, false, false, false] rfl rfl (any_of HT_.out kr) (fun _ _ _ h => h) (Or.inl ⟨by rfl, ?_⟩) ?_ ?_
            rotate_left
            ·exact wl
            rotate_left
            ·exact ap
            refine pure_ (i := 4) (N := some 23) (v := ?_) (a' := ?_) #[true, true, true, true, true, false, false, false, false, false, false] rfl rfl (any_of HT_.out kr) (fun _ _ _ h => h) (Or.inl ⟨by rfl, ?_⟩) ?_ ?_
            rotate_left
            ·exact wl
            rotate_left
            ·exact ap
            refine pure_ (i := 5) (N := some 24) (v := ?_) (a' := ?_) #[true, true, true, true, true, true, false, false, false, false, false] rfl rfl (any_of HT_.out kr) (fun _ _ _ h => h) (Or.inl ⟨by rfl, ?_⟩) ?_ ?_
            rotate_left
            ·exact wl
            rotate_left
            ·exact ap
            refine pure_ (i := 6) (N := some 25) (v := ?_) (a' := ?_) #[true, true, true, true, true, true, true, false, false, false, false] rfl rfl (any_of HT_.out kr) (fun _ _ _ h => h) (Or.inl ⟨by rfl, ?_⟩) ?_ ?_
            rotate_left
            ·exact wl
            rotate_left
            ·exact ap
            refine pure_ (i := 7) (N := some 26) (v := ?_) (a' := ?_) #[true, true, true, true, true, true, true, true, false, false, false] rfl rfl (any_of HT_.out kr) (fun _ _ _ h => h) (Or.inl ⟨by rfl, ?_⟩) ?_ ?_
            rotate_left
            ·exact wl
            rotate_left
            ·exact ap
            refine pure_ (i := 8) (N := some 27) (v := ?_) (a' := ?_) #[true, true, true, true, true, true, true, true, true, false, false] rfl rfl (any_of HT_.out kr) (fun _ _ _ h => h) (Or.inl ⟨by rfl, ?_⟩) ?_ ?_
            rotate_left
            ·exact wl
            rotate_left
            ·exact ap
            refine one_ (i := 9) (N := some 6) #[true, true, true, true, true, true, true, true, true, true, false] rfl rfl (one_of HT_.out kr) (by decide) (fun K hK => ?_)
            refine box_step ?hg (N := 6) ?hd (cs := #[.string (⟨#[]⟩ : ByteArray), .string (⟨#[]⟩ : ByteArray), .string (⟨#[]⟩ : ByteArray)]) (t := 23) ?hr ?_; (case hd => rfl); (case hg => rfl); (case hr => first | (go_simp; done) | (go_simp; rfl))
            intro gb215 hg w25 hbox hb
            have BK215 := Aside0.mk (hbox)
            have GW215 := Aside0.mk (gs (w := w) hg (bl HB.out))
            have GE215 := Aside0.mk (gs (w := w) hg (bl HB.out))
            replace HB := Aside0.mk (below_step (bl HB.out) hb)
            have NB212_215 := Aside0.mk ((gl (g := gb212) hg (pk BK212.out)))
            have NB215_212 := Aside0.mk ((gm (g := gb212) hg (pk BK212.out)))
            replace BK212 := Aside0.mk (blk_below (pk BK212.out) hb)
            clear hb hbox hg
            refine hK.out _ _ trivial (fun hHeld => ?_)
            clear hK K
            refine norm_ (a' := ?_) ?_ ?_
            rotate_left
            ·show Act.put _ (some 6) _ = _
             exact ap
            refine one_ (i := 10) (N := none) #[true, true, true, true, true, true, true, true, true, true, true] rfl rfl (one_of HT_.out kr) (by decide) (fun K hK => ?_)
            have hs26 : w25.cell? ⟨gb215, 0, none⟩ = some (.string (⟨#[]⟩ : ByteArray)) := (blk_cell BK215.out 0).trans rfl
            have hfs26 := blk_frozen BK215.out 0
            have hns26_0 := NB212_215.out
            have hms26_0 := NB215_212.out
            have hs27 : w25.cell? ⟨gb215, 1, none⟩ = some (.string (⟨#[]⟩ : ByteArray)) := (blk_cell BK215.out 1).trans rfl
            have hfs27 := blk_frozen BK215.out 1
            have hns27_0 := NB212_215.out
            have hms27_0 := NB215_212.out
            have hs28 : w25.cell? ⟨gb215, 2, none⟩ = some (.string (⟨#[]⟩ : ByteArray)) := (blk_cell BK215.out 2).trans rfl
            have hfs28 := blk_frozen BK215.out 2
            have hns28_0 := NB212_215.out
            have hms28_0 := NB215_212.out
            refine skip_ (w1 := ?_) (by rfl) rfl ?_ ?_
            rotate_left
            ·go_simp
             rfl
            refine hK.out _ _ trivial (fun hHeld => ?_)
            clear hK K
            refine done_ (done_of HT_.out kr) ?_
            try go_wp2
            have n0_ : Aside0 ((((w25.setCell ⟨gb215, 0, none⟩ (.string (a0.extract 0 (t213 : Int).toNat))).setCell ⟨gb215, 1, none⟩ (.string (a0.extract ((ji12) : Int).toNat (t214 : Int).toNat))).setCell ⟨gb215, 2, none⟩ (.string (⟨#[]⟩ : ByteArray))).heap[gb212]? = some (.cells #[.string (⟨#[]⟩ : ByteArray), .string (⟨#[]⟩ : ByteArray), .string (⟨#[]⟩ : ByteArray)] 23 (0, 0))) := ⟨by refine pk ?_; refine blk_far ?_ NB212_215.out _; refine pk ?_; refine blk_far ?_ NB212_215.out _; refine pk ?_; refine blk_far ?_ NB212_215.out _; exact pk BK212.out⟩
            have n1_ : Aside0 ((((w25.setCell ⟨gb215, 0, none⟩ (.string (a0.extract 0 (t213 : Int).toNat))).setCell ⟨gb215, 1, none⟩ (.string (a0.extract ((ji12) : Int).toNat (t214 : Int).toNat))).setCell ⟨gb215, 2, none⟩ (.string (⟨#[]⟩ : ByteArray))).heap[gb215]? = some (.cells #[.string (a0.extract 0 (t213 : Int).toNat), .string (a0.extract ((ji12) : Int).toNat (t214 : Int).toNat), .string (⟨#[]⟩ : ByteArray)] 23 (0, 0))) := ⟨by refine pk ?_; refine blk_put (cs := #[.string (a0.extract 0 (t213 : Int).toNat), .string (a0.extract ((ji12) : Int).toNat (t214 : Int).toNat), .string (⟨#[]⟩ : ByteArray)]) ?_ 2 _ rfl; refine pk ?_; refine blk_put (cs := #[.string (a0.extract 0 (t213 : Int).toNat), .string (⟨#[]⟩ : ByteArray), .string (⟨#[]⟩ : ByteArray)]) ?_ 1 _ rfl; refine pk ?_; refine blk_put (cs := #[.string (⟨#[]⟩ : ByteArray), .string (⟨#[]⟩ : ByteArray), .string (⟨#[]⟩ : ByteArray)]) ?_ 0 _ rfl; exact pk BK215.out⟩
            have n2_ : Aside0 (Below w.heap.size w (((w25.setCell ⟨gb215, 0, none⟩ (.string (a0.extract 0 (t213 : Int).toNat))).setCell ⟨gb215, 1, none⟩ (.string (a0.extract ((ji12) : Int).toNat (t214 : Int).toNat))).setCell ⟨gb215, 2, none⟩ (.string (⟨#[]⟩ : ByteArray)))) := ⟨bl HB.out⟩
            (try clear BK212)
            (try clear BK215)
            (try clear HB)
            generalize (((w25.setCell ⟨gb215, 0, none⟩ (.string (a0.extract 0 (t213 : Int).toNat))).setCell ⟨gb215, 1, none⟩ (.string (a0.extract ((ji12) : Int).toNat (t214 : Int).toNat))).setCell ⟨gb215, 2, none⟩ (.string (⟨#[]⟩ : ByteArray))) = w29 at n0_ n1_ n2_ ⊢
            have BK212 := n0_
            have BK215 := n1_
            have HB := n2_
            clear n0_ n1_ n2_
            replace BK212 := Aside0.mk (blk_drew BK212.out)
            replace BK215 := Aside0.mk (blk_drew BK215.out)
            replace HB := Aside0.mk (below_drew1 HB.out)
            refine start_ (n := 18) (S := fun w' => w'.cell? ⟨gb215, 0, none⟩ = some (.string (a0.extract 0 (t213 : Int).toNat)) ∧ w'.cell? ⟨gb215, 1, none⟩ = some (.string (a0.extract ((ji12) : Int).toNat (t214 : Int).toNat)) ∧ w'.cell? ⟨gb215, 2, none⟩ = some (.string (⟨#[]⟩ : ByteArray))) (ds := []) #[false, false, false, false, false, false, false, false, false, false, false, false, false, false, false, false, false, false] kr rfl rfl ⟨(blk_cell BK215.out 0).trans rfl, (blk_cell BK215.out 1).trans rfl, (blk_cell BK215.out 2).trans rfl⟩ (fun hHeld => ?_); refine with_tabW lodestarref04_first.tab8 lodestarref04_first.bits8 (fun HT_ HW_ => ?_)
            generalize w29.drew = w30 at BK212 BK215 HB hHeld ⊢
            refine pure_ (i := 1) (N := some 29) (v := ?_) (a' := ?_) #[false, true, false, false, false, false, false, false, false, false, false, false, false, false, false, false, false, false] rfl rfl (any_of HT_.out kr) (fun _ _ _ h => h) (Or.inl ⟨by rfl, ?_⟩) ?_ ?_
            rotate_left
            ·exact wl
            rotate_left
            ·exact ap
            refine take_ (i := 0) (N := some 28) (v := ?_) (a' := ?_) #[true, true, false, false, false, false, false, false, false, false, false, false, false, false, false, false, false, false] rfl rfl (take_ofW HT_.out HW_.out kr) (fun _ _ _ h => h) (Or.inl ⟨by rfl, ?_⟩) hHeld ?_ ?_
            rotate_left
            ·rintro w' ⟨s0, s1, s2⟩
             go_simp
             exact rl
            rotate_left
            ·exact ap
            refine take_ (i := 2) (N := some 30) (v := ?_) (a' := ?_) #[true, true, true, false, false, false, false, false, false, false, false, false, false, false, false, false, false, false] rfl rfl (take_ofW HT_.out HW_.out kr) (fun _ _ _ h => h) (Or.inl ⟨by rfl, ?_⟩) hHeld ?_ ?_
            rotate_left
            ·rintro w' ⟨s0, s1, s2⟩
             go_simp
             exact rl
            rotate_left
            ·exact ap
            refine one_ (i := 3) (N := some 31) #[true, true, true, true, false, false, false, false, false, false, false, false, false, false, false, false, false, false] rfl rfl (one_of HT_.out kr) (by decide) (fun K hK => ?_)
            refine goes_ Tryz.func26 kr rfl #[.string (a0.extract 0 (t213 : Int).toNat)] (by rfl) rfl rfl ga ?_
            with_reducible refine (lodestarref04_method.calls k (a0.extract 0 (t213 : Int).toNat) true _ A16.out).mono ?_
            rintro e w' ⟨rfl, ⟨nd, rfl⟩⟩
            refine ⟨_, rfl, ?_⟩
            refine hK.out _ _ ⟨(blk_cell BK215.out 0).trans rfl, (blk_cell BK215.out 1).trans rfl, (blk_cell BK215.out 2).trans rfl⟩ (fun hHeld => ?_)
            clear hK K
            refine norm_ (a' := ?_) ?_ ?_
            rotate_left
            ·show Act.put _ (some 31) _ = _
             exact ap
            refine pure_ (i := 4) (N := some 32) (v := ?_) (a' := ?_) #[true, true, true, true, true, false, false, false, false, false, false, false, false, false, false, false, false, false] rfl rfl (any_of HT_.out kr) (fun _ _ _ h => h) (Or.inl ⟨by rfl, ?_⟩) ?_ ?_
            rotate_left
            ·exact wl
            rotate_left
            ·exact ap
            refine pure_ (i := 5) (N := some 33) (v := ?_) (a' := ?_) #[true, true, true, true, true, true, false, false, false, false, false, false, false, false, false, false, false, false] rfl rfl (any_of HT_.out kr) (fun _ _ _ h => h) (Or.inl ⟨by rfl, ?_⟩) ?_ ?_
            rotate_left
            ·exact wl
            rotate_left
            ·exact ap
            refine take_ (i := 6) (N := some 34) (v := ?_) (a' := ?_) #[true, true, true, true, true, true, true, false, false, false, false, false, false, false, false, false, false, false] rfl rfl (take_ofW HT_.out HW_.out kr) (fun _ _ _ h => h) (Or.inl ⟨by rfl, ?_⟩) hHeld ?_ ?_
            rotate_left
            ·rintro w' ⟨s0, s1, s2⟩
             go_simp
             exact rl
            rotate_left
            ·exact ap
            refine one_ (i := 7) (N := some 35) #[true, true, true, true, true, true, true, true, false, false, false, false, false, false, false, false, false, false] rfl rfl (one_of HT_.out kr) (by decide) (fun K hK => ?_)
            refine goes_ Tryz.func27 kr rfl #[.string (a0.extract ((ji12) : Int).toNat (t214 : Int).toNat)] (by rfl) rfl rfl (by (try simp only [List.map_toArray, List.map_cons, List.map_nil]); first | done | (simp only [hji12]; rfl) | rfl | (simp only [List.length_drop, List.length_take]; rfl) | (go_simp; done) | (go_simp; rfl) | (go_simp; simp only [IntKind.wrap_u64]; omega) | (go_simp; simp only [IntKind.wrap_u32]; omega) | (go_simp; simp only [IntKind.wrap_u8]; omega) | (go_simp; unfold wrap64; omega)) ?_
            with_reducible refine (lodestarref04_path.calls k (a0.extract ((ji12) : Int).toNat (t214 : Int).toNat) true _ A18.out).mono ?_
            rintro e w' ⟨rfl, ⟨nd, rfl⟩⟩
            refine ⟨_, rfl, ?_⟩
            refine hK.out _ _ ⟨(blk_cell BK215.out 0).trans rfl, (blk_cell BK215.out 1).trans rfl, (blk_cell BK215.out 2).trans rfl⟩ (fun hHeld => ?_)
            clear hK K
            refine norm_ (a' := ?_) ?_ ?_
            rotate_left
            ·show Act.put _ (some 35) _ = _
             exact ap
            refine pure_ (i := 8) (N := some 36) (v := ?_) (a' := ?_) #[true, true, true, true, true, true, true, true, true, false, false, false, false, false, false, false, false, false] rfl rfl (any_of HT_.out kr) (fun _ _ _ h => h) (Or.inl ⟨by rfl, ?_⟩) ?_ ?_
            rotate_left
            ·exact wl
            rotate_left
            ·exact ap
            refine pure_ (i := 9) (N := some 37) (v := ?_) (a' := ?_) #[true, true, true, true, true, true, true, true, true, true, false, false, false, false, false, false, false, false] rfl rfl (any_of HT_.out kr) (fun _ _ _ h => h) (Or.inl ⟨by rfl, ?_⟩) ?_ ?_
            rotate_left
            ·exact wl
            rotate_left
            ·exact ap
            refine pure_ (i := 10) (N := some 38) (v := ?_) (a' := ?_) #[true, true, true, true, true, true, true, true, true, true, true, false, false, false, false, false, false, false] rfl rfl (any_of HT_.out kr) (fun _ _ _ h => h) (Or.inl ⟨by rfl, ?_⟩) ?_ ?_
            rotate_left
            ·exact wl
            rotate_left
            ·exact ap
            refine pure_ (i := 11) (N := some 39) (v := ?_) (a' := ?_) #[true, true, true, true, true, true, true, true, true, true, true, true, false, false, false, false, false, false] rfl rfl (any_of HT_.out kr) (fun _ _ _ h => h) (Or.inl ⟨by rfl, ?_⟩) ?_ ?_
            rotate_left
            ·exact wl
            rotate_left
            ·exact ap
            refine pure_ (i := 12) (N := some 40) (v := ?_) (a' := ?_) #[true, true, true, true, true, true, true, true, true, true, true, true, true, false, false, false, false, false] rfl rfl (any_of HT_.out kr) (fun _ _ _ h => h) (Or.inl ⟨by rfl, ?_⟩) ?_ ?_
            rotate_left
            ·exact wl
            rotate_left
            ·exact ap
            refine pure_ (i := 13) (N := some 41) (v := ?_) (a' := ?_) #[true, true, true, true, true, true, true, true, true, true, true, true, true, true, false, false, false, false] rfl rfl (any_of HT_.out kr) (fun _ _ _ h => h) (Or.inl ⟨by rfl, ?_⟩) ?_ ?_
            rotate_left
            ·exact wl
            rotate_left
            ·exact ap
            refine pure_ (i := 14) (N := some 42) (v := ?_) (a' := ?_) #[true, true, true, true, true, true, true, true, true, true, true, true, true, true, true, false, false, false] rfl rfl (any_of HT_.out kr) (fun _ _ _ h => h) (Or.inl ⟨by rfl, ?_⟩) ?_ ?_
            rotate_left
            ·exact wl
            rotate_left
            ·exact ap
            refine pure_ (i := 15) (N := some 43) (v := ?_) (a' := ?_) #[true, true, true, true, true, true, true, true, true, true, true, true, true, true, true, true, false, false] rfl rfl (any_of HT_.out kr) (fun _ _ _ h => h) (Or.inl ⟨by rfl, ?_⟩) ?_ ?_
            rotate_left
            ·exact wl
            rotate_left
            ·exact ap
            refine one_ (i := 16) (N := none) #[true, true, true, true, true, true, true, true, true, true, true, true, true, true, true, true, true, false] rfl rfl (one_of HT_.out kr) (by decide) (fun K hK => ?_)
            have hs31 : w30.cell? ⟨gb212, 0, none⟩ = some (.string (⟨#[]⟩ : ByteArray)) := (blk_cell BK212.out 0).trans rfl
            have hfs31 := blk_frozen BK212.out 0
            have hns31_1 := NB215_212.out
            have hms31_1 := NB212_215.out
            have hs32 : w30.cell? ⟨gb212, 1, none⟩ = some (.string (⟨#[]⟩ : ByteArray)) := (blk_cell BK212.out 1).trans rfl
            have hfs32 := blk_frozen BK212.out 1
            have hns32_1 := NB215_212.out
            have hms32_1 := NB212_215.out
            have hs33 : w30.cell? ⟨gb212, 2, none⟩ = some (.string (⟨#[]⟩ : ByteArray)) := (blk_cell BK212.out 2).trans rfl
            have hfs33 := blk_frozen BK212.out 2
            have hns33_1 := NB215_212.out
            have hms33_1 := NB212_215.out
            refine skip_ (w1 := ?_) (by rfl) rfl ?_ ?_
            rotate_left
            ·go_simp
             rfl
            refine hK.out _ _ ⟨((cell_far (p := ⟨gb212, _, none⟩) NB215_212.out _).trans (((cell_far (p := ⟨gb212, _, none⟩) NB215_212.out _).trans (((cell_far (p := ⟨gb212, _, none⟩) NB215_212.out _).trans (hHeld.1)))))), ((cell_far (p := ⟨gb212, _, none⟩) NB215_212.out _).trans (((cell_far (p := ⟨gb212, _, none⟩) NB215_212.out _).trans (((cell_far (p := ⟨gb212, _, none⟩) NB215_212.out _).trans (hHeld.2.1)))))), ((cell_far (p := ⟨gb212, _, none⟩) NB215_212.out _).trans (((cell_far (p := ⟨gb212, _, none⟩) NB215_212.out _).trans (((cell_far (p := ⟨gb212, _, none⟩) NB215_212.out _).trans (hHeld.2.2))))))⟩ (fun hHeld => ?_)
            clear hK K
            refine pure_ (i := 17) (N := some 3) (v := ?_) (a' := ?_) #[true, true, true, true, true, true, true, true, true, true, true, true, true, true, true, true, true, true] rfl rfl (any_of HT_.out kr) (fun _ _ _ h => h) (Or.inl ⟨by rfl, ?_⟩) ?_ ?_
            rotate_left
            ·exact wl
            rotate_left
            ·exact ap
            refine done_ (done_of HT_.out kr) ?_
            try go_wp2
            refine bodyPost_ret (results_ct rfl _ _ gb212 23 #[.string (a0.extract 0 (t213 : Int).toNat), .string (a0.extract ((ji12) : Int).toNat (t214 : Int).toNat), .string (⟨#[]⟩ : ByteArray)] (0, 0) _ rfl (by refine pk ?_; refine blk_put (cs := #[.string (a0.extract 0 (t213 : Int).toNat), .string (a0.extract ((ji12) : Int).toNat (t214 : Int).toNat), .string (⟨#[]⟩ : ByteArray)]) ?_ 2 _ rfl; refine pk ?_; refine blk_put (cs := #[.string (a0.extract 0 (t213 : Int).toNat), .string (⟨#[]⟩ : ByteArray), .string (⟨#[]⟩ : ByteArray)]) ?_ 1 _ rfl; refine pk ?_; refine blk_put (cs := #[.string (⟨#[]⟩ : ByteArray), .string (⟨#[]⟩ : ByteArray), .string (⟨#[]⟩ : ByteArray)]) ?_ 0 _ rfl; exact pk BK212.out) Tryz.underlying23 rfl kr) rfl ?_
            exact ⟨by first | rfl | (simp [errW_none, errW_some] <;> rfl) | (simp only [← hji12, ← hji20]; first | rfl | (simp [errW_none, errW_some] <;> rfl)) | (simp [*, errW_none, errW_some] <;> rfl), bl HB.out⟩
           ·rw [if_neg c22] at H
            exact absurd H (by simp)
          ·rw [if_neg c21] at H
           exact absurd H (by simp)
         ·replace c19 := Bool.eq_false_iff.mpr c19
          subst c19
          have H1 : (some (a0.extract 0 (t213 : Int).toNat, a0.extract ((ji12) : Int).toNat (t214 : Int).toNat, (⟨#[]⟩ : ByteArray), false)) = some (r1, r2, r3, r4) := by rw [if_neg (show ¬ (false = true) by decide)] at H; exact H
          clear H
          have H := H1
          clear H1
          simp only [Option.some.injEq, Prod.mk.injEq] at H
          obtain ⟨rfl, rfl, rfl, rfl⟩ := H
          go_enter Tryz.func21, Tryz.ntmps21
          try go_wp2_with (first | ((with_reducible refine gate_dst (N := 2) rfl ?_); refine box_event ?hg (N := 2) ?hd (cs := #[.string (⟨#[]⟩ : ByteArray), .string (⟨#[]⟩ : ByteArray), .string (⟨#[]⟩ : ByteArray)]) (t := 23) ?hr ?_; (case hd => rfl); (case hg => rfl); (case hr => first | (go_simp; done) | (go_simp; rfl)); intro gb212 hg w34 hbox hb; have BK212 := Aside0.mk (hbox); have GW212 := Aside0.mk (gs (w := w) hg (bl HB.out)); have GE212 := Aside0.mk (gs (w := w) hg (bl HB.out)); replace HB := Aside0.mk (below_step (bl HB.out) hb); clear hb hbox hg) | ((with_reducible refine gate_callee (f := 20) rfl ?_); refine goesL_ (some 8) rfl rfl Tryz.func20 kr rfl #[.string a0, .string (⟨#[32]⟩ : ByteArray), .int .i64 0] rfl ga ?_; (with_reducible refine (lodestarref04_find.calls k a0 (⟨#[32]⟩ : ByteArray) 0 t213 _ A2.out).mono ?_); rintro e w' ⟨rfl, ⟨nd, rfl⟩⟩; refine ⟨_, rfl, ?_⟩; (try (rw [drewN_self w34]; generalize hq_ : World.drewN w34 _ = w34; have n0_ : Aside0 (w34.heap[gb212]? = some (.cells #[.string (⟨#[]⟩ : ByteArray), .string (⟨#[]⟩ : ByteArray), .string (⟨#[]⟩ : ByteArray)] 23 (0, 0))) := ⟨by rw [← hq_]; exact (pk BK212.out)⟩; have n1_ : Aside0 (Below w.heap.size w w34) := ⟨by rw [← hq_]; exact (bl HB.out)⟩; clear BK212 HB hq_; have BK212 := n0_; have HB := n1_; clear n0_ n1_))) | ((with_reducible refine gate_callee (f := 20) rfl ?_); refine goesL_ (some 15) rfl rfl Tryz.func20 kr rfl #[.string a0, .string (⟨#[32]⟩ : ByteArray), .int .i64 ji12] rfl (by (try simp only [List.map_toArray, List.map_cons, List.map_nil]); first | done | (simp only [hji12]; rfl) | rfl | (simp only [List.length_drop, List.length_take]; rfl) | (go_simp; done) | (go_simp; rfl) | (go_simp; simp only [IntKind.wrap_u64]; omega) | (go_simp; simp only [IntKind.wrap_u32]; omega) | (go_simp; simp only [IntKind.wrap_u8]; omega) | (go_simp; unfold wrap64; omega)) ?_; (with_reducible refine (lodestarref04_find.calls k a0 (⟨#[32]⟩ : ByteArray) ji12 t214 _ A6.out).mono ?_); rintro e w' ⟨rfl, ⟨nd, rfl⟩⟩; refine ⟨_, rfl, ?_⟩; (try (rw [drewN_self w34]; generalize hq_ : World.drewN w34 _ = w34; have n0_ : Aside0 (w34.heap[gb212]? = some (.cells #[.string (⟨#[]⟩ : ByteArray), .string (⟨#[]⟩ : ByteArray), .string (⟨#[]⟩ : ByteArray)] 23 (0, 0))) := ⟨by rw [← hq_]; exact (pk BK212.out)⟩; have n1_ : Aside0 (Below w.heap.size w w34) := ⟨by rw [← hq_]; exact (bl HB.out)⟩; clear BK212 HB hq_; have BK212 := n0_; have HB := n1_; clear n0_ n1_))))
          replace BK212 := Aside0.mk (blk_drew BK212.out)
          replace HB := Aside0.mk (below_drew1 HB.out)
          refine start_ (n := 11) (S := fun w' => True) (ds := []) #[false, false, false, false, false, false, false, false, false, false, false] kr rfl rfl trivial (fun hHeld => ?_); refine with_tabW lodestarref04_first.tab7 lodestarref04_first.bits7 (fun HT_ HW_ => ?_)
          generalize w34.drew = w35 at BK212 HB hHeld ⊢
          refine pure_ (i := 0) (N := some 19) (v := ?_) (a' := ?_) #[true, false, false, false, false, false, false, false, false, false, false] rfl rfl (any_of HT_.out kr) (fun _ _ _ h => h) (Or.inl ⟨by rfl, ?_⟩) ?_ ?_
          rotate_left
          ·exact wl
          rotate_left
          ·exact ap
          refine pure_ (i := 1) (N := some 20) (v := ?_) (a' := ?_) #[true, true, false, false, false, false, false, false, false, false, false] rfl rfl (any_of HT_.out kr) (fun _ _ _ h => h) (Or.inl ⟨by rfl, ?_⟩) ?_ ?_
          rotate_left
          ·exact wl
          rotate_left
          ·exact ap
          refine pure_ (i := 2) (N := some 21) (v := ?_) (a' := ?_) #[true, true, true, false, false, false, false, false, false, false, false] rfl rfl (any_of HT_.out kr) (fun _ _ _ h => h) (Or.inl ⟨by rfl, ?_⟩) ?_ ?_
          rotate_left
          ·exact wl
          rotate_left
          ·exact ap
          refine pure_ (i := 3) (N := some 22) (v := ?_) (a' := ?_) #[true, true, true, true, false, false, false, false, false, false, false] rfl rfl (any_of HT_.out kr) (fun _ _ _ h => h) (Or.inl ⟨by rfl, ?_⟩) ?_ ?_
          rotate_left
          ·exact wl
          rotate_left
          ·exact ap
          refine pure_ (i := 4) (N := some 23) (v := ?_) (a' := ?_) #[true, true, true, true, true, false, false, false, false, false, false] rfl rfl (any_of HT_.out kr) (fun _ _ _ h => h) (Or.inl ⟨by rfl, ?_⟩) ?_ ?_
          rotate_left
          ·exact wl
          rotate_left
          ·exact ap
          refine pure_ (i := 5) (N := some 24) (v := ?_) (a' := ?_) #[true, true, true, true, true, true, false, false, false, false, false] rfl rfl (any_of HT_.out kr) (fun _ _ _ h => h) (Or.inl ⟨by rfl, ?_⟩) ?_ ?_
          rotate_left
          ·exact wl
          rotate_left
          ·exact ap
          refine pure_ (i := 6) (N := some 25) (v := ?_) (a' := ?_) #[true, true, true, true, true, true, true, false, false, false, false] rfl rfl (any_of HT_.out kr) (fun _ _ _ h => h) (Or.inl ⟨by rfl, ?_⟩) ?_ ?_
          rotate_left
          ·exact wl
          rotate_left
          ·exact ap
          refine pure_ (i := 7) (N := some 26) (v := ?_) (a' := ?_) #[true, true, true, true, true, true, true, true, false, false, false] rfl rfl (any_of HT_.out kr) (fun _ _ _ h => h) (Or.inl ⟨by rfl, ?_⟩) ?_ ?_
          rotate_left
          ·exact wl
          rotate_left
          ·exact ap
          refine pure_ (i := 8) (N := some 27) (v := ?_) (a' := ?_) #[true, true, true, true, true, true, true, true, true, false, false] rfl rfl (any_of HT_.out kr) (fun _ _ _ h => h) (Or.inl ⟨by rfl, ?_⟩) ?_ ?_
          rotate_left
          ·exact wl
          rotate_left
          ·exact ap
          refine one_ (i := 9) (N := some 6) #[true, true, true, true, true, true, true, true, true, true, false] rfl rfl (one_of HT_.out kr) (by decide) (fun K hK => ?_)
          refine box_step ?hg (N := 6) ?hd (cs := #[.string (⟨#[]⟩ : ByteArray), .string (⟨#[]⟩ : ByteArray), .string (⟨#[]⟩ : ByteArray)]) (t := 23) ?hr ?_; (case hd => rfl); (case hg => rfl); (case hr => first | (go_simp; done) | (go_simp; rfl))
          intro gb215 hg w36 hbox hb
          have BK215 := Aside0.mk (hbox)
          have GW215 := Aside0.mk (gs (w := w) hg (bl HB.out))
          have GE215 := Aside0.mk (gs (w := w) hg (bl HB.out))
          replace HB := Aside0.mk (below_step (bl HB.out) hb)
          have NB212_215 := Aside0.mk ((gl (g := gb212) hg (pk BK212.out)))
          have NB215_212 := Aside0.mk ((gm (g := gb212) hg (pk BK212.out)))
          replace BK212 := Aside0.mk (blk_below (pk BK212.out) hb)
          clear hb hbox hg
          refine hK.out _ _ trivial (fun hHeld => ?_)
          clear hK K
          refine norm_ (a' := ?_) ?_ ?_
          rotate_left
          ·show Act.put _ (some 6) _ = _
           exact ap
          refine one_ (i := 10) (N := none) #[true, true, true, true, true, true, true, true, true, true, true] rfl rfl (one_of HT_.out kr) (by decide) (fun K hK => ?_)
          have hs37 : w36.cell? ⟨gb215, 0, none⟩ = some (.string (⟨#[]⟩ : ByteArray)) := (blk_cell BK215.out 0).trans rfl
          have hfs37 := blk_frozen BK215.out 0
          have hns37_0 := NB212_215.out
          have hms37_0 := NB215_212.out
          have hs38 : w36.cell? ⟨gb215, 1, none⟩ = some (.string (⟨#[]⟩ : ByteArray)) := (blk_cell BK215.out 1).trans rfl
          have hfs38 := blk_frozen BK215.out 1
          have hns38_0 := NB212_215.out
          have hms38_0 := NB215_212.out
          have hs39 : w36.cell? ⟨gb215, 2, none⟩ = some (.string (⟨#[]⟩ : ByteArray)) := (blk_cell BK215.out 2).trans rfl
          have hfs39 := blk_frozen BK215.out 2
          have hns39_0 := NB212_215.out
          have hms39_0 := NB215_212.out
          refine skip_ (w1 := ?_) (by rfl) rfl ?_ ?_
          rotate_left
          ·go_simp
           rfl
          refine hK.out _ _ trivial (fun hHeld => ?_)
          clear hK K
          refine done_ (done_of HT_.out kr) ?_
          try go_wp2
          have n0_ : Aside0 ((((w36.setCell ⟨gb215, 0, none⟩ (.string (a0.extract 0 (t213 : Int).toNat))).setCell ⟨gb215, 1, none⟩ (.string (a0.extract ((ji12) : Int).toNat (t214 : Int).toNat))).setCell ⟨gb215, 2, none⟩ (.string (⟨#[]⟩ : ByteArray))).heap[gb212]? = some (.cells #[.string (⟨#[]⟩ : ByteArray), .string (⟨#[]⟩ : ByteArray), .string (⟨#[]⟩ : ByteArray)] 23 (0, 0))) := ⟨by refine pk ?_; refine blk_far ?_ NB212_215.out _; refine pk ?_; refine blk_far ?_ NB212_215.out _; refine pk ?_; refine blk_far ?_ NB212_215.out _; exact pk BK212.out⟩
          have n1_ : Aside0 ((((w36.setCell ⟨gb215, 0, none⟩ (.string (a0.extract 0 (t213 : Int).toNat))).setCell ⟨gb215, 1, none⟩ (.string (a0.extract ((ji12) : Int).toNat (t214 : Int).toNat))).setCell ⟨gb215, 2, none⟩ (.string (⟨#[]⟩ : ByteArray))).heap[gb215]? = some (.cells #[.string (a0.extract 0 (t213 : Int).toNat), .string (a0.extract ((ji12) : Int).toNat (t214 : Int).toNat), .string (⟨#[]⟩ : ByteArray)] 23 (0, 0))) := ⟨by refine pk ?_; refine blk_put (cs := #[.string (a0.extract 0 (t213 : Int).toNat), .string (a0.extract ((ji12) : Int).toNat (t214 : Int).toNat), .string (⟨#[]⟩ : ByteArray)]) ?_ 2 _ rfl; refine pk ?_; refine blk_put (cs := #[.string (a0.extract 0 (t213 : Int).toNat), .string (⟨#[]⟩ : ByteArray), .string (⟨#[]⟩ : ByteArray)]) ?_ 1 _ rfl; refine pk ?_; refine blk_put (cs := #[.string (⟨#[]⟩ : ByteArray), .string (⟨#[]⟩ : ByteArray), .string (⟨#[]⟩ : ByteArray)]) ?_ 0 _ rfl; exact pk BK215.out⟩
          have n2_ : Aside0 (Below w.heap.size w (((w36.setCell ⟨gb215, 0, none⟩ (.string (a0.extract 0 (t213 : Int).toNat))).setCell ⟨gb215, 1, none⟩ (.string (a0.extract ((ji12) : Int).toNat (t214 : Int).toNat))).setCell ⟨gb215, 2, none⟩ (.string (⟨#[]⟩ : ByteArray)))) := ⟨bl HB.out⟩
          (try clear BK212)
          (try clear BK215)
          (try clear HB)
          generalize (((w36.setCell ⟨gb215, 0, none⟩ (.string (a0.extract 0 (t213 : Int).toNat))).setCell ⟨gb215, 1, none⟩ (.string (a0.extract ((ji12) : Int).toNat (t214 : Int).toNat))).setCell ⟨gb215, 2, none⟩ (.string (⟨#[]⟩ : ByteArray))) = w40 at n0_ n1_ n2_ ⊢
          have BK212 := n0_
          have BK215 := n1_
          have HB := n2_
          clear n0_ n1_ n2_
          replace BK212 := Aside0.mk (blk_drew BK212.out)
          replace BK215 := Aside0.mk (blk_drew BK215.out)
          replace HB := Aside0.mk (below_drew1 HB.out)
          refine start_ (n := 18) (S := fun w' => w'.cell? ⟨gb215, 0, none⟩ = some (.string (a0.extract 0 (t213 : Int).toNat)) ∧ w'.cell? ⟨gb215, 1, none⟩ = some (.string (a0.extract ((ji12) : Int).toNat (t214 : Int).toNat)) ∧ w'.cell? ⟨gb215, 2, none⟩ = some (.string (⟨#[]⟩ : ByteArray))) (ds := []) #[false, false, false, false, false, false, false, false, false, false, false, false, false, false, false, false, false, false] kr rfl rfl ⟨(blk_cell BK215.out 0).trans rfl, (blk_cell BK215.out 1).trans rfl, (blk_cell BK215.out 2).trans rfl⟩ (fun hHeld => ?_); refine with_tabW lodestarref04_first.tab8 lodestarref04_first.bits8 (fun HT_ HW_ => ?_)
          generalize w40.drew = w41 at BK212 BK215 HB hHeld ⊢
          refine pure_ (i := 1) (N := some 29) (v := ?_) (a' := ?_) #[false, true, false, false, false, false, false, false, false, false, false, false, false, false, false, false, false, false] rfl rfl (any_of HT_.out kr) (fun _ _ _ h => h) (Or.inl ⟨by rfl, ?_⟩) ?_ ?_
          rotate_left
          ·exact wl
          rotate_left
          ·exact ap
          refine take_ (i := 0) (N := some 28) (v := ?_) (a' := ?_) #[true, true, false, false, false, false, false, false, false, false, false, false, false, false, false, false, false, false] rfl rfl (take_ofW HT_.out HW_.out kr) (fun _ _ _ h => h) (Or.inl ⟨by rfl, ?_⟩) hHeld ?_ ?_
          rotate_left
          ·rintro w' ⟨s0, s1, s2⟩
           go_simp
           exact rl
          rotate_left
          ·exact ap
          refine take_ (i := 2) (N := some 30) (v := ?_) (a' := ?_) #[true, true, true, false, false, false, false, false, false, false, false, false, false, false, false, false, false, false] rfl rfl (take_ofW HT_.out HW_.out kr) (fun _ _ _ h => h) (Or.inl ⟨by rfl, ?_⟩) hHeld ?_ ?_
          rotate_left
          ·rintro w' ⟨s0, s1, s2⟩
           go_simp
           exact rl
          rotate_left
          ·exact ap
          refine one_ (i := 3) (N := some 31) #[true, true, true, true, false, false, false, false, false, false, false, false, false, false, false, false, false, false] rfl rfl (one_of HT_.out kr) (by decide) (fun K hK => ?_)
          refine goes_ Tryz.func26 kr rfl #[.string (a0.extract 0 (t213 : Int).toNat)] (by rfl) rfl rfl ga ?_
          with_reducible refine (lodestarref04_method.calls k (a0.extract 0 (t213 : Int).toNat) true _ A16.out).mono ?_
          rintro e w' ⟨rfl, ⟨nd, rfl⟩⟩
          refine ⟨_, rfl, ?_⟩
          refine hK.out _ _ ⟨(blk_cell BK215.out 0).trans rfl, (blk_cell BK215.out 1).trans rfl, (blk_cell BK215.out 2).trans rfl⟩ (fun hHeld => ?_)
          clear hK K
          refine norm_ (a' := ?_) ?_ ?_
          rotate_left
          ·show Act.put _ (some 31) _ = _
           exact ap
          refine pure_ (i := 4) (N := some 32) (v := ?_) (a' := ?_) #[true, true, true, true, true, false, false, false, false, false, false, false, false, false, false, false, false, false] rfl rfl (any_of HT_.out kr) (fun _ _ _ h => h) (Or.inl ⟨by rfl, ?_⟩) ?_ ?_
          rotate_left
          ·exact wl
          rotate_left
          ·exact ap
          refine pure_ (i := 5) (N := some 33) (v := ?_) (a' := ?_) #[true, true, true, true, true, true, false, false, false, false, false, false, false, false, false, false, false, false] rfl rfl (any_of HT_.out kr) (fun _ _ _ h => h) (Or.inl ⟨by rfl, ?_⟩) ?_ ?_
          rotate_left
          ·exact wl
          rotate_left
          ·exact ap
          refine take_ (i := 6) (N := some 34) (v := ?_) (a' := ?_) #[true, true, true, true, true, true, true, false, false, false, false, false, false, false, false, false, false, false] rfl rfl (take_ofW HT_.out HW_.out kr) (fun _ _ _ h => h) (Or.inl ⟨by rfl, ?_⟩) hHeld ?_ ?_
          rotate_left
          ·rintro w' ⟨s0, s1, s2⟩
           go_simp
           exact rl
          rotate_left
          ·exact ap
          refine one_ (i := 7) (N := some 35) #[true, true, true, true, true, true, true, true, false, false, false, false, false, false, false, false, false, false] rfl rfl (one_of HT_.out kr) (by decide) (fun K hK => ?_)
          refine goes_ Tryz.func27 kr rfl #[.string (a0.extract ((ji12) : Int).toNat (t214 : Int).toNat)] (by rfl) rfl rfl (by (try simp only [List.map_toArray, List.map_cons, List.map_nil]); first | done | (simp only [hji12]; rfl) | rfl | (simp only [List.length_drop, List.length_take]; rfl) | (go_simp; done) | (go_simp; rfl) | (go_simp; simp only [IntKind.wrap_u64]; omega) | (go_simp; simp only [IntKind.wrap_u32]; omega) | (go_simp; simp only [IntKind.wrap_u8]; omega) | (go_simp; unfold wrap64; omega)) ?_
          with_reducible refine (lodestarref04_path.calls k (a0.extract ((ji12) : Int).toNat (t214 : Int).toNat) false _ A18.out).mono ?_
          rintro e w' ⟨rfl, ⟨nd, rfl⟩⟩
          refine ⟨_, rfl, ?_⟩
          refine hK.out _ _ ⟨(blk_cell BK215.out 0).trans rfl, (blk_cell BK215.out 1).trans rfl, (blk_cell BK215.out 2).trans rfl⟩ (fun hHeld => ?_)
          clear hK K
          refine norm_ (a' := ?_) ?_ ?_
          rotate_left
          ·show Act.put _ (some 35) _ = _
           exact ap
          refine pure_ (i := 8) (N := some 36) (v := ?_) (a' := ?_) #[true, true, true, true, true, true, true, true, true, false, false, false, false, false, false, false, false, false] rfl rfl (any_of HT_.out kr) (fun _ _ _ h => h) (Or.inl ⟨by rfl, ?_⟩) ?_ ?_
          rotate_left
          ·exact wl
          rotate_left
          ·exact ap
          refine pure_ (i := 9) (N := some 37) (v := ?_) (a' := ?_) #[true, true, true, true, true, true, true, true, true, true, false, false, false, false, false, false, false, false] rfl rfl (any_of HT_.out kr) (fun _ _ _ h => h) (Or.inl ⟨by rfl, ?_⟩) ?_ ?_
          rotate_left
          ·exact wl
          rotate_left
          ·exact ap
          refine pure_ (i := 10) (N := some 38) (v := undef) (a' := ?_) #[true, true, true, true, true, true, true, true, true, true, true, false, false, false, false, false, false, false] rfl rfl (any_of HT_.out kr) (fun _ _ _ h => h) (Or.inr ⟨by rfl, rfl⟩) ?_ ?_
          rotate_left
          ·exact ap
          refine pure_ (i := 11) (N := some 39) (v := undef) (a' := ?_) #[true, true, true, true, true, true, true, true, true, true, true, true, false, false, false, false, false, false] rfl rfl (any_of HT_.out kr) (fun _ _ _ h => h) (Or.inr ⟨by rfl, rfl⟩) ?_ ?_
          rotate_left
          ·exact ap
          refine pure_ (i := 12) (N := some 40) (v := undef) (a' := ?_) #[true, true, true, true, true, true, true, true, true, true, true, true, true, false, false, false, false, false] rfl rfl (any_of HT_.out kr) (fun _ _ _ h => h) (Or.inr ⟨by rfl, rfl⟩) ?_ ?_
          rotate_left
          ·exact ap
          refine pure_ (i := 13) (N := some 41) (v := undef) (a' := ?_) #[true, true, true, true, true, true, true, true, true, true, true, true, true, true, false, false, false, false] rfl rfl (any_of HT_.out kr) (fun _ _ _ h => h) (Or.inr ⟨by rfl, rfl⟩) ?_ ?_
          rotate_left
          ·exact ap
          refine pure_ (i := 14) (N := some 42) (v := undef) (a' := ?_) #[true, true, true, true, true, true, true, true, true, true, true, true, true, true, true, false, false, false] rfl rfl (any_of HT_.out kr) (fun _ _ _ h => h) (Or.inr ⟨by rfl, rfl⟩) ?_ ?_
          rotate_left
          ·exact ap
          refine pure_ (i := 15) (N := some 43) (v := ?_) (a' := ?_) #[true, true, true, true, true, true, true, true, true, true, true, true, true, true, true, true, false, false] rfl rfl (any_of HT_.out kr) (fun _ _ _ h => h) (Or.inl ⟨by rfl, ?_⟩) ?_ ?_
          rotate_left
          ·exact wl
          rotate_left
          ·exact ap
          refine one_ (i := 16) (N := none) #[true, true, true, true, true, true, true, true, true, true, true, true, true, true, true, true, true, false] rfl rfl (one_of HT_.out kr) (by decide) (fun K hK => ?_)
          have hs42 : w41.cell? ⟨gb212, 0, none⟩ = some (.string (⟨#[]⟩ : ByteArray)) := (blk_cell BK212.out 0).trans rfl
          have hfs42 := blk_frozen BK212.out 0
          have hns42_1 := NB215_212.out
          have hms42_1 := NB212_215.out
          have hs43 : w41.cell? ⟨gb212, 1, none⟩ = some (.string (⟨#[]⟩ : ByteArray)) := (blk_cell BK212.out 1).trans rfl
          have hfs43 := blk_frozen BK212.out 1
          have hns43_1 := NB215_212.out
          have hms43_1 := NB212_215.out
          have hs44 : w41.cell? ⟨gb212, 2, none⟩ = some (.string (⟨#[]⟩ : ByteArray)) := (blk_cell BK212.out 2).trans rfl
          have hfs44 := blk_frozen BK212.out 2
          have hns44_1 := NB215_212.out
          have hms44_1 := NB212_215.out
          refine skip_ (w1 := ?_) (by rfl) rfl ?_ ?_
          rotate_left
          ·go_simp
           rfl
          refine hK.out _ _ ⟨((cell_far (p := ⟨gb212, _, none⟩) NB215_212.out _).trans (((cell_far (p := ⟨gb212, _, none⟩) NB215_212.out _).trans (((cell_far (p := ⟨gb212, _, none⟩) NB215_212.out _).trans (hHeld.1)))))), ((cell_far (p := ⟨gb212, _, none⟩) NB215_212.out _).trans (((cell_far (p := ⟨gb212, _, none⟩) NB215_212.out _).trans (((cell_far (p := ⟨gb212, _, none⟩) NB215_212.out _).trans (hHeld.2.1)))))), ((cell_far (p := ⟨gb212, _, none⟩) NB215_212.out _).trans (((cell_far (p := ⟨gb212, _, none⟩) NB215_212.out _).trans (((cell_far (p := ⟨gb212, _, none⟩) NB215_212.out _).trans (hHeld.2.2))))))⟩ (fun hHeld => ?_)
          clear hK K
          refine pure_ (i := 17) (N := some 3) (v := ?_) (a' := ?_) #[true, true, true, true, true, true, true, true, true, true, true, true, true, true, true, true, true, true] rfl rfl (any_of HT_.out kr) (fun _ _ _ h => h) (Or.inl ⟨by rfl, ?_⟩) ?_ ?_
          rotate_left
          ·exact wl
          rotate_left
          ·exact ap
          refine done_ (done_of HT_.out kr) ?_
          try go_wp2
          refine bodyPost_ret (results_ct rfl _ _ gb212 23 #[.string (a0.extract 0 (t213 : Int).toNat), .string (a0.extract ((ji12) : Int).toNat (t214 : Int).toNat), .string (⟨#[]⟩ : ByteArray)] (0, 0) _ rfl (by refine pk ?_; refine blk_put (cs := #[.string (a0.extract 0 (t213 : Int).toNat), .string (a0.extract ((ji12) : Int).toNat (t214 : Int).toNat), .string (⟨#[]⟩ : ByteArray)]) ?_ 2 _ rfl; refine pk ?_; refine blk_put (cs := #[.string (a0.extract 0 (t213 : Int).toNat), .string (⟨#[]⟩ : ByteArray), .string (⟨#[]⟩ : ByteArray)]) ?_ 1 _ rfl; refine pk ?_; refine blk_put (cs := #[.string (⟨#[]⟩ : ByteArray), .string (⟨#[]⟩ : ByteArray), .string (⟨#[]⟩ : ByteArray)]) ?_ 0 _ rfl; exact pk BK212.out) Tryz.underlying23 rfl kr) rfl ?_
          exact ⟨by first | rfl | (simp [errW_none, errW_some] <;> rfl) | (simp only [← hji12]; first | rfl | (simp [errW_none, errW_some] <;> rfl)) | (simp [*, errW_none, errW_some] <;> rfl), bl HB.out⟩
        ·replace c17 := Bool.eq_false_iff.mpr c17
         subst c17
         have H1 : (some (a0.extract 0 (t213 : Int).toNat, a0.extract ((ji12) : Int).toNat (t214 : Int).toNat, (⟨#[]⟩ : ByteArray), false)) = some (r1, r2, r3, r4) := by rw [if_neg (show ¬ (false = true) by decide)] at H; exact H
         clear H
         have H := H1
         clear H1
         simp only [Option.some.injEq, Prod.mk.injEq] at H
         obtain ⟨rfl, rfl, rfl, rfl⟩ := H
         go_enter Tryz.func21, Tryz.ntmps21
         try go_wp2_with (first | ((with_reducible refine gate_dst (N := 2) rfl ?_); refine box_event ?hg (N := 2) ?hd (cs := #[.string (⟨#[]⟩ : ByteArray), .string (⟨#[]⟩ : ByteArray), .string (⟨#[]⟩ : ByteArray)]) (t := 23) ?hr ?_; (case hd => rfl); (case hg => rfl); (case hr => first | (go_simp; done) | (go_simp; rfl)); intro gb212 hg w45 hbox hb; have BK212 := Aside0.mk (hbox); have GW212 := Aside0.mk (gs (w := w) hg (bl HB.out)); have GE212 := Aside0.mk (gs (w := w) hg (bl HB.out)); replace HB := Aside0.mk (below_step (bl HB.out) hb); clear hb hbox hg) | ((with_reducible refine gate_callee (f := 20) rfl ?_); refine goesL_ (some 8) rfl rfl Tryz.func20 kr rfl #[.string a0, .string (⟨#[32]⟩ : ByteArray), .int .i64 0] rfl ga ?_; (with_reducible refine (lodestarref04_find.calls k a0 (⟨#[32]⟩ : ByteArray) 0 t213 _ A2.out).mono ?_); rintro e w' ⟨rfl, ⟨nd, rfl⟩⟩; refine ⟨_, rfl, ?_⟩; (try (rw [drewN_self w45]; generalize hq_ : World.drewN w45 _ = w45; have n0_ : Aside0 (w45.heap[gb212]? = some (.cells #[.string (⟨#[]⟩ : ByteArray), .string (⟨#[]⟩ : ByteArray), .string (⟨#[]⟩ : ByteArray)] 23 (0, 0))) := ⟨by rw [← hq_]; exact (pk BK212.out)⟩; have n1_ : Aside0 (Below w.heap.size w w45) := ⟨by rw [← hq_]; exact (bl HB.out)⟩; clear BK212 HB hq_; have BK212 := n0_; have HB := n1_; clear n0_ n1_))) | ((with_reducible refine gate_callee (f := 20) rfl ?_); refine goesL_ (some 15) rfl rfl Tryz.func20 kr rfl #[.string a0, .string (⟨#[32]⟩ : ByteArray), .int .i64 ji12] rfl (by (try simp only [List.map_toArray, List.map_cons, List.map_nil]); first | done | (simp only [hji12]; rfl) | rfl | (simp only [List.length_drop, List.length_take]; rfl) | (go_simp; done) | (go_simp; rfl) | (go_simp; simp only [IntKind.wrap_u64]; omega) | (go_simp; simp only [IntKind.wrap_u32]; omega) | (go_simp; simp only [IntKind.wrap_u8]; omega) | (go_simp; unfold wrap64; omega)) ?_; (with_reducible refine (lodestarref04_find.calls k a0 (⟨#[32]⟩ : ByteArray) ji12 t214 _ A6.out).mono ?_); rintro e w' ⟨rfl, ⟨nd, rfl⟩⟩; refine ⟨_, rfl, ?_⟩; (try (rw [drewN_self w45]; generalize hq_ : World.drewN w45 _ = w45; have n0_ : Aside0 (w45.heap[gb212]? = some (.cells #[.string (⟨#[]⟩ : ByteArray), .string (⟨#[]⟩ : ByteArray), .string (⟨#[]⟩ : ByteArray)] 23 (0, 0))) := ⟨by rw [← hq_]; exact (pk BK212.out)⟩; have n1_ : Aside0 (Below w.heap.size w w45) := ⟨by rw [← hq_]; exact (bl HB.out)⟩; clear BK212 HB hq_; have BK212 := n0_; have HB := n1_; clear n0_ n1_))))
         replace BK212 := Aside0.mk (blk_drew BK212.out)
         replace HB := Aside0.mk (below_drew1 HB.out)
         refine start_ (n := 11) (S := fun w' => True) (ds := []) #[false, false, false, false, false, false, false, false, false, false, false] kr rfl rfl trivial (fun hHeld => ?_); refine with_tabW lodestarref04_first.tab7 lodestarref04_first.bits7 (fun HT_ HW_ => ?_)
         generalize w45.drew = w46 at BK212 HB hHeld ⊢
         refine pure_ (i := 0) (N := some 19) (v := ?_) (a' := ?_) #[true, false, false, false, false, false, false, false, false, false, false] rfl rfl (any_of HT_.out kr) (fun _ _ _ h => h) (Or.inl ⟨by rfl, ?_⟩) ?_ ?_
         rotate_left
         ·exact wl
         rotate_left
         ·exact ap
         refine pure_ (i := 1) (N := some 20) (v := ?_) (a' := ?_) #[true, true, false, false, false, false, false, false, false, false, false] rfl rfl (any_of HT_.out kr) (fun _ _ _ h => h) (Or.inl ⟨by rfl, ?_⟩) ?_ ?_
         rotate_left
         ·exact wl
         rotate_left
         ·exact ap
         refine pure_ (i := 2) (N := some 21) (v := ?_) (a' := ?_) #[true, true, true, false, false, false, false, false, false, false, false] rfl rfl (any_of HT_.out kr) (fun _ _ _ h => h) (Or.inl ⟨by rfl, ?_⟩) ?_ ?_
         rotate_left
         ·exact wl
         rotate_left
         ·exact ap
         refine pure_ (i := 3) (N := some 22) (v := ?_) (a' := ?_) #[true, true, true, true, false, false, false, false, false, false, false] rfl rfl (any_of HT_.out kr) (fun _ _ _ h => h) (Or.inl ⟨by rfl, ?_⟩) ?_ ?_
         rotate_left
         ·exact wl
         rotate_left
         ·exact ap
         refine pure_ (i := 4) (N := some 23) (v := ?_) (a' := ?_) #[true, true, true, true, true, false, false, false, false, false, false] rfl rfl (any_of HT_.out kr) (fun _ _ _ h => h) (Or.inl ⟨by rfl, ?_⟩) ?_ ?_
         rotate_left
         ·exact wl
         rotate_left
         ·exact ap
         refine pure_ (i := 5) (N := some 24) (v := ?_) (a' := ?_) #[true, true, true, true, true, true, false, false, false, false, false] rfl rfl (any_of HT_.out kr) (fun _ _ _ h => h) (Or.inl ⟨by rfl, ?_⟩) ?_ ?_
         rotate_left
         ·exact wl
         rotate_left
         ·exact ap
         refine pure_ (i := 6) (N := some 25) (v := ?_) (a' := ?_) #[true, true, true, true, true, true, true, false, false, false, false] rfl rfl (any_of HT_.out kr) (fun _ _ _ h => h) (Or.inl ⟨by rfl, ?_⟩) ?_ ?_
         rotate_left
         ·exact wl
         rotate_left
         ·exact ap
         refine pure_ (i := 7) (N := some 26) (v := ?_) (a' := ?_) #[true, true, true, true, true, true, true, true, false, false, false] rfl rfl (any_of HT_.out kr) (fun _ _ _ h => h) (Or.inl ⟨by rfl, ?_⟩) ?_ ?_
         rotate_left
         ·exact wl
         rotate_left
         ·exact ap
         refine pure_ (i := 8) (N := some 27) (v := ?_) (a' := ?_) #[true, true, true, true, true, true, true, true, true, false, false] rfl rfl (any_of HT_.out kr) (fun _ _ _ h => h) (Or.inl ⟨by rfl, ?_⟩) ?_ ?_
         rotate_left
         ·exact wl
         rotate_left
         ·exact ap
         refine one_ (i := 9) (N := some 6) #[true, true, true, true, true, true, true, true, true, true, false] rfl rfl (one_of HT_.out kr) (by decide) (fun K hK => ?_)
         refine box_step ?hg (N := 6) ?hd (cs := #[.string (⟨#[]⟩ : ByteArray), .string (⟨#[]⟩ : ByteArray), .string (⟨#[]⟩ : ByteArray)]) (t := 23) ?hr ?_; (case hd => rfl); (case hg => rfl); (case hr => first | (go_simp; done) | (go_simp; rfl))
         intro gb215 hg w47 hbox hb
         have BK215 := Aside0.mk (hbox)
         have GW215 := Aside0.mk (gs (w := w) hg (bl HB.out))
         have GE215 := Aside0.mk (gs (w := w) hg (bl HB.out))
         replace HB := Aside0.mk (below_step (bl HB.out) hb)
         have NB212_215 := Aside0.mk ((gl (g := gb212) hg (pk BK212.out)))
         have NB215_212 := Aside0.mk ((gm (g := gb212) hg (pk BK212.out)))
         replace BK212 := Aside0.mk (blk_below (pk BK212.out) hb)
         clear hb hbox hg
         refine hK.out _ _ trivial (fun hHeld => ?_)
         clear hK K
         refine norm_ (a' := ?_) ?_ ?_
         rotate_left
         ·show Act.put _ (some 6) _ = _
          exact ap
         refine one_ (i := 10) (N := none) #[true, true, true, true, true, true, true, true, true, true, true] rfl rfl (one_of HT_.out kr) (by decide) (fun K hK => ?_)
         have hs48 : w47.cell? ⟨gb215, 0, none⟩ = some (.string (⟨#[]⟩ : ByteArray)) := (blk_cell BK215.out 0).trans rfl
         have hfs48 := blk_frozen BK215.out 0
         have hns48_0 := NB212_215.out
         have hms48_0 := NB215_212.out
         have hs49 : w47.cell? ⟨gb215, 1, none⟩ = some (.string (⟨#[]⟩ : ByteArray)) := (blk_cell BK215.out 1).trans rfl
         have hfs49 := blk_frozen BK215.out 1
         have hns49_0 := NB212_215.out
         have hms49_0 := NB215_212.out
         have hs50 : w47.cell? ⟨gb215, 2, none⟩ = some (.string (⟨#[]⟩ : ByteArray)) := (blk_cell BK215.out 2).trans rfl
         have hfs50 := blk_frozen BK215.out 2
         have hns50_0 := NB212_215.out
         have hms50_0 := NB215_212.out
         refine skip_ (w1 := ?_) (by rfl) rfl ?_ ?_
         rotate_left
         ·go_simp
          rfl
         refine hK.out _ _ trivial (fun hHeld => ?_)
         clear hK K
         refine done_ (done_of HT_.out kr) ?_
         try go_wp2
         have n0_ : Aside0 ((((w47.setCell ⟨gb215, 0, none⟩ (.string (a0.extract 0 (t213 : Int).toNat))).setCell ⟨gb215, 1, none⟩ (.string (a0.extract ((ji12) : Int).toNat (t214 : Int).toNat))).setCell ⟨gb215, 2, none⟩ (.string (⟨#[]⟩ : ByteArray))).heap[gb212]? = some (.cells #[.string (⟨#[]⟩ : ByteArray), .string (⟨#[]⟩ : ByteArray), .string (⟨#[]⟩ : ByteArray)] 23 (0, 0))) := ⟨by refine pk ?_; refine blk_far ?_ NB212_215.out _; refine pk ?_; refine blk_far ?_ NB212_215.out _; refine pk ?_; refine blk_far ?_ NB212_215.out _; exact pk BK212.out⟩
         have n1_ : Aside0 ((((w47.setCell ⟨gb215, 0, none⟩ (.string (a0.extract 0 (t213 : Int).toNat))).setCell ⟨gb215, 1, none⟩ (.string (a0.extract ((ji12) : Int).toNat (t214 : Int).toNat))).setCell ⟨gb215, 2, none⟩ (.string (⟨#[]⟩ : ByteArray))).heap[gb215]? = some (.cells #[.string (a0.extract 0 (t213 : Int).toNat), .string (a0.extract ((ji12) : Int).toNat (t214 : Int).toNat), .string (⟨#[]⟩ : ByteArray)] 23 (0, 0))) := ⟨by refine pk ?_; refine blk_put (cs := #[.string (a0.extract 0 (t213 : Int).toNat), .string (a0.extract ((ji12) : Int).toNat (t214 : Int).toNat), .string (⟨#[]⟩ : ByteArray)]) ?_ 2 _ rfl; refine pk ?_; refine blk_put (cs := #[.string (a0.extract 0 (t213 : Int).toNat), .string (⟨#[]⟩ : ByteArray), .string (⟨#[]⟩ : ByteArray)]) ?_ 1 _ rfl; refine pk ?_; refine blk_put (cs := #[.string (⟨#[]⟩ : ByteArray), .string (⟨#[]⟩ : ByteArray), .string (⟨#[]⟩ : ByteArray)]) ?_ 0 _ rfl; exact pk BK215.out⟩
         have n2_ : Aside0 (Below w.heap.size w (((w47.setCell ⟨gb215, 0, none⟩ (.string (a0.extract 0 (t213 : Int).toNat))).setCell ⟨gb215, 1, none⟩ (.string (a0.extract ((ji12) : Int).toNat (t214 : Int).toNat))).setCell ⟨gb215, 2, none⟩ (.string (⟨#[]⟩ : ByteArray)))) := ⟨bl HB.out⟩
         (try clear BK212)
         (try clear BK215)
         (try clear HB)
         generalize (((w47.setCell ⟨gb215, 0, none⟩ (.string (a0.extract 0 (t213 : Int).toNat))).setCell ⟨gb215, 1, none⟩ (.string (a0.extract ((ji12) : Int).toNat (t214 : Int).toNat))).setCell ⟨gb215, 2, none⟩ (.string (⟨#[]⟩ : ByteArray))) = w51 at n0_ n1_ n2_ ⊢
         have BK212 := n0_
         have BK215 := n1_
         have HB := n2_
         clear n0_ n1_ n2_
         replace BK212 := Aside0.mk (blk_drew BK212.out)
         replace BK215 := Aside0.mk (blk_drew BK215.out)
         replace HB := Aside0.mk (below_drew1 HB.out)
         refine start_ (n := 18) (S := fun w' => w'.cell? ⟨gb215, 0, none⟩ = some (.string (a0.extract 0 (t213 : Int).toNat)) ∧ w'.cell? ⟨gb215, 1, none⟩ = some (.string (a0.extract ((ji12) : Int).toNat (t214 : Int).toNat)) ∧ w'.cell? ⟨gb215, 2, none⟩ = some (.string (⟨#[]⟩ : ByteArray))) (ds := []) #[false, false, false, false, false, false, false, false, false, false, false, false, false, false, false, false, false, false] kr rfl rfl ⟨(blk_cell BK215.out 0).trans rfl, (blk_cell BK215.out 1).trans rfl, (blk_cell BK215.out 2).trans rfl⟩ (fun hHeld => ?_); refine with_tabW lodestarref04_first.tab8 lodestarref04_first.bits8 (fun HT_ HW_ => ?_)
         generalize w51.drew = w52 at BK212 BK215 HB hHeld ⊢
         refine pure_ (i := 1) (N := some 29) (v := ?_) (a' := ?_) #[false, true, false, false, false, false, false, false, false, false, false, false, false, false, false, false, false, false] rfl rfl (any_of HT_.out kr) (fun _ _ _ h => h) (Or.inl ⟨by rfl, ?_⟩) ?_ ?_
         rotate_left
         ·exact wl
         rotate_left
         ·exact ap
         refine take_ (i := 0) (N := some 28) (v := ?_) (a' := ?_) #[true, true, false, false, false, false, false, false, false, false, false, false, false, false, false, false, false, false] rfl rfl (take_ofW HT_.out HW_.out kr) (fun _ _ _ h => h) (Or.inl ⟨by rfl, ?_⟩) hHeld ?_ ?_
         rotate_left
         ·rintro w' ⟨s0, s1, s2⟩
          go_simp
          exact rl
         rotate_left
         ·exact ap
         refine take_ (i := 2) (N := some 30) (v := ?_) (a' := ?_) #[true, true, true, false, false, false, false, false, false, false, false, false, false, false, false, false, false, false] rfl rfl (take_ofW HT_.out HW_.out kr) (fun _ _ _ h => h) (Or.inl ⟨by rfl, ?_⟩) hHeld ?_ ?_
         rotate_left
         ·rintro w' ⟨s0, s1, s2⟩
          go_simp
          exact rl
         rotate_left
         ·exact ap
         refine one_ (i := 3) (N := some 31) #[true, true, true, true, false, false, false, false, false, false, false, false, false, false, false, false, false, false] rfl rfl (one_of HT_.out kr) (by decide) (fun K hK => ?_)
         refine goes_ Tryz.func26 kr rfl #[.string (a0.extract 0 (t213 : Int).toNat)] (by rfl) rfl rfl ga ?_
         with_reducible refine (lodestarref04_method.calls k (a0.extract 0 (t213 : Int).toNat) false _ A16.out).mono ?_
         rintro e w' ⟨rfl, ⟨nd, rfl⟩⟩
         refine ⟨_, rfl, ?_⟩
         refine hK.out _ _ ⟨(blk_cell BK215.out 0).trans rfl, (blk_cell BK215.out 1).trans rfl, (blk_cell BK215.out 2).trans rfl⟩ (fun hHeld => ?_)
         clear hK K
         refine norm_ (a' := ?_) ?_ ?_
         rotate_left
         ·show Act.put _ (some 31) _ = _
          exact ap
         refine pure_ (i := 4) (N := some 32) (v := ?_) (a' := ?_) #[true, true, true, true, true, false, false, false, false, false, false, false, false, false, false, false, false, false] rfl rfl (any_of HT_.out kr) (fun _ _ _ h => h) (Or.inl ⟨by rfl, ?_⟩) ?_ ?_
         rotate_left
         ·exact wl
         rotate_left
         ·exact ap
         refine pure_ (i := 5) (N := some 33) (v := undef) (a' := ?_) #[true, true, true, true, true, true, false, false, false, false, false, false, false, false, false, false, false, false] rfl rfl (any_of HT_.out kr) (fun _ _ _ h => h) (Or.inr ⟨by rfl, rfl⟩) ?_ ?_
         rotate_left
         ·exact ap
         refine pure_ (i := 6) (N := some 34) (v := undef) (a' := ?_) #[true, true, true, true, true, true, true, false, false, false, false, false, false, false, false, false, false, false] rfl rfl (any_of HT_.out kr) (fun _ _ _ h => h) (Or.inr ⟨by rfl, rfl⟩) ?_ ?_
         rotate_left
         ·exact ap
         refine pure_ (i := 7) (N := some 35) (v := undef) (a' := ?_) #[true, true, true, true, true, true, true, true, false, false, false, false, false, false, false, false, false, false] rfl rfl (any_of HT_.out kr) (fun _ _ _ h => h) (Or.inr ⟨by rfl, rfl⟩) ?_ ?_
         rotate_left
         ·exact ap
         refine pure_ (i := 8) (N := some 36) (v := ?_) (a' := ?_) #[true, true, true, true, true, true, true, true, true, false, false, false, false, false, false, false, false, false] rfl rfl (any_of HT_.out kr) (fun _ _ _ h => h) (Or.inl ⟨by rfl, ?_⟩) ?_ ?_
         rotate_left
         ·exact wl
         rotate_left
         ·exact ap
         refine pure_ (i := 9) (N := some 37) (v := ?_) (a' := ?_) #[true, true, true, true, true, true, true, true, true, true, false, false, false, false, false, false, false, false] rfl rfl (any_of HT_.out kr) (fun _ _ _ h => h) (Or.inl ⟨by rfl, ?_⟩) ?_ ?_
         rotate_left
         ·exact wl
         rotate_left
         ·exact ap
         refine pure_ (i := 10) (N := some 38) (v := undef) (a' := ?_) #[true, true, true, true, true, true, true, true, true, true, true, false, false, false, false, false, false, false] rfl rfl (any_of HT_.out kr) (fun _ _ _ h => h) (Or.inr ⟨by rfl, rfl⟩) ?_ ?_
         rotate_left
         ·exact ap
         refine pure_ (i := 11) (N := some 39) (v := undef) (a' := ?_) #[true, true, true, true, true, true, true, true, true, true, true, true, false, false, false, false, false, false] rfl rfl (any_of HT_.out kr) (fun _ _ _ h => h) (Or.inr ⟨by rfl, rfl⟩) ?_ ?_
         rotate_left
         ·exact ap
         refine pure_ (i := 12) (N := some 40) (v := undef) (a' := ?_) #[true, true, true, true, true, true, true, true, true, true, true, true, true, false, false, false, false, false] rfl rfl (any_of HT_.out kr) (fun _ _ _ h => h) (Or.inr ⟨by rfl, rfl⟩) ?_ ?_
         rotate_left
         ·exact ap
         refine pure_ (i := 13) (N := some 41) (v := undef) (a' := ?_) #[true, true, true, true, true, true, true, true, true, true, true, true, true, true, false, false, false, false] rfl rfl (any_of HT_.out kr) (fun _ _ _ h => h) (Or.inr ⟨by rfl, rfl⟩) ?_ ?_
         rotate_left
         ·exact ap
         refine pure_ (i := 14) (N := some 42) (v := undef) (a' := ?_) #[true, true, true, true, true, true, true, true, true, true, true, true, true, true, true, false, false, false] rfl rfl (any_of HT_.out kr) (fun _ _ _ h => h) (Or.inr ⟨by rfl, rfl⟩) ?_ ?_
         rotate_left
         ·exact ap
         refine pure_ (i := 15) (N := some 43) (v := ?_) (a' := ?_) #[true, true, true, true, true, true, true, true, true, true, true, true, true, true, true, true, false, false] rfl rfl (any_of HT_.out kr) (fun _ _ _ h => h) (Or.inl ⟨by rfl, ?_⟩) ?_ ?_
         rotate_left
         ·exact wl
         rotate_left
         ·exact ap
         refine one_ (i := 16) (N := none) #[true, true, true, true, true, true, true, true, true, true, true, true, true, true, true, true, true, false] rfl rfl (one_of HT_.out kr) (by decide) (fun K hK => ?_)
         have hs53 : w52.cell? ⟨gb212, 0, none⟩ = some (.string (⟨#[]⟩ : ByteArray)) := (blk_cell BK212.out 0).trans rfl
         have hfs53 := blk_frozen BK212.out 0
         have hns53_1 := NB215_212.out
         have hms53_1 := NB212_215.out
         have hs54 : w52.cell? ⟨gb212, 1, none⟩ = some (.string (⟨#[]⟩ : ByteArray)) := (blk_cell BK212.out 1).trans rfl
         have hfs54 := blk_frozen BK212.out 1
         have hns54_1 := NB215_212.out
         have hms54_1 := NB212_215.out
         have hs55 : w52.cell? ⟨gb212, 2, none⟩ = some (.string (⟨#[]⟩ : ByteArray)) := (blk_cell BK212.out 2).trans rfl
         have hfs55 := blk_frozen BK212.out 2
         have hns55_1 := NB215_212.out
         have hms55_1 := NB212_215.out
         refine skip_ (w1 := ?_) (by rfl) rfl ?_ ?_
         rotate_left
         ·go_simp
          rfl
         refine hK.out _ _ ⟨((cell_far (p := ⟨gb212, _, none⟩) NB215_212.out _).trans (((cell_far (p := ⟨gb212, _, none⟩) NB215_212.out _).trans (((cell_far (p := ⟨gb212, _, none⟩) NB215_212.out _).trans (hHeld.1)))))), ((cell_far (p := ⟨gb212, _, none⟩) NB215_212.out _).trans (((cell_far (p := ⟨gb212, _, none⟩) NB215_212.out _).trans (((cell_far (p := ⟨gb212, _, none⟩) NB215_212.out _).trans (hHeld.2.1)))))), ((cell_far (p := ⟨gb212, _, none⟩) NB215_212.out _).trans (((cell_far (p := ⟨gb212, _, none⟩) NB215_212.out _).trans (((cell_far (p := ⟨gb212, _, none⟩) NB215_212.out _).trans (hHeld.2.2))))))⟩ (fun hHeld => ?_)
         clear hK K
         refine pure_ (i := 17) (N := some 3) (v := ?_) (a' := ?_) #[true, true, true, true, true, true, true, true, true, true, true, true, true, true, true, true, true, true] rfl rfl (any_of HT_.out kr) (fun _ _ _ h => h) (Or.inl ⟨by rfl, ?_⟩) ?_ ?_
         rotate_left
         ·exact wl
         rotate_left
         ·exact ap
         refine done_ (done_of HT_.out kr) ?_
         try go_wp2
         refine bodyPost_ret (results_ct rfl _ _ gb212 23 #[.string (a0.extract 0 (t213 : Int).toNat), .string (a0.extract ((ji12) : Int).toNat (t214 : Int).toNat), .string (⟨#[]⟩ : ByteArray)] (0, 0) _ rfl (by refine pk ?_; refine blk_put (cs := #[.string (a0.extract 0 (t213 : Int).toNat), .string (a0.extract ((ji12) : Int).toNat (t214 : Int).toNat), .string (⟨#[]⟩ : ByteArray)]) ?_ 2 _ rfl; refine pk ?_; refine blk_put (cs := #[.string (a0.extract 0 (t213 : Int).toNat), .string (⟨#[]⟩ : ByteArray), .string (⟨#[]⟩ : ByteArray)]) ?_ 1 _ rfl; refine pk ?_; refine blk_put (cs := #[.string (⟨#[]⟩ : ByteArray), .string (⟨#[]⟩ : ByteArray), .string (⟨#[]⟩ : ByteArray)]) ?_ 0 _ rfl; exact pk BK212.out) Tryz.underlying23 rfl kr) rfl ?_
         exact ⟨by first | rfl | (simp [errW_none, errW_some] <;> rfl) | (simp only [← hji12]; first | rfl | (simp [errW_none, errW_some] <;> rfl)) | (simp [*, errW_none, errW_some] <;> rfl), bl HB.out⟩
       ·rw [if_neg c15] at H
        exact absurd H (by simp)
      ·rw [if_neg c14] at H
       exact absurd H (by simp)
     ·rw [if_neg c13] at H
      exact absurd H (by simp)
    ·rw [if_neg c11] at H
     exact absurd H (by simp)
   ·rw [if_neg c10] at H
    exact absurd H (by simp)

end Go.Proofs.YteeiljjjgkinhaaGreatDoor.PHttpF
