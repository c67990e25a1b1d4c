-- Written by a program of this session on top of the print: some functions by hand.
import Derived.Scope
import Derived.Test.YteeiljjjgkinhaaGreatDoorPHttpFx0
import Derived.Test.YteeiljjjgkinhaaGreatDoorPHttpFx2
import Derived.Test.YteeiljjjgkinhaaGreatDoorPHttpFx3
import Derived.Test.YteeiljjjgkinhaaGreatDoorPHttpFx5
import Derived.Test.YteeiljjjgkinhaaGreatDoorPHttpFx7
namespace Go.Proofs.YteeiljjjgkinhaaGreatDoor.PHttpF
open Go.RowKit Go.Proofs.YteeiljjjgkinhaaGreatDoorW.PrintWords Go.Proofs.YteeiljjjgkinhaaGreatDoorW.PrintLast Go.Proofs.YteeiljjjgkinhaaGreatDoorW.PrintMore
attribute [local go_sem] max2_int min2_int max_two min_two max_three min_three max_four min_four   -- for this text's walks alone
set_option linter.unusedVariables false
set_option linter.unusedSimpArgs false

/-- a scope over a whole body: no goto comes out of a body -/
theorem wp_scope_body {P : Program} {fn : Func} {R : Ending → World → Prop} {c : Code} {a : Act} {w : World} (h : c.wp P (bodyPost P fn R) a w) : (Code.scope c).wp P (bodyPost P fn R) a w := wp_scope_straight (by
  intro b k cs
  obtain ⟨e, a1, w1, hq, harr⟩ := h b k cs
  exact ⟨e, a1, w1, by cases e <;> exact hq, harr⟩)
/-! ### http_Parse: function 6 -/
mutual
def http_Parse.j0 : Nat → ByteArray → Int → Bool → Option (ByteArray × ByteArray × ByteArray × Int)
 | 0, _, _, _ => none
 | k + 1, x0, x4, x20 => if x20 = true then (http_Parse.j1 k x0 x4 x20) else (if x4 ≥ 0 then (http_Parse.j1 k x0 x4 (decide ((wrap64 (x4 + 4)) > 4096))) else (http_Parse.j1 k x0 x4 false))
def http_Parse.j1 : Nat → ByteArray → Int → Bool → Option (ByteArray × ByteArray × ByteArray × Int)
 | 0, _, _, _ => none
 | k + 1, x0, x4, x20 => if x20 = true then (some ((⟨#[]⟩ : ByteArray), (⟨#[]⟩ : ByteArray), (⟨#[]⟩ : ByteArray), 41)) else (if x4 < 0 then (some ((⟨#[]⟩ : ByteArray), (⟨#[]⟩ : ByteArray), (⟨#[]⟩ : ByteArray), 40)) else (if 0 ≤ (wrap64 (x4 + 4)) then (if (wrap64 (x4 + 4)) ≤ (x0.size : Int) then (if 0 ≤ x4 then (if x4 ≤ (x0.size : Int) then ((strings_Split.f (x0.extract 0 (x4 : Int).toNat) (⟨#[13, 10]⟩ : ByteArray)).bind fun t198 => (http_Parse.l0 k (x0.extract ((wrap64 (x4 + 4)) : Int).toNat x0.size) 0 false t198 (t198.length : Int) 0 (⟨#[]⟩ : ByteArray) (⟨#[]⟩ : ByteArray) (⟨#[]⟩ : ByteArray))) else (none)) else (none)) else (none)) else (none)))
def http_Parse.l0 : Nat → ByteArray → Int → Bool → List ByteArray → Int → Int → ByteArray → ByteArray → ByteArray → Option (ByteArray × ByteArray × ByteArray × Int)
 | 0, _, _, _, _, _, _, _, _, _ => none
 | k + 1, x5, x6, x7, x47, x48, x49, x198000, x198001, x198002 => if x49 < x48 then (if 0 ≤ x49 then (if x49 < (x47.length : Int) then (if x49 = 0 then ((http_first.f k (rdOf ByteArray.empty x47 x49)).bind fun bt202 => (if bt202.2.2.2 = true then (http_Parse.l0 k x5 x6 x7 x47 x48 (wrap64 (x49 + 1)) bt202.1 bt202.2.1 bt202.2.2.1) else (some ((⟨#[]⟩ : ByteArray), (⟨#[]⟩ : ByteArray), (⟨#[]⟩ : ByteArray), 40)))) else ((http_field.f k (rdOf ByteArray.empty x47 x49)).bind fun bt207 => (if bt207.2.2 = true then (if bt207.1.toList = ([116, 114, 97, 110, 115, 102, 101, 114, 45, 101, 110, 99, 111, 100, 105, 110, 103] : List UInt8) then (http_Parse.j3 k x5 x6 x7 bt207.1 bt207.2.1 x47 x48 x49 true x198000 x198001 x198002) else (if bt207.1.toList = ([99, 111, 110, 116, 101, 110, 116, 45, 108, 101, 110, 103, 116, 104] : List UInt8) then (http_Parse.j3 k x5 x6 x7 bt207.1 bt207.2.1 x47 x48 x49 x7 x198000 x198001 x198002) else (http_Parse.j3 k x5 x6 x7 bt207.1 bt207.2.1 x47 x48 x49 false x198000 x198001 x198002))) else (http_Parse.j3 k x5 x6 x7 bt207.1 bt207.2.1 x47 x48 x49 true x198000 x198001 x198002)))) else (none)) else (none)) else (if (x5.size : Int) = x6 then (some (x198000, x198001, x5, 0)) else (some ((⟨#[]⟩ : ByteArray), (⟨#[]⟩ : ByteArray), (⟨#[]⟩ : ByteArray), 40)))
def http_Parse.j3 : Nat → ByteArray → Int → Bool → ByteArray → ByteArray → List ByteArray → Int → Int → Bool → ByteArray → ByteArray → ByteArray → Option (ByteArray × ByteArray × ByteArray × Int)
 | 0, _, _, _, _, _, _, _, _, _, _, _, _ => none
 | k + 1, x5, x6, x7, x13, x14, x47, x48, x49, x83, x198000, x198001, x198002 => if x83 = true then (some ((⟨#[]⟩ : ByteArray), (⟨#[]⟩ : ByteArray), (⟨#[]⟩ : ByteArray), 40)) else (if x13.toList = ([99, 111, 110, 116, 101, 110, 116, 45, 108, 101, 110, 103, 116, 104] : List UInt8) then ((http_length.f k x14).bind fun bt210 => (if bt210.2 = 0 then (http_Parse.l0 k x5 bt210.1 true x47 x48 (wrap64 (x49 + 1)) x198000 x198001 x198002) else (some ((⟨#[]⟩ : ByteArray), (⟨#[]⟩ : ByteArray), (⟨#[]⟩ : ByteArray), bt210.2)))) else (http_Parse.l0 k x5 x6 x7 x47 x48 (wrap64 (x49 + 1)) x198000 x198001 x198002))
end
def http_Parse.f (k : Nat) (a0 : ByteArray) : Option (ByteArray × ByteArray × ByteArray × Int) := (strings_Index.f a0 (⟨#[13, 10, 13, 10]⟩ : ByteArray)).bind fun t196 => (if t196 < 0 then (http_Parse.j0 k a0 t196 (decide ((a0.size : Int) > 4096))) else (http_Parse.j0 k a0 t196 false))
theorem http_Parse.mono_l : ∀ k, (∀ y0 y1 y2, LeO (http_Parse.j0 k y0 y1 y2) (http_Parse.j0 (k + 1) y0 y1 y2)) ∧ (∀ y0 y1 y2, LeO (http_Parse.j1 k y0 y1 y2) (http_Parse.j1 (k + 1) y0 y1 y2)) ∧ (∀ y0 y1 y2 y3 y4 y5 y6 y7 y8, LeO (http_Parse.l0 k y0 y1 y2 y3 y4 y5 y6 y7 y8) (http_Parse.l0 (k + 1) y0 y1 y2 y3 y4 y5 y6 y7 y8)) ∧ (∀ y0 y1 y2 y3 y4 y5 y6 y7 y8 y9 y10 y11, LeO (http_Parse.j3 k y0 y1 y2 y3 y4 y5 y6 y7 y8 y9 y10 y11) (http_Parse.j3 (k + 1) y0 y1 y2 y3 y4 y5 y6 y7 y8 y9 y10 y11))
 | 0 => ⟨fun _ _ _ r h => by simp [http_Parse.j0] at h, fun _ _ _ r h => by simp [http_Parse.j1] at h, fun _ _ _ _ _ _ _ _ _ r h => by simp [http_Parse.l0] at h, fun _ _ _ _ _ _ _ _ _ _ _ _ r h => by simp [http_Parse.j3] at h⟩
 | k + 1 => by
  obtain ⟨ih0, ih1, ih2, ih3⟩ := http_Parse.mono_l k
  refine ⟨?_, ?_, ?_, ?_⟩
  all_goals intros
  all_goals first | unfold http_Parse.j0 | unfold http_Parse.j1 | unfold http_Parse.l0 | unfold http_Parse.j3
  all_goals repeat' first
   | (with_reducible exact ih0 _ _ _)
   | (with_reducible exact ih1 _ _ _)
   | (with_reducible exact ih2 _ _ _ _ _ _ _ _ _)
   | (with_reducible exact ih3 _ _ _ _ _ _ _ _ _ _ _ _)
   | (with_reducible exact http_field.mono _ _)
   | (with_reducible exact http_first.mono _ _)
   | (with_reducible exact http_length.mono _ _)
   | (with_reducible exact LeO.refl _)
   | (with_reducible exact LeO.none _)
   | (with_reducible refine LeO.ite ?_ ?_)
   | (with_reducible refine LeO.bind ?_ (fun _ => ?_))
   | exact ih0 _ _ _
   | exact ih1 _ _ _
   | exact ih2 _ _ _ _ _ _ _ _ _
   | exact ih3 _ _ _ _ _ _ _ _ _ _ _ _
   | exact http_field.mono _ _
   | exact http_first.mono _ _
   | exact http_length.mono _ _
   | exact LeO.none _
   | refine LeO.ite ?_ ?_
   | refine LeO.bind ?_ (fun _ => ?_)
theorem http_Parse.mono : ∀ a0 k, LeO (http_Parse.f k a0) (http_Parse.f (k + 1) a0) := by
 intro a0 k
 obtain ⟨ih0, ih1, ih2, ih3⟩ := http_Parse.mono_l k
 unfold http_Parse.f
 repeat' first
   | (with_reducible exact ih0 _ _ _)
   | (with_reducible exact ih1 _ _ _)
   | (with_reducible exact ih2 _ _ _ _ _ _ _ _ _)
   | (with_reducible exact ih3 _ _ _ _ _ _ _ _ _ _ _ _)
   | (with_reducible exact http_field.mono _ _)
   | (with_reducible exact http_first.mono _ _)
   | (with_reducible exact http_length.mono _ _)
   | (with_reducible exact LeO.refl _)
   | (with_reducible exact LeO.none _)
   | (with_reducible refine LeO.ite ?_ ?_)
   | (with_reducible refine LeO.bind ?_ (fun _ => ?_))
   | exact ih0 _ _ _
   | exact ih1 _ _ _
   | exact ih2 _ _ _ _ _ _ _ _ _
   | exact ih3 _ _ _ _ _ _ _ _ _ _ _ _
   | exact http_field.mono _ _
   | exact http_first.mono _ _
   | exact http_length.mono _ _
   | exact LeO.none _
   | refine LeO.ite ?_ ?_
   | refine LeO.bind ?_ (fun _ => ?_)
set_option maxHeartbeats 8000000 in
set_option maxRecDepth 100000 in
theorem http_Parse.calls (k : Nat) (a0 : ByteArray) (r1 : ByteArray) (r2 : ByteArray) (r3 : ByteArray) (r4 : Int) (w : World) (hU : LaidU w) (h : http_Parse.f k a0 = some (r1, r2, r3, r4)) :
  Calls Tryz.prog 6 #[.string a0] w fun e w' => e = .returned (.tuple #[.agg #[.string r1, .string r2, .string r3], .int .i64 r4]) ∧ Below w.heap.size w w' := by
 have hu23 := Tryz.underlying23
 have HU := Aside0.mk hU
 clear hU
 have HB := Aside0.mk (Below.refl w.heap.size w)
 have H : ((strings_Index.f a0 (⟨#[13, 10, 13, 10]⟩ : ByteArray)).bind fun t196 => (if t196 < 0 then (http_Parse.j0 k a0 t196 (decide ((a0.size : Int) > 4096))) else (http_Parse.j0 k a0 t196 false))) = some (r1, r2, r3, r4) := h
 clear h
 replace H := Option.bind_eq_some_iff.mp H
 obtain ⟨t196, A20, H⟩ := H
 replace H : (if t196 < 0 then (http_Parse.j0 k a0 t196 (decide ((a0.size : Int) > 4096))) else (http_Parse.j0 k a0 t196 false)) = some (r1, r2, r3, r4) := H
 have A2 := Aside0.mk A20
 clear A20
 have HC3 := Aside0.mk H
 clear H
 go_enter Tryz.func6, Tryz.ntmps6
 go_upto_region 2 with (first | (refine wp_scope_body ?_) | ((with_reducible refine gate_dst (N := 2) rfl ?_); (try (refine gate_guard (by rfl) ?_; dsimp only)); refine box_event ?hg (N := 2) ?hd (cs := #[.string (⟨#[]⟩ : ByteArray), .string (⟨#[]⟩ : ByteArray), .string (⟨#[]⟩ : ByteArray)]) (t := 23) ?hr ?_; (case hd => rfl); (case hg => rfl); (case hr => first | (go_simp; done) | (go_simp; rfl)); intro gb195 hg w4 hbox hb; have BK195 := Aside0.mk (hbox); have GW195 := Aside0.mk (gs (w := w) hg (bl HB.out)); have GE195 := Aside0.mk (gs (w := w) hg (bl HB.out)); replace HB := Aside0.mk (below_step (bl HB.out) hb); clear hb hbox hg) | ((with_reducible refine gate_callee (f := 15) rfl ?_); refine goesL_ (some 19) rfl rfl Tryz.func15 kr rfl #[.string a0, .string (⟨#[13, 10, 13, 10]⟩ : ByteArray)] rfl ga ?_; (with_reducible refine (strings_Index.calls a0 (⟨#[13, 10, 13, 10]⟩ : ByteArray) t196 _ ?side1 A2.out).mono ?_); (case side1 => exact LaidU.below HU.out (bl HB.out)); rintro e w5 ⟨rfl, hb⟩; refine ⟨_, rfl, ?_⟩; replace BK195 := Aside0.mk (blk_below (pk BK195.out) hb); replace HB := Aside0.mk (below_step (bl HB.out) hb); (try clear hb); (try clear hb2); (try clear hk); (try clear hi)))
 (try simp only [Act.put, List.setIfInBounds_toArray, List.set_cons_zero, List.set_cons_succ])
 go_cut [20] (fun v20 wc => ∃ (kq : Nat) (x20_2 : Bool), v20 = .bool x20_2 ∧ Aside0 (http_Parse.j0 kq a0 t196 x20_2 = some (r1, r2, r3, r4)) ∧ Aside0 (kq ≤ k) ∧ Aside0 (wc.heap[gb195]? = some (.cells #[.string (⟨#[]⟩ : ByteArray), .string (⟨#[]⟩ : ByteArray), .string (⟨#[]⟩ : ByteArray)] 23 (0, 0))) ∧ Aside0 (Below w.heap.size w wc))
 case first =>
  have H := HC3.out
  clear HC3
  by_cases c6 : t196 < 0
  ·rw [if_pos c6] at H
   have c6b0 : decide (t196 < 0) = true := decide_eq_true c6
   clear c6
   (first | rw [c6b0] | (simp only [i64_w, i32_w]; rw [c6b0]) | skip)
   have H' := Aside0.mk H
   clear H
   go_wp2
   go_meet
   case rel => exact ⟨_, (decide ((a0.size : Int) > 4096)), hsr, H', ⟨by first | omega | exact Nat.le_refl _⟩, ⟨pk BK195.out⟩, ⟨bl HB.out⟩⟩
  ·rw [if_neg c6] at H
   have c6b0 : decide (t196 < 0) = false := decide_eq_false c6
   clear c6
   (first | rw [c6b0] | (simp only [i64_w, i32_w]; rw [c6b0]) | skip)
   have H' := Aside0.mk H
   clear H
   go_wp2
   go_meet
   case rel => exact ⟨_, (false), hsr, H', ⟨by first | omega | exact Nat.le_refl _⟩, ⟨pk BK195.out⟩, ⟨bl HB.out⟩⟩
 case rest =>
  clear HC3
  try clear c1
  try clear p2
  try clear c6
  try clear c6b0
  try clear p6
  obtain ⟨kq, x20_2, rfl, HA, HJ2, BK195, HB⟩ := hcut
  cases kq with
  | zero => exact absurd HA.out (by simp [http_Parse.j0])
  | succ kj2 =>
   have H := HA.out
   clear HA
   simp only [http_Parse.j0] at H
   have HC7 := Aside0.mk H
   clear H
   go_upto_if 20 with (fail)
   go_cut [20] (fun v20 wc => ∃ (kq : Nat) (x20_6 : Bool), v20 = .bool x20_6 ∧ Aside0 (http_Parse.j1 kq a0 t196 x20_6 = some (r1, r2, r3, r4)) ∧ Aside0 (kq ≤ kj2) ∧ Aside0 (wc.heap[gb195]? = some (.cells #[.string (⟨#[]⟩ : ByteArray), .string (⟨#[]⟩ : ByteArray), .string (⟨#[]⟩ : ByteArray)] 23 (0, 0))) ∧ Aside0 (Below w.heap.size w wc))
   case first =>
    have H := HC7.out
    clear HC7
    by_cases c8 : x20_2 = true
    ·subst c8
     have H1 : (http_Parse.j1 kj2 a0 t196 true) = some (r1, r2, r3, r4) := by rw [if_pos rfl] at H; exact H
     clear H
     have H := H1
     clear H1
     have H' := Aside0.mk H
     clear H
     go_wp2
     go_meet
     case rel => exact ⟨_, (true), hsr, H', ⟨by have := HJ2.out; first | omega | exact Nat.le_refl _⟩, ⟨pk BK195.out⟩, ⟨bl HB.out⟩⟩
    ·replace c8 := Bool.eq_false_iff.mpr c8
     subst c8
     have H1 : (if t196 ≥ 0 then (http_Parse.j1 kj2 a0 t196 (decide ((wrap64 (t196 + 4)) > 4096))) else (http_Parse.j1 kj2 a0 t196 false)) = some (r1, r2, r3, r4) := by rw [if_neg (show ¬ (false = true) by decide)] at H; exact H
     clear H
     have H := H1
     clear H1
     by_cases c9 : t196 ≥ 0
     ·rw [if_pos c9] at H
      have c9b0 : decide (0 ≤ t196) = true := decide_eq_true c9
      clear c9
      (first | rw [c9b0] | (simp only [i64_w, i32_w]; rw [c9b0]) | skip)
      have H' := Aside0.mk H
      clear H
      go_wp2
      go_meet
      case rel => exact ⟨_, (decide ((wrap64 (t196 + 4)) > 4096)), hsr, H', ⟨by have := HJ2.out; first | omega | exact Nat.le_refl _⟩, ⟨pk BK195.out⟩, ⟨bl HB.out⟩⟩
     ·rw [if_neg c9] at H
      have c9b0 : decide (0 ≤ t196) = false := decide_eq_false c9
      clear c9
      (first | rw [c9b0] | (simp only [i64_w, i32_w]; rw [c9b0]) | skip)
      have H' := Aside0.mk H
      clear H
      go_wp2
      go_meet
      case rel => exact ⟨_, (false), hsr, H', ⟨by have := HJ2.out; first | omega | exact Nat.le_refl _⟩, ⟨pk BK195.out⟩, ⟨bl HB.out⟩⟩
   case rest =>
    clear HC7
    try clear c1
    try clear p2
    try clear c6
    try clear c6b0
    try clear p6
    try clear c8
    try clear c9
    try clear c9b0
    try clear p2
    try clear p6
    obtain ⟨kq, x20_6, rfl, HA, HJ6, BK195, HB⟩ := hcut
    cases kq with
    | zero => exact absurd HA.out (by simp [http_Parse.j1])
    | succ kj6 =>
     have H := HA.out
     clear HA
     simp only [http_Parse.j1] at H
     by_cases c10 : x20_6 = true
     ·subst c10
      have H1 : (some ((⟨#[]⟩ : ByteArray), (⟨#[]⟩ : ByteArray), (⟨#[]⟩ : ByteArray), 41)) = some (r1, r2, r3, r4) := by rw [if_pos rfl] at H; exact H
      clear H
      have H := H1
      clear H1
      simp only [Option.some.injEq, Prod.mk.injEq] at H
      obtain ⟨rfl, rfl, rfl, rfl⟩ := H
      obtain ⟨hcz11_0, hcz11_1, hcz11_2, hfz11_0, hfz11_1, hfz11_2⟩ := cz3 BK195.out
      go_wp2
      refine bodyPost_ret (results_ct rfl _ _ gb195 23 #[.string (⟨#[]⟩ : ByteArray), .string (⟨#[]⟩ : ByteArray), .string (⟨#[]⟩ : ByteArray)] (0, 0) _ rfl (by refine pk ?_; refine blk_put (cs := #[.string (⟨#[]⟩ : ByteArray), .string (⟨#[]⟩ : ByteArray), .string (⟨#[]⟩ : ByteArray)]) ?_ 2 _ rfl; refine pk ?_; refine blk_put (cs := #[.string (⟨#[]⟩ : ByteArray), .string (⟨#[]⟩ : ByteArray), .string (⟨#[]⟩ : ByteArray)]) ?_ 1 _ rfl; refine pk ?_; refine blk_put (cs := #[.string (⟨#[]⟩ : ByteArray), .string (⟨#[]⟩ : ByteArray), .string (⟨#[]⟩ : ByteArray)]) ?_ 0 _ rfl; exact pk BK195.out) Tryz.underlying23 rfl kr) rfl ?_
      exact ⟨er0, bl HB.out⟩
     ·replace c10 := Bool.eq_false_iff.mpr c10
      subst c10
      have H1 : (if t196 < 0 then (some ((⟨#[]⟩ : ByteArray), (⟨#[]⟩ : ByteArray), (⟨#[]⟩ : ByteArray), 40)) else (if 0 ≤ (wrap64 (t196 + 4)) then (if (wrap64 (t196 + 4)) ≤ (a0.size : Int) then (if 0 ≤ t196 then (if t196 ≤ (a0.size : Int) then ((strings_Split.f (a0.extract 0 (t196 : Int).toNat) (⟨#[13, 10]⟩ : ByteArray)).bind fun t198 => (http_Parse.l0 kj6 (a0.extract ((wrap64 (t196 + 4)) : Int).toNat a0.size) 0 false t198 (t198.length : Int) 0 (⟨#[]⟩ : ByteArray) (⟨#[]⟩ : ByteArray) (⟨#[]⟩ : ByteArray))) else (none)) else (none)) else (none)) else (none))) = some (r1, r2, r3, r4) := by rw [if_neg (show ¬ (false = true) by decide)] at H; exact H
      clear H
      have H := H1
      clear H1
      by_cases c12 : t196 < 0
      ·rw [if_pos c12] at H
       have c12b0 : decide (t196 < 0) = true := decide_eq_true c12
       clear c12
       simp only [Option.some.injEq, Prod.mk.injEq] at H
       obtain ⟨rfl, rfl, rfl, rfl⟩ := H
       obtain ⟨hcz13_0, hcz13_1, hcz13_2, hfz13_0, hfz13_1, hfz13_2⟩ := cz3 BK195.out
       go_wp2
       refine bodyPost_ret (results_ct rfl _ _ gb195 23 #[.string (⟨#[]⟩ : ByteArray), .string (⟨#[]⟩ : ByteArray), .string (⟨#[]⟩ : ByteArray)] (0, 0) _ rfl (by refine pk ?_; refine blk_put (cs := #[.string (⟨#[]⟩ : ByteArray), .string (⟨#[]⟩ : ByteArray), .string (⟨#[]⟩ : ByteArray)]) ?_ 2 _ rfl; refine pk ?_; refine blk_put (cs := #[.string (⟨#[]⟩ : ByteArray), .string (⟨#[]⟩ : ByteArray), .string (⟨#[]⟩ : ByteArray)]) ?_ 1 _ rfl; refine pk ?_; refine blk_put (cs := #[.string (⟨#[]⟩ : ByteArray), .string (⟨#[]⟩ : ByteArray), .string (⟨#[]⟩ : ByteArray)]) ?_ 0 _ rfl; exact pk BK195.out) Tryz.underlying23 rfl kr) rfl ?_
       exact ⟨er0, bl HB.out⟩
      ·rw [if_neg c12] at H
       have c12b0 : decide (t196 < 0) = false := decide_eq_false c12
       clear c12
       obtain ⟨ji14, hji14⟩ : ∃ j_ : Int, (wrap64 (t196 + 4)) = j_ := ⟨_, rfl⟩
       replace H : (if 0 ≤ (ji14) then (if (ji14) ≤ (a0.size : Int) then (if 0 ≤ t196 then (if t196 ≤ (a0.size : Int) then ((strings_Split.f (a0.extract 0 (t196 : Int).toNat) (⟨#[13, 10]⟩ : ByteArray)).bind fun t198 => (http_Parse.l0 kj6 (a0.extract ((ji14) : Int).toNat a0.size) 0 false t198 (t198.length : Int) 0 (⟨#[]⟩ : ByteArray) (⟨#[]⟩ : ByteArray) (⟨#[]⟩ : ByteArray))) else (none)) else (none)) else (none)) else (none)) = some (r1, r2, r3, r4) := by first | (rw [hji14] at H; exact H) | (simp only [hji14] at H ⊢; exact H)
       have hji14w : (IntKind.i64.wrap (t196 + 4)) = ji14 := (i64_w _).trans hji14
       by_cases c15 : 0 ≤ (ji14)
       ·rw [if_pos c15] at H
        have c15b0 := eq_true c15
        have c15b1 : decide (0 ≤ (ji14)) = true := decide_eq_true c15
        clear c15
        by_cases c16 : (ji14) ≤ (a0.size : Int)
        ·rw [if_pos c16] at H
         have c16b0 := eq_true c16
         have c16b1 : decide ((ji14) ≤ (a0.size : Int)) = true := decide_eq_true c16
         clear c16
         by_cases c17 : 0 ≤ t196
         ·rw [if_pos c17] at H
          have c17b0 := eq_true c17
          have c17b1 : decide (0 ≤ t196) = true := decide_eq_true c17
          clear c17
          by_cases c18 : t196 ≤ (a0.size : Int)
          ·rw [if_pos c18] at H
           have c18b0 := eq_true c18
           have c18b1 : decide (t196 ≤ (a0.size : Int)) = true := decide_eq_true c18
           clear c18
           replace H := Option.bind_eq_some_iff.mp H
           obtain ⟨t198, A190, H⟩ := H
           replace H : (http_Parse.l0 kj6 (a0.extract ((ji14) : Int).toNat a0.size) 0 false t198 (t198.length : Int) 0 (⟨#[]⟩ : ByteArray) (⟨#[]⟩ : ByteArray) (⟨#[]⟩ : ByteArray)) = some (r1, r2, r3, r4) := H
           have A19 := Aside0.mk A190
           clear A190
           have H' := Aside0.mk H
           clear H
           go_wp2_with (first | (apply wp_label) | ((with_reducible refine gate_dst (N := 8) rfl ?_); (try (refine gate_guard (by rfl) ?_; dsimp only)); refine box_event ?hg (N := 8) ?hd (cs := #[.string (⟨#[]⟩ : ByteArray), .string (⟨#[]⟩ : ByteArray), .string (⟨#[]⟩ : ByteArray)]) (t := 23) ?hr ?_; (case hd => rfl); (case hg => rfl); (case hr => first | (go_simp; done) | (go_simp; rfl)); intro gb197 hg w20 hbox hb; have BK197 := Aside0.mk (hbox); have GW197 := Aside0.mk (gs (w := w) hg (bl HB.out)); have GE197 := Aside0.mk (gs (w := w) hg (bl HB.out)); replace HB := Aside0.mk (below_step (bl HB.out) hb); have NB195_197 := Aside0.mk ((gl (g := gb195) hg (pk BK195.out))); have NB197_195 := Aside0.mk ((gm (g := gb195) hg (pk BK195.out))); replace BK195 := Aside0.mk (blk_below (pk BK195.out) hb); clear hb hbox hg) | ((with_reducible refine gate_callee (f := 16) rfl ?_); refine goesL_ (some 47) rfl rfl Tryz.func16 kr rfl #[.string (a0.extract 0 (t196 : Int).toNat), .string (⟨#[13, 10]⟩ : ByteArray)] rfl ga ?_; (with_reducible refine (strings_Split.calls (a0.extract 0 (t196 : Int).toNat) (⟨#[13, 10]⟩ : ByteArray) t198 _ ?side1 A19.out).mono ?_); (case side1 => exact LaidU.below HU.out (bl HB.out)); rintro e w21 ⟨v199, rfl, ho0, hb⟩; refine ⟨_, rfl, ?_⟩; have HO200 := Aside0.mk (Kd.R_lower ho0 (below_size (bl HB.out))); replace BK195 := Aside0.mk (blk_below (pk BK195.out) hb); replace BK197 := Aside0.mk (blk_below (pk BK197.out) hb); replace HB := Aside0.mk (below_step (bl HB.out) hb); (try clear hb); (try clear hb2); (try clear hk); (try clear hi); (try clear ho0); obtain ⟨Ao22, co22, eo22⟩ := Kd.R_slice HO200.out; subst eo22))
           go_loopg [6, 7, 49] kj6 (fun kq v6 v7 v49 w' => ∃ (x6_3 : Int) (x7_3 : Bool) (x49_3 : Int) (x196000_3 : ByteArray) (x196001_3 : ByteArray) (x196002_3 : ByteArray) (x198000_3 : ByteArray) (x198001_3 : ByteArray) (x198002_3 : ByteArray), v6 = .int .i64 x6_3 ∧ v7 = .bool x7_3 ∧ v49 = .int .i64 x49_3 ∧ Aside0 (http_Parse.l0 kq (a0.extract ((ji14) : Int).toNat a0.size) x6_3 x7_3 t198 (t198.length : Int) x49_3 x198000_3 x198001_3 x198002_3 = some (r1, r2, r3, r4)) ∧ Aside0 (kq ≤ kj6) ∧ Aside0 (Kd.R Kd.string 9 w' w.heap.size (fun _ => True) (.slice Ao22 t198.length co22) t198) ∧ Aside0 (w'.heap[gb195]? = some (.cells #[.string x196000_3, .string x196001_3, .string x196002_3] 23 (0, 0))) ∧ Aside0 (w'.heap[gb197]? = some (.cells #[.string x198000_3, .string x198001_3, .string x198002_3] 23 (0, 0))) ∧ Aside0 (Below w.heap.size w w'))
           case atStart => exact ⟨(0), (false), (0), ((⟨#[]⟩ : ByteArray)), ((⟨#[]⟩ : ByteArray)), ((⟨#[]⟩ : ByteArray)), ((⟨#[]⟩ : ByteArray)), ((⟨#[]⟩ : ByteArray)), ((⟨#[]⟩ : ByteArray)), hsr, hsr, hsr, H', ⟨Nat.le_refl _⟩, ⟨pR HO200.out⟩, ⟨pk BK195.out⟩, ⟨pk BK197.out⟩, ⟨bl HB.out⟩⟩
           case round =>
            clear H'
            try clear c1
            try clear p2
            try clear c6
            try clear c6b0
            try clear p6
            try clear c8
            try clear c9
            try clear c9b0
            try clear c10
            try clear c12
            try clear c12b0
            try clear c15
            try clear c15b0
            try clear c15b1
            try clear c16
            try clear c16b0
            try clear c16b1
            try clear c17
            try clear c17b0
            try clear c17b1
            try clear c18
            try clear c18b0
            try clear c18b1
            try clear hcz13_0 hcz13_1 hcz13_2 hfz13_0 hfz13_1 hfz13_2
            try clear hcz11_0 hcz11_1 hcz11_2 hfz11_0 hfz11_1 hfz11_2
            try clear p2
            try clear p6
            obtain ⟨x6_3, x7_3, x49_3, x196000_3, x196001_3, x196002_3, x198000_3, x198001_3, x198002_3, rfl, rfl, rfl, HA, HK3, HO_47, BK195, BK197, HB⟩ := hrel
            cases gk with
            | zero => exact absurd HA.out (by simp [http_Parse.l0])
            | succ k3 =>
             have H := HA.out
             clear HA
             simp only [http_Parse.l0] at H
             by_cases c23 : x49_3 < (t198.length : Int)
             ·rw [if_pos c23] at H
              have c23b0 : decide (x49_3 < (t198.length : Int)) = true := decide_eq_true c23
              clear c23
              by_cases c24 : 0 ≤ x49_3
              ·rw [if_pos c24] at H
               have c24b0 : decide (0 ≤ x49_3) = true := decide_eq_true c24
               clear c24
               by_cases c25 : x49_3 < (t198.length : Int)
               ·rw [if_pos c25] at H
                have c25b0 : decide (x49_3 < (t198.length : Int)) = true := decide_eq_true c25
                clear c25
                by_cases c26 : x49_3 = 0
                ·rw [if_pos c26] at H
                 have c26b0 : (x49_3 == 0) = true := beq_iff_eq.mpr c26
                 have c26b1 : (x49_3 != 0) = false := bne_eq_false_iff_eq.mpr c26
                 clear c26
                 replace H := Option.bind_eq_some_iff.mp H
                 obtain ⟨⟨t202, t203, t204, t205⟩, A270, H⟩ := H
                 replace H : (if t205 = true then (http_Parse.l0 k3 (a0.extract ((ji14) : Int).toNat a0.size) x6_3 x7_3 t198 (t198.length : Int) (wrap64 (x49_3 + 1)) t202 t203 t204) else (some ((⟨#[]⟩ : ByteArray), (⟨#[]⟩ : ByteArray), (⟨#[]⟩ : ByteArray), 40))) = some (r1, r2, r3, r4) := H
                 have A27 := Aside0.mk A270
                 clear A270
                 by_cases c28 : t205 = true
                 ·subst c28
                  have H1 : (http_Parse.l0 k3 (a0.extract ((ji14) : Int).toNat a0.size) x6_3 x7_3 t198 (t198.length : Int) (wrap64 (x49_3 + 1)) t202 t203 t204) = some (r1, r2, r3, r4) := by rw [if_pos rfl] at H; exact H
                  clear H
                  have H := H1
                  clear H1
                  have H' := Aside0.mk H
                  clear H
                  have p201 : 0 ≤ (x49_3 : Int) := of_decide_eq_true ha
                  have q201 : x49_3 < (t198.length : Int) := of_decide_eq_true ha
                  obtain ⟨ad201, e201, hx201_0⟩ := Kd.at_string (Kd.R_reads' HO_47.out).2.2 x49_3 p201 q201
                  cases e201
                  replace p201 := eq_true p201
                  replace q201 := eq_true q201
                  go_wp2_with (first | ((with_reducible refine gate_callee (f := 17) rfl ?_); refine goesL_ (some 58) rfl rfl Tryz.func17 kr rfl #[.string (rdOf ByteArray.empty t198 x49_3)] rfl ga ?_; (with_reducible refine (http_first.calls k3 (rdOf ByteArray.empty t198 x49_3) t202 t203 t204 true _ ?side1 A27.out).mono ?_); (case side1 => exact LaidU.below HU.out (bl HB.out)); rintro e w29 ⟨rfl, hb⟩; refine ⟨_, rfl, ?_⟩; replace HO_47 := Aside0.mk (Kd.R_below (pR HO_47.out) hb); replace BK195 := Aside0.mk (blk_below (pk BK195.out) hb); replace BK197 := Aside0.mk (blk_below (pk BK197.out) hb); replace HB := Aside0.mk (below_step (bl HB.out) hb); (try clear hb); (try clear hb2); (try clear hk); (try clear hi)) | ((with_reducible refine gate_dst (N := 11) rfl ?_); (try (refine gate_guard (by rfl) ?_; dsimp only)); refine box_event ?hg (N := 11) ?hd (cs := #[.string (⟨#[]⟩ : ByteArray), .string (⟨#[]⟩ : ByteArray), .string (⟨#[]⟩ : ByteArray)]) (t := 23) ?hr ?_; (case hd => rfl); (case hg => rfl); (case hr => first | (go_simp; done) | (go_simp; rfl)); intro gb206 hg w30 hbox hb; replace HO_47 := Aside0.mk (Kd.R_below (pR HO_47.out) hb); have BK206 := Aside0.mk (hbox); have GW206 := Aside0.mk (gs (w := w) hg (bl HB.out)); have GE206 := Aside0.mk (gs (w := w) hg (bl HB.out)); replace HB := Aside0.mk (below_step (bl HB.out) hb); have NB195_206 := Aside0.mk ((gl (g := gb195) hg (pk BK195.out))); have NB206_195 := Aside0.mk ((gm (g := gb195) hg (pk BK195.out))); replace BK195 := Aside0.mk (blk_below (pk BK195.out) hb); have NB197_206 := Aside0.mk ((gl (g := gb197) hg (pk BK197.out))); have NB206_197 := Aside0.mk ((gm (g := gb197) hg (pk BK197.out))); replace BK197 := Aside0.mk (blk_below (pk BK197.out) hb); clear hb hbox hg; have hnb31 := NB206_195.out; have hnc31 := NB195_206.out; have hnb32 := NB206_197.out; have hnc32 := NB197_206.out; obtain ⟨hcz33_0, hcz33_1, hcz33_2, hfz33_0, hfz33_1, hfz33_2⟩ := cz3 BK206.out; have hnb34 := NB197_195.out; have hnc34 := NB195_197.out; obtain ⟨hcz35_0, hcz35_1, hcz35_2, hfz35_0, hfz35_1, hfz35_2⟩ := cz3 BK197.out))
                  go_roundg k3
                  case measure => have := HJ2.out; have := HJ6.out; have := HK3.out; omega
                  case rel => exact ⟨(x6_3), (x7_3), (wrap64 (x49_3 + 1)), (x196000_3), (x196001_3), (x196002_3), (t202), (t203), (t204), hsr, hsr, hsr, H', ⟨by have := HJ2.out; have := HJ6.out; have := HK3.out; omega⟩, ⟨by (with_reducible repeat (first | apply Kd.R_alloc | apply Kd.R_drewN | apply Kd.R_drew)); exact Kd.R_mono (Kd.R_far (p := ⟨gb197, 2, none⟩) (Kd.R_far (p := ⟨gb197, 1, none⟩) (Kd.R_far (p := ⟨gb197, 0, none⟩) (Kd.R_far (p := ⟨gb206, 2, none⟩) (Kd.R_far (p := ⟨gb206, 1, none⟩) (Kd.R_far (p := ⟨gb206, 0, none⟩) (Kd.R_types (Kd.R_types HO_47.out BK206.out (by decide)) BK197.out (by decide)) (fun _ hk => hk.1.2) (.string t202)) (fun _ hk => hk.1.2) (.string t203)) (fun _ hk => hk.1.2) (.string t204)) (fun _ hk => hk.2) (.string t202)) (fun _ hk => hk.2) (.string t203)) (fun _ hk => hk.2) (.string t204)) (fun _ hk => trivial)⟩, ⟨by refine pk ?_; refine blk_far ?_ NB195_197.out _; refine pk ?_; refine blk_far ?_ NB195_197.out _; refine pk ?_; refine blk_far ?_ NB195_197.out _; refine pk ?_; refine blk_far ?_ NB195_206.out _; refine pk ?_; refine blk_far ?_ NB195_206.out _; refine pk ?_; refine blk_far ?_ NB195_206.out _; exact pk BK195.out⟩, ⟨by refine pk ?_; refine blk_put (cs := #[.string t202, .string t203, .string x198002_3]) ?_ 2 _ rfl; refine pk ?_; refine blk_put (cs := #[.string t202, .string x198001_3, .string x198002_3]) ?_ 1 _ rfl; refine pk ?_; refine blk_put (cs := #[.string x198000_3, .string x198001_3, .string x198002_3]) ?_ 0 _ rfl; refine pk ?_; refine blk_far ?_ NB197_206.out _; refine pk ?_; refine blk_far ?_ NB197_206.out _; refine pk ?_; refine blk_far ?_ NB197_206.out _; exact pk BK197.out⟩, ⟨bl HB.out⟩⟩
                 ·replace c28 := Bool.eq_false_iff.mpr c28
                  subst c28
                  have H1 : (some ((⟨#[]⟩ : ByteArray), (⟨#[]⟩ : ByteArray), (⟨#[]⟩ : ByteArray), 40)) = some (r1, r2, r3, r4) := by rw [if_neg (show ¬ (false = true) by decide)] at H; exact H
                  clear H
                  have H := H1
                  clear H1
                  simp only [Option.some.injEq, Prod.mk.injEq] at H
                  obtain ⟨rfl, rfl, rfl, rfl⟩ := H
                  have p201 : 0 ≤ (x49_3 : Int) := of_decide_eq_true ha
                  have q201 : x49_3 < (t198.length : Int) := of_decide_eq_true ha
                  obtain ⟨ad201, e201, hx201_0⟩ := Kd.at_string (Kd.R_reads' HO_47.out).2.2 x49_3 p201 q201
                  cases e201
                  replace p201 := eq_true p201
                  replace q201 := eq_true q201
                  go_wp2_with (first | ((with_reducible refine gate_callee (f := 17) rfl ?_); refine goesL_ (some 58) rfl rfl Tryz.func17 kr rfl #[.string (rdOf ByteArray.empty t198 x49_3)] rfl ga ?_; (with_reducible refine (http_first.calls k3 (rdOf ByteArray.empty t198 x49_3) t202 t203 t204 false _ ?side1 A27.out).mono ?_); (case side1 => exact LaidU.below HU.out (bl HB.out)); rintro e w36 ⟨rfl, hb⟩; refine ⟨_, rfl, ?_⟩; replace HO_47 := Aside0.mk (Kd.R_below (pR HO_47.out) hb); replace BK195 := Aside0.mk (blk_below (pk BK195.out) hb); replace BK197 := Aside0.mk (blk_below (pk BK197.out) hb); replace HB := Aside0.mk (below_step (bl HB.out) hb); (try clear hb); (try clear hb2); (try clear hk); (try clear hi)) | ((with_reducible refine gate_dst (N := 11) rfl ?_); (try (refine gate_guard (by rfl) ?_; dsimp only)); refine box_event ?hg (N := 11) ?hd (cs := #[.string (⟨#[]⟩ : ByteArray), .string (⟨#[]⟩ : ByteArray), .string (⟨#[]⟩ : ByteArray)]) (t := 23) ?hr ?_; (case hd => rfl); (case hg => rfl); (case hr => first | (go_simp; done) | (go_simp; rfl)); intro gb206 hg w37 hbox hb; replace HO_47 := Aside0.mk (Kd.R_below (pR HO_47.out) hb); have BK206 := Aside0.mk (hbox); have GW206 := Aside0.mk (gs (w := w) hg (bl HB.out)); have GE206 := Aside0.mk (gs (w := w) hg (bl HB.out)); replace HB := Aside0.mk (below_step (bl HB.out) hb); have NB195_206 := Aside0.mk ((gl (g := gb195) hg (pk BK195.out))); have NB206_195 := Aside0.mk ((gm (g := gb195) hg (pk BK195.out))); replace BK195 := Aside0.mk (blk_below (pk BK195.out) hb); have NB197_206 := Aside0.mk ((gl (g := gb197) hg (pk BK197.out))); have NB206_197 := Aside0.mk ((gm (g := gb197) hg (pk BK197.out))); replace BK197 := Aside0.mk (blk_below (pk BK197.out) hb); clear hb hbox hg; have hnb38 := NB206_195.out; have hnc38 := NB195_206.out; have hnb39 := NB206_197.out; have hnc39 := NB197_206.out; obtain ⟨hcz40_0, hcz40_1, hcz40_2, hfz40_0, hfz40_1, hfz40_2⟩ := cz3 BK206.out; have hnb41 := NB195_197.out; have hnc41 := NB197_195.out; obtain ⟨hcz42_0, hcz42_1, hcz42_2, hfz42_0, hfz42_1, hfz42_2⟩ := cz3 BK195.out))
                  refine bodyPost_ret (results_ct rfl _ _ gb195 23 #[.string (⟨#[]⟩ : ByteArray), .string (⟨#[]⟩ : ByteArray), .string (⟨#[]⟩ : ByteArray)] (0, 0) _ rfl (by refine pk ?_; refine blk_put (cs := #[.string (⟨#[]⟩ : ByteArray), .string (⟨#[]⟩ : ByteArray), .string x196002_3]) ?_ 2 _ rfl; refine pk ?_; refine blk_put (cs := #[.string (⟨#[]⟩ : ByteArray), .string x196001_3, .string x196002_3]) ?_ 1 _ rfl; refine pk ?_; refine blk_put (cs := #[.string x196000_3, .string x196001_3, .string x196002_3]) ?_ 0 _ rfl; refine pk ?_; refine blk_far ?_ NB195_206.out _; refine pk ?_; refine blk_far ?_ NB195_206.out _; refine pk ?_; refine blk_far ?_ NB195_206.out _; exact pk BK195.out) Tryz.underlying23 rfl kr) rfl ?_
                  exact ⟨by first | rfl | (simp [errW_none, errW_some] <;> rfl) | (simp only [← hji14]; first | rfl | (simp [errW_none, errW_some] <;> rfl)) | (simp [*, errW_none, errW_some] <;> rfl), bl HB.out⟩
                ·rw [if_neg c26] at H
                 have c26b0 : (x49_3 == 0) = false := beq_eq_false_iff_ne.mpr c26
                 have c26b1 : (x49_3 != 0) = true := bne_iff_ne.mpr c26
                 replace H := Option.bind_eq_some_iff.mp H
                 obtain ⟨⟨t207, t208, t209⟩, A430, H⟩ := H
                 replace H : (if t209 = true then (if t207.toList = ([116, 114, 97, 110, 115, 102, 101, 114, 45, 101, 110, 99, 111, 100, 105, 110, 103] : List UInt8) then (http_Parse.j3 k3 (a0.extract ((ji14) : Int).toNat a0.size) x6_3 x7_3 t207 t208 t198 (t198.length : Int) x49_3 true x198000_3 x198001_3 x198002_3) else (if t207.toList = ([99, 111, 110, 116, 101, 110, 116, 45, 108, 101, 110, 103, 116, 104] : List UInt8) then (http_Parse.j3 k3 (a0.extract ((ji14) : Int).toNat a0.size) x6_3 x7_3 t207 t208 t198 (t198.length : Int) x49_3 x7_3 x198000_3 x198001_3 x198002_3) else (http_Parse.j3 k3 (a0.extract ((ji14) : Int).toNat a0.size) x6_3 x7_3 t207 t208 t198 (t198.length : Int) x49_3 false x198000_3 x198001_3 x198002_3))) else (http_Parse.j3 k3 (a0.extract ((ji14) : Int).toNat a0.size) x6_3 x7_3 t207 t208 t198 (t198.length : Int) x49_3 true x198000_3 x198001_3 x198002_3)) = some (r1, r2, r3, r4) := H
                 have A43 := Aside0.mk A430
                 clear A430
                 have HC44 := Aside0.mk H
                 clear H
                 have p201 : 0 ≤ (x49_3 : Int) := of_decide_eq_true ha
                 have q201 : x49_3 < (t198.length : Int) := of_decide_eq_true ha
                 obtain ⟨ad201, e201, hx201_0⟩ := Kd.at_string (Kd.R_reads' HO_47.out).2.2 x49_3 p201 q201
                 cases e201
                 replace p201 := eq_true p201
                 replace q201 := eq_true q201
                 go_upto_region 18 with (first | ((with_reducible refine gate_callee (f := 18) rfl ?_); refine goesL_ (some 67) rfl rfl Tryz.func18 kr rfl #[.string (rdOf ByteArray.empty t198 x49_3)] rfl ga ?_; (with_reducible refine (http_field.calls k3 (rdOf ByteArray.empty t198 x49_3) t207 t208 t209 _ ?side1 A43.out).mono ?_); (case side1 => exact LaidU.below HU.out (bl HB.out)); rintro e w45 ⟨rfl, hb⟩; refine ⟨_, rfl, ?_⟩; replace HO_47 := Aside0.mk (Kd.R_below (pR HO_47.out) hb); replace BK195 := Aside0.mk (blk_below (pk BK195.out) hb); replace BK197 := Aside0.mk (blk_below (pk BK197.out) hb); replace HB := Aside0.mk (below_step (bl HB.out) hb); (try clear hb); (try clear hb2); (try clear hk); (try clear hi)))
                 (try simp only [Act.put, List.setIfInBounds_toArray, List.set_cons_zero, List.set_cons_succ])
                 go_cut [83] (fun v83 wc => ∃ (kq : Nat) (x83_43 : Bool), v83 = .bool x83_43 ∧ Aside0 (http_Parse.j3 kq (a0.extract ((ji14) : Int).toNat a0.size) x6_3 x7_3 t207 t208 t198 (t198.length : Int) x49_3 x83_43 x198000_3 x198001_3 x198002_3 = some (r1, r2, r3, r4)) ∧ Aside0 (kq ≤ k3) ∧ Aside0 (Kd.R Kd.string 9 wc w.heap.size (fun _ => True) (.slice (some ad201) t198.length co22) t198) ∧ Aside0 (wc.heap[gb195]? = some (.cells #[.string x196000_3, .string x196001_3, .string x196002_3] 23 (0, 0))) ∧ Aside0 (wc.heap[gb197]? = some (.cells #[.string x198000_3, .string x198001_3, .string x198002_3] 23 (0, 0))) ∧ Aside0 (Below w.heap.size w wc))
                 case first =>
                  have H := HC44.out
                  clear HC44
                  by_cases c46 : t209 = true
                  ·subst c46
                   have H1 : (if t207.toList = ([116, 114, 97, 110, 115, 102, 101, 114, 45, 101, 110, 99, 111, 100, 105, 110, 103] : List UInt8) then (http_Parse.j3 k3 (a0.extract ((ji14) : Int).toNat a0.size) x6_3 x7_3 t207 t208 t198 (t198.length : Int) x49_3 true x198000_3 x198001_3 x198002_3) else (if t207.toList = ([99, 111, 110, 116, 101, 110, 116, 45, 108, 101, 110, 103, 116, 104] : List UInt8) then (http_Parse.j3 k3 (a0.extract ((ji14) : Int).toNat a0.size) x6_3 x7_3 t207 t208 t198 (t198.length : Int) x49_3 x7_3 x198000_3 x198001_3 x198002_3) else (http_Parse.j3 k3 (a0.extract ((ji14) : Int).toNat a0.size) x6_3 x7_3 t207 t208 t198 (t198.length : Int) x49_3 false x198000_3 x198001_3 x198002_3))) = some (r1, r2, r3, r4) := by rw [if_pos rfl] at H; exact H
                   clear H
                   have H := H1
                   clear H1
                   by_cases c47 : t207.toList = ([116, 114, 97, 110, 115, 102, 101, 114, 45, 101, 110, 99, 111, 100, 105, 110, 103] : List UInt8)
                   ·rw [if_pos c47] at H
                    have c47b0 : (t207.toList == ([116, 114, 97, 110, 115, 102, 101, 114, 45, 101, 110, 99, 111, 100, 105, 110, 103] : List UInt8)) = true := beq_iff_eq.mpr c47
                    have c47b1 : (t207.toList != ([116, 114, 97, 110, 115, 102, 101, 114, 45, 101, 110, 99, 111, 100, 105, 110, 103] : List UInt8)) = false := bne_eq_false_iff_eq.mpr c47
                    clear c47
                    (first | rw [c47b0] | (simp only [i64_w, i32_w]; rw [c47b0]) | skip)
                    have H' := Aside0.mk H
                    clear H
                    go_wp2
                    go_meet
                    case rel => exact ⟨_, (true), hsr, H', ⟨by have := HJ2.out; have := HJ6.out; have := HK3.out; first | omega | exact Nat.le_refl _⟩, ⟨pR HO_47.out⟩, ⟨pk BK195.out⟩, ⟨pk BK197.out⟩, ⟨bl HB.out⟩⟩
                   ·rw [if_neg c47] at H
                    have c47b0 : (t207.toList == ([116, 114, 97, 110, 115, 102, 101, 114, 45, 101, 110, 99, 111, 100, 105, 110, 103] : List UInt8)) = false := beq_eq_false_iff_ne.mpr c47
                    have c47b1 : (t207.toList != ([116, 114, 97, 110, 115, 102, 101, 114, 45, 101, 110, 99, 111, 100, 105, 110, 103] : List UInt8)) = true := bne_iff_ne.mpr c47
                    (first | rw [c47b0] | (simp only [i64_w, i32_w]; rw [c47b0]) | skip)
                    by_cases c48 : t207.toList = ([99, 111, 110, 116, 101, 110, 116, 45, 108, 101, 110, 103, 116, 104] : List UInt8)
                    ·rw [if_pos c48] at H
                     have c48b0 : (t207.toList == ([99, 111, 110, 116, 101, 110, 116, 45, 108, 101, 110, 103, 116, 104] : List UInt8)) = true := beq_iff_eq.mpr c48
                     have c48b1 : (t207.toList != ([99, 111, 110, 116, 101, 110, 116, 45, 108, 101, 110, 103, 116, 104] : List UInt8)) = false := bne_eq_false_iff_eq.mpr c48
                     clear c48
                     have H' := Aside0.mk H
                     clear H
                     go_wp2
                     go_meet
                     case rel => exact ⟨_, (x7_3), hsr, H', ⟨by have := HJ2.out; have := HJ6.out; have := HK3.out; first | omega | exact Nat.le_refl _⟩, ⟨pR HO_47.out⟩, ⟨pk BK195.out⟩, ⟨pk BK197.out⟩, ⟨bl HB.out⟩⟩
                    ·rw [if_neg c48] at H
                     have c48b0 : (t207.toList == ([99, 111, 110, 116, 101, 110, 116, 45, 108, 101, 110, 103, 116, 104] : List UInt8)) = false := beq_eq_false_iff_ne.mpr c48
                     have c48b1 : (t207.toList != ([99, 111, 110, 116, 101, 110, 116, 45, 108, 101, 110, 103, 116, 104] : List UInt8)) = true := bne_iff_ne.mpr c48
                     have H' := Aside0.mk H
                     clear H
                     go_wp2
                     go_meet
                     case rel => exact ⟨_, (false), hsr, H', ⟨by have := HJ2.out; have := HJ6.out; have := HK3.out; first | omega | exact Nat.le_refl _⟩, ⟨pR HO_47.out⟩, ⟨pk BK195.out⟩, ⟨pk BK197.out⟩, ⟨bl HB.out⟩⟩
                  ·replace c46 := Bool.eq_false_iff.mpr c46
                   subst c46
                   have H1 : (http_Parse.j3 k3 (a0.extract ((ji14) : Int).toNat a0.size) x6_3 x7_3 t207 t208 t198 (t198.length : Int) x49_3 true x198000_3 x198001_3 x198002_3) = some (r1, r2, r3, r4) := by rw [if_neg (show ¬ (false = true) by decide)] at H; exact H
                   clear H
                   have H := H1
                   clear H1
                   have H' := Aside0.mk H
                   clear H
                   go_wp2
                   go_meet
                   case rel => exact ⟨_, (true), hsr, H', ⟨by have := HJ2.out; have := HJ6.out; have := HK3.out; first | omega | exact Nat.le_refl _⟩, ⟨pR HO_47.out⟩, ⟨pk BK195.out⟩, ⟨pk BK197.out⟩, ⟨bl HB.out⟩⟩
                 case rest =>
                  clear HC44
                  try clear c1
                  try clear c2
                  try clear p2
                  try clear q2
                  try clear hx2
                  try clear c3
                  try clear c4
                  try clear c6
                  try clear c6b0
                  try clear p6
                  try clear c8
                  try clear c9
                  try clear c9b0
                  try clear c10
                  try clear c12
                  try clear c12b0
                  try clear c15
                  try clear c15b0
                  try clear c15b1
                  try clear c16
                  try clear c16b0
                  try clear c16b1
                  try clear c17
                  try clear c17b0
                  try clear c17b1
                  try clear c18
                  try clear c18b0
                  try clear c18b1
                  try clear p20
                  try clear q20
                  try clear hx20
                  try clear c23
                  try clear c23b0
                  try clear c24
                  try clear c24b0
                  try clear c25
                  try clear c25b0
                  try clear c26
                  try clear c26b0
                  try clear c26b1
                  try clear c28
                  try clear c31
                  try clear c32
                  try clear c34
                  try clear c38
                  try clear c39
                  try clear c41
                  try clear c46
                  try clear c47
                  try clear c47b0
                  try clear c47b1
                  try clear c48
                  try clear c48b0
                  try clear c48b1
                  try clear hcz42_0 hcz42_1 hcz42_2 hfz42_0 hfz42_1 hfz42_2
                  try clear hcz40_0 hcz40_1 hcz40_2 hfz40_0 hfz40_1 hfz40_2
                  try clear hcz35_0 hcz35_1 hcz35_2 hfz35_0 hfz35_1 hfz35_2
                  try clear hcz33_0 hcz33_1 hcz33_2 hfz33_0 hfz33_1 hfz33_2
                  try clear hcz13_0 hcz13_1 hcz13_2 hfz13_0 hfz13_1 hfz13_2
                  try clear hcz11_0 hcz11_1 hcz11_2 hfz11_0 hfz11_1 hfz11_2
                  try clear hx201_0
                  try clear p2
                  try clear p201
                  try clear p6
                  try clear q201
                  obtain ⟨kq, x83_43, rfl, HA, HJ43, HO_47, BK195, BK197, HB⟩ := hcut
                  cases kq with
                  | zero => exact absurd HA.out (by simp [http_Parse.j3])
                  | succ kj43 =>
                   have H := HA.out
                   clear HA
                   simp only [http_Parse.j3] at H
                   by_cases c49 : x83_43 = true
                   ·subst c49
                    have H1 : (some ((⟨#[]⟩ : ByteArray), (⟨#[]⟩ : ByteArray), (⟨#[]⟩ : ByteArray), 40)) = some (r1, r2, r3, r4) := by rw [if_pos rfl] at H; exact H
                    clear H
                    have H := H1
                    clear H1
                    simp only [Option.some.injEq, Prod.mk.injEq] at H
                    obtain ⟨rfl, rfl, rfl, rfl⟩ := H
                    have hnb50 := NB195_197.out
                    have hnc50 := NB197_195.out
                    obtain ⟨hcz51_0, hcz51_1, hcz51_2, hfz51_0, hfz51_1, hfz51_2⟩ := cz3 BK195.out
                    go_wp2
                    refine bodyPost_ret (results_ct rfl _ _ gb195 23 #[.string (⟨#[]⟩ : ByteArray), .string (⟨#[]⟩ : ByteArray), .string (⟨#[]⟩ : ByteArray)] (0, 0) _ rfl (by refine pk ?_; refine blk_put (cs := #[.string (⟨#[]⟩ : ByteArray), .string (⟨#[]⟩ : ByteArray), .string x196002_3]) ?_ 2 _ rfl; refine pk ?_; refine blk_put (cs := #[.string (⟨#[]⟩ : ByteArray), .string x196001_3, .string x196002_3]) ?_ 1 _ rfl; refine pk ?_; refine blk_put (cs := #[.string x196000_3, .string x196001_3, .string x196002_3]) ?_ 0 _ rfl; exact pk BK195.out) Tryz.underlying23 rfl kr) rfl ?_
                    exact ⟨by first | rfl | (simp [errW_none, errW_some] <;> rfl) | (simp only [← hji14]; first | rfl | (simp [errW_none, errW_some] <;> rfl)) | (simp [*, errW_none, errW_some] <;> rfl), bl HB.out⟩
                   ·replace c49 := Bool.eq_false_iff.mpr c49
                    subst c49
                    have H1 : (if t207.toList = ([99, 111, 110, 116, 101, 110, 116, 45, 108, 101, 110, 103, 116, 104] : List UInt8) then ((http_length.f kj43 t208).bind fun bt210 => (if bt210.2 = 0 then (http_Parse.l0 kj43 (a0.extract ((ji14) : Int).toNat a0.size) bt210.1 true t198 (t198.length : Int) (wrap64 (x49_3 + 1)) x198000_3 x198001_3 x198002_3) else (some ((⟨#[]⟩ : ByteArray), (⟨#[]⟩ : ByteArray), (⟨#[]⟩ : ByteArray), bt210.2)))) else (http_Parse.l0 kj43 (a0.extract ((ji14) : Int).toNat a0.size) x6_3 x7_3 t198 (t198.length : Int) (wrap64 (x49_3 + 1)) x198000_3 x198001_3 x198002_3)) = some (r1, r2, r3, r4) := by rw [if_neg (show ¬ (false = true) by decide)] at H; exact H
                    clear H
                    have H := H1
                    clear H1
                    by_cases c52 : t207.toList = ([99, 111, 110, 116, 101, 110, 116, 45, 108, 101, 110, 103, 116, 104] : List UInt8)
                    ·rw [if_pos c52] at H
                     have c52b0 : (t207.toList == ([99, 111, 110, 116, 101, 110, 116, 45, 108, 101, 110, 103, 116, 104] : List UInt8)) = true := beq_iff_eq.mpr c52
                     have c52b1 : (t207.toList != ([99, 111, 110, 116, 101, 110, 116, 45, 108, 101, 110, 103, 116, 104] : List UInt8)) = false := bne_eq_false_iff_eq.mpr c52
                     clear c52
                     replace H := Option.bind_eq_some_iff.mp H
                     obtain ⟨⟨t210, t211⟩, A530, H⟩ := H
                     replace H : (if t211 = 0 then (http_Parse.l0 kj43 (a0.extract ((ji14) : Int).toNat a0.size) t210 true t198 (t198.length : Int) (wrap64 (x49_3 + 1)) x198000_3 x198001_3 x198002_3) else (some ((⟨#[]⟩ : ByteArray), (⟨#[]⟩ : ByteArray), (⟨#[]⟩ : ByteArray), t211))) = some (r1, r2, r3, r4) := H
                     have A53 := Aside0.mk A530
                     clear A530
                     by_cases c54 : t211 = 0
                     ·rw [if_pos c54] at H
                      have c54b0 : (t211 == 0) = true := beq_iff_eq.mpr c54
                      have c54b1 : (t211 != 0) = false := bne_eq_false_iff_eq.mpr c54
                      clear c54
                      have H' := Aside0.mk H
                      clear H
                      go_wp2_with (first | ((with_reducible refine gate_callee (f := 19) rfl ?_); refine goesL_ (some 89) rfl rfl Tryz.func19 kr rfl #[.string t208] rfl ga ?_; (with_reducible refine (http_length.calls kj43 t208 t210 t211 _ ?side1 A53.out).mono ?_); (case side1 => exact LaidU.below HU.out (bl HB.out)); rintro e w55 ⟨rfl, hb⟩; refine ⟨_, rfl, ?_⟩; replace HO_47 := Aside0.mk (Kd.R_below (pR HO_47.out) hb); replace BK195 := Aside0.mk (blk_below (pk BK195.out) hb); replace BK197 := Aside0.mk (blk_below (pk BK197.out) hb); replace HB := Aside0.mk (below_step (bl HB.out) hb); (try clear hb); (try clear hb2); (try clear hk); (try clear hi)))
                      go_roundg kj43
                      case measure => have := HJ2.out; have := HJ6.out; have := HK3.out; have := HJ43.out; omega
                      case rel => exact ⟨(t210), (true), (wrap64 (x49_3 + 1)), (x196000_3), (x196001_3), (x196002_3), (x198000_3), (x198001_3), (x198002_3), hsr, hsr, hsr, H', ⟨by have := HJ2.out; have := HJ6.out; have := HK3.out; have := HJ43.out; omega⟩, ⟨pR HO_47.out⟩, ⟨pk BK195.out⟩, ⟨pk BK197.out⟩, ⟨bl HB.out⟩⟩
                     ·rw [if_neg c54] at H
                      have c54b0 : (t211 == 0) = false := beq_eq_false_iff_ne.mpr c54
                      have c54b1 : (t211 != 0) = true := bne_iff_ne.mpr c54
                      simp only [Option.some.injEq, Prod.mk.injEq] at H
                      obtain ⟨rfl, rfl, rfl, rfl⟩ := H
                      go_wp2_with (first | ((with_reducible refine gate_callee (f := 19) rfl ?_); refine goesL_ (some 89) rfl rfl Tryz.func19 kr rfl #[.string t208] rfl ga ?_; (with_reducible refine (http_length.calls kj43 t208 t210 t211 _ ?side1 A53.out).mono ?_); (case side1 => exact LaidU.below HU.out (bl HB.out)); rintro e w56 ⟨rfl, hb⟩; refine ⟨_, rfl, ?_⟩; replace HO_47 := Aside0.mk (Kd.R_below (pR HO_47.out) hb); replace BK195 := Aside0.mk (blk_below (pk BK195.out) hb); replace BK197 := Aside0.mk (blk_below (pk BK197.out) hb); replace HB := Aside0.mk (below_step (bl HB.out) hb); (try clear hb); (try clear hb2); (try clear hk); (try clear hi); have hnb57 := NB195_197.out; have hnc57 := NB197_195.out; obtain ⟨hcz58_0, hcz58_1, hcz58_2, hfz58_0, hfz58_1, hfz58_2⟩ := cz3 BK195.out))
                      refine bodyPost_ret (results_ct rfl _ _ gb195 23 #[.string (⟨#[]⟩ : ByteArray), .string (⟨#[]⟩ : ByteArray), .string (⟨#[]⟩ : ByteArray)] (0, 0) _ rfl (by refine pk ?_; refine blk_put (cs := #[.string (⟨#[]⟩ : ByteArray), .string (⟨#[]⟩ : ByteArray), .string x196002_3]) ?_ 2 _ rfl; refine pk ?_; refine blk_put (cs := #[.string (⟨#[]⟩ : ByteArray), .string x196001_3, .string x196002_3]) ?_ 1 _ rfl; refine pk ?_; refine blk_put (cs := #[.string x196000_3, .string x196001_3, .string x196002_3]) ?_ 0 _ rfl; exact pk BK195.out) Tryz.underlying23 rfl kr) rfl ?_
                      exact ⟨by first | rfl | (simp [errW_none, errW_some] <;> rfl) | (simp only [← hji14]; first | rfl | (simp [errW_none, errW_some] <;> rfl)) | (simp [*, errW_none, errW_some] <;> rfl), bl HB.out⟩
                    ·rw [if_neg c52] at H
                     have c52b0 : (t207.toList == ([99, 111, 110, 116, 101, 110, 116, 45, 108, 101, 110, 103, 116, 104] : List UInt8)) = false := beq_eq_false_iff_ne.mpr c52
                     have c52b1 : (t207.toList != ([99, 111, 110, 116, 101, 110, 116, 45, 108, 101, 110, 103, 116, 104] : List UInt8)) = true := bne_iff_ne.mpr c52
                     have H' := Aside0.mk H
                     clear H
                     go_wp2
                     go_roundg kj43
                     case measure => have := HJ2.out; have := HJ6.out; have := HK3.out; have := HJ43.out; omega
                     case rel => exact ⟨(x6_3), (x7_3), (wrap64 (x49_3 + 1)), (x196000_3), (x196001_3), (x196002_3), (x198000_3), (x198001_3), (x198002_3), hsr, hsr, hsr, H', ⟨by have := HJ2.out; have := HJ6.out; have := HK3.out; have := HJ43.out; omega⟩, ⟨pR HO_47.out⟩, ⟨pk BK195.out⟩, ⟨pk BK197.out⟩, ⟨bl HB.out⟩⟩
               ·rw [if_neg c25] at H
                exact absurd H (by simp)
              ·rw [if_neg c24] at H
               exact absurd H (by simp)
             ·rw [if_neg c23] at H
              have c23b0 : decide (x49_3 < (t198.length : Int)) = false := decide_eq_false c23
              clear c23
              by_cases c59 : ((a0.extract ((ji14) : Int).toNat a0.size).size : Int) = x6_3
              ·rw [if_pos c59] at H
               have c59b0 : (((a0.extract ((ji14) : Int).toNat a0.size).size : Int) == x6_3) = true := beq_iff_eq.mpr c59
               have c59b5 := c59b0
               simp only [ByteArray.size_extract, Nat.min_self] at c59b5
               have c59b1 : (((a0.extract ((ji14) : Int).toNat a0.size).size : Int) != x6_3) = false := bne_eq_false_iff_eq.mpr c59
               have c59b6 := c59b1
               simp only [ByteArray.size_extract, Nat.min_self] at c59b6
               clear c59
               simp only [Option.some.injEq, Prod.mk.injEq] at H
               obtain ⟨rfl, rfl, rfl, rfl⟩ := H
               have hnb60 := NB197_195.out
               have hnc60 := NB195_197.out
               obtain ⟨hcz61_0, hcz61_1, hcz61_2, hfz61_0, hfz61_1, hfz61_2⟩ := cz3 BK197.out
               obtain ⟨hcz62_0, hcz62_1, hcz62_2, hfz62_0, hfz62_1, hfz62_2⟩ := cz3 BK195.out
               go_wp2
               refine bodyPost_ret (results_ct rfl _ _ gb195 23 #[.string x198000_3, .string x198001_3, .string (a0.extract ((ji14) : Int).toNat a0.size)] (0, 0) _ rfl (by refine pk ?_; refine blk_put (cs := #[.string x198000_3, .string x198001_3, .string x196002_3]) ?_ 2 _ rfl; refine pk ?_; refine blk_put (cs := #[.string x198000_3, .string x196001_3, .string x196002_3]) ?_ 1 _ rfl; refine pk ?_; refine blk_put (cs := #[.string x196000_3, .string x196001_3, .string x196002_3]) ?_ 0 _ rfl; refine pk ?_; refine blk_far ?_ NB195_197.out _; exact pk BK195.out) Tryz.underlying23 rfl kr) rfl ?_
               exact ⟨by first | rfl | (simp [errW_none, errW_some] <;> rfl) | (simp only [← hji14]; first | rfl | (simp [errW_none, errW_some] <;> rfl)) | (simp [*, errW_none, errW_some] <;> rfl), bl HB.out⟩
              ·rw [if_neg c59] at H
               have c59b0 : (((a0.extract ((ji14) : Int).toNat a0.size).size : Int) == x6_3) = false := beq_eq_false_iff_ne.mpr c59
               have c59b5 := c59b0
               simp only [ByteArray.size_extract, Nat.min_self] at c59b5
               have c59b1 : (((a0.extract ((ji14) : Int).toNat a0.size).size : Int) != x6_3) = true := bne_iff_ne.mpr c59
               have c59b6 := c59b1
               simp only [ByteArray.size_extract, Nat.min_self] at c59b6
               simp only [Option.some.injEq, Prod.mk.injEq] at H
               obtain ⟨rfl, rfl, rfl, rfl⟩ := H
               have hnb63 := NB195_197.out
               have hnc63 := NB197_195.out
               obtain ⟨hcz64_0, hcz64_1, hcz64_2, hfz64_0, hfz64_1, hfz64_2⟩ := cz3 BK195.out
               go_wp2
               refine bodyPost_ret (results_ct rfl _ _ gb195 23 #[.string (⟨#[]⟩ : ByteArray), .string (⟨#[]⟩ : ByteArray), .string (⟨#[]⟩ : ByteArray)] (0, 0) _ rfl (by refine pk ?_; refine blk_put (cs := #[.string (⟨#[]⟩ : ByteArray), .string (⟨#[]⟩ : ByteArray), .string x196002_3]) ?_ 2 _ rfl; refine pk ?_; refine blk_put (cs := #[.string (⟨#[]⟩ : ByteArray), .string x196001_3, .string x196002_3]) ?_ 1 _ rfl; refine pk ?_; refine blk_put (cs := #[.string x196000_3, .string x196001_3, .string x196002_3]) ?_ 0 _ rfl; exact pk BK195.out) Tryz.underlying23 rfl kr) rfl ?_
               exact ⟨by first | rfl | (simp [errW_none, errW_some] <;> rfl) | (simp only [← hji14]; first | rfl | (simp [errW_none, errW_some] <;> rfl)) | (simp [*, errW_none, errW_some] <;> rfl), bl HB.out⟩
          ·rw [if_neg c18] at H
           exact absurd H (by simp)
         ·rw [if_neg c17] at H
          exact absurd H (by simp)
        ·rw [if_neg c16] at H
         exact absurd H (by simp)
       ·rw [if_neg c15] at H
        exact absurd H (by simp)

/-! ### lodestarref04_find: function 20 -/
def lodestarref04_find.l0 : Nat → ByteArray → ByteArray → Int → Option (Int)
 | 0, _, _, _ => none
 | k + 1, x0, x1, x7 => if (wrap64 (x7 + (x1.size : Int))) ≤ (x0.size : Int) then (if 0 ≤ x7 then (if x7 ≤ (wrap64 (x7 + (x1.size : Int))) then (if (x0.extract (x7 : Int).toNat ((wrap64 (x7 + (x1.size : Int))) : Int).toNat).toList = x1.toList then (some x7) else (lodestarref04_find.l0 k x0 x1 (wrap64 (x7 + 1)))) else (none)) else (none)) else (some (-1))
def lodestarref04_find.f (k : Nat) (a0 : ByteArray) (a1 : ByteArray) (a2 : Int) : Option (Int) := lodestarref04_find.l0 k a0 a1 a2
theorem lodestarref04_find.mono_l : ∀ k, (∀ y0 y1 y2, LeO (lodestarref04_find.l0 k y0 y1 y2) (lodestarref04_find.l0 (k + 1) y0 y1 y2))
 | 0 => fun _ _ _ r h => by simp [lodestarref04_find.l0] at h
 | k + 1 => by
  have ih0 := lodestarref04_find.mono_l k
  ·intro y0 y1 y2
   unfold lodestarref04_find.l0
   repeat' first
   | (with_reducible exact ih0 _ _ _)
   | (with_reducible exact LeO.refl _)
   | (with_reducible exact LeO.none _)
   | (with_reducible refine LeO.ite ?_ ?_)
   | (with_reducible refine LeO.bind ?_ (fun _ => ?_))
   | exact ih0 _ _ _
   | exact LeO.none _
   | refine LeO.ite ?_ ?_
   | refine LeO.bind ?_ (fun _ => ?_)
theorem lodestarref04_find.mono : ∀ a0 a1 a2 k, LeO (lodestarref04_find.f k a0 a1 a2) (lodestarref04_find.f (k + 1) a0 a1 a2) := by
 intro a0 a1 a2 k
 have ih0 := lodestarref04_find.mono_l k
 unfold lodestarref04_find.f
 repeat' first
   | (with_reducible exact ih0 _ _ _)
   | (with_reducible exact LeO.refl _)
   | (with_reducible exact LeO.none _)
   | (with_reducible refine LeO.ite ?_ ?_)
   | (with_reducible refine LeO.bind ?_ (fun _ => ?_))
   | exact ih0 _ _ _
   | exact LeO.none _
   | refine LeO.ite ?_ ?_
   | refine LeO.bind ?_ (fun _ => ?_)
set_option maxHeartbeats 8000000 in
set_option maxRecDepth 100000 in
theorem lodestarref04_find.calls (k : Nat) (a0 : ByteArray) (a1 : ByteArray) (a2 : Int) (r : Int) (w : World) (h : lodestarref04_find.f k a0 a1 a2 = some r) :
  Calls Tryz.prog 20 #[.string a0, .string a1, .int .i64 a2] w fun e w' => e = .returned (.int .i64 r) ∧ Drawn0 w w' := by
 have H : (lodestarref04_find.l0 k a0 a1 a2) = some r := h
 clear h
 have H' := Aside0.mk H
 clear H
 go_enter Tryz.func20, Tryz.ntmps20
 go_wp2
 go_loopg [7] k (fun kq v7 w' => ∃ (x7_1 : Int), v7 = .int .i64 x7_1 ∧ Aside0 (lodestarref04_find.l0 kq a0 a1 x7_1 = some r) ∧ Aside0 (kq ≤ k) ∧ Drawn0 w w')
 case atStart => exact ⟨(a2), hsr, H', ⟨Nat.le_refl _⟩, by repeat (first | exact Drawn0.refl _ | apply Drawn0.step)⟩
 case round =>
  clear H'
  try clear c2
  try clear p2
  obtain ⟨x7_1, rfl, HA, HK1, ⟨m1, rfl⟩⟩ := hrel
  cases gk with
  | zero => exact absurd HA.out (by simp [lodestarref04_find.l0])
  | succ k1 =>
   have H := HA.out
   clear HA
   simp only [lodestarref04_find.l0] at H
   by_cases c4 : (wrap64 (x7_1 + (a1.size : Int))) ≤ (a0.size : Int)
   ·rw [if_pos c4] at H
    have c4b0 : decide ((wrap64 (x7_1 + (a1.size : Int))) ≤ (a0.size : Int)) = true := decide_eq_true c4
    clear c4
    by_cases c5 : 0 ≤ x7_1
    ·rw [if_pos c5] at H
     have c5b0 := eq_true c5
     have c5b1 : decide (0 ≤ x7_1) = true := decide_eq_true c5
     clear c5
     by_cases c6 : x7_1 ≤ (wrap64 (x7_1 + (a1.size : Int)))
     ·rw [if_pos c6] at H
      have c6b0 := eq_true c6
      have c6b1 : decide (x7_1 ≤ (wrap64 (x7_1 + (a1.size : Int)))) = true := decide_eq_true c6
      have c7b0 := eq_true (of_decide_eq_true ha : (wrap64 (x7_1 + (a1.size : Int))) ≤ (a0.size : Int))
      by_cases c8 : (a0.extract (x7_1 : Int).toNat ((wrap64 (x7_1 + (a1.size : Int))) : Int).toNat).toList = a1.toList
      ·rw [if_pos c8] at H
       have c8b0 : ((a0.extract (x7_1 : Int).toNat ((wrap64 (x7_1 + (a1.size : Int))) : Int).toNat).toList == a1.toList) = true := beq_iff_eq.mpr c8
       have c8b1 : ((a0.extract (x7_1 : Int).toNat ((wrap64 (x7_1 + (a1.size : Int))) : Int).toNat).toList != a1.toList) = false := bne_eq_false_iff_eq.mpr c8
       clear c8
       obtain rfl := Option.some.inj H
       go_wp2
       go_ret
       exact ⟨by first | rfl | (simp; done) | (simp [*]; done), by repeat (first | exact Drawn0.refl _ | apply Drawn0.step)⟩
      ·rw [if_neg c8] at H
       have c8b0 : ((a0.extract (x7_1 : Int).toNat ((wrap64 (x7_1 + (a1.size : Int))) : Int).toNat).toList == a1.toList) = false := beq_eq_false_iff_ne.mpr c8
       have c8b1 : ((a0.extract (x7_1 : Int).toNat ((wrap64 (x7_1 + (a1.size : Int))) : Int).toNat).toList != a1.toList) = true := bne_iff_ne.mpr c8
       have H' := Aside0.mk H
       clear H
       go_wp2
       go_roundg k1
       case measure => have := HK1.out; omega
       case rel => exact ⟨(wrap64 (x7_1 + 1)), hsr, H', ⟨by have := HK1.out; omega⟩, by repeat (first | exact Drawn0.refl _ | apply Drawn0.step)⟩
     ·rw [if_neg c6] at H
      exact absurd H (by simp)
    ·rw [if_neg c5] at H
     exact absurd H (by simp)
   ·rw [if_neg c4] at H
    have c4b0 : decide ((wrap64 (x7_1 + (a1.size : Int))) ≤ (a0.size : Int)) = false := decide_eq_false c4
    clear c4
    obtain rfl := Option.some.inj H
    go_wp2
    go_ret
    exact ⟨by first | rfl | (simp; done) | (simp [*]; done), by repeat (first | exact Drawn0.refl _ | apply Drawn0.step)⟩

end Go.Proofs.YteeiljjjgkinhaaGreatDoor.PHttpF
