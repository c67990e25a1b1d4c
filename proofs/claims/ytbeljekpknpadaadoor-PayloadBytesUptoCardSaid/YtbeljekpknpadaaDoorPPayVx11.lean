-- Written by a program of this session on top of the print: some functions by hand.
import Derived.Test.YtbeljekpknpadaaDoorPPayVx0
import Derived.Test.YtbeljekpknpadaaDoorPPayVx10
namespace Go.Proofs.YtbeljekpknpadaaDoor.PPayV
open Go.RowKit Go.Proofs.YtbeljekpknpadaaDoorW.PrintWords Go.Proofs.YtbeljekpknpadaaDoorW.PrintLast Go.Proofs.YtbeljekpknpadaaDoorW.PrintMore
attribute [local go_sem] max2_int min2_int max_two min_two max_three min_three max_four min_four   -- for this text's walks alone
set_option linter.unusedVariables false
set_option linter.unusedSimpArgs false

/-! ### lodestarref05_Encode: function 18 -/
mutual
def lodestarref05_Encode.l0 : Nat → ByteArray → Int → Int → List (S59) → List (S61) → Option (ByteArray × Int)
 | 0, _, _, _, _, _ => none
 | k + 1, x4, x5, x262000, x262001, x262002 => if x5 < (x262001.length : Int) then (if 0 ≤ x5 then ((lodestarref05_fix.f k (IntKind.u64.wrap ((((rd_T59 x262001 x5).f0).size : Int))) 1).bind fun t267 => (if t267.size + ((rd_T59 x262001 x5).f0).size ≤ 9223372036854775807 then ((lodestarref05_fix.f k (IntKind.u64.wrap ((((rd_T59 x262001 x5).f1).length : Int))) 1).bind fun t268 => (if (t267 ++ ((rd_T59 x262001 x5).f0)).size + t268.size ≤ 9223372036854775807 then (if x4.size + ((t267 ++ ((rd_T59 x262001 x5).f0)) ++ t268).size ≤ 9223372036854775807 then (lodestarref05_Encode.l1 k (x4 ++ ((t267 ++ ((rd_T59 x262001 x5).f0)) ++ t268)) x5 0 x262000 x262001 x262002 ((rd_T59 x262001 x5).f0) ((rd_T59 x262001 x5).f1)) else (none)) else (none))) else (none))) else (none)) else ((lodestarref05_fix.f k (IntKind.u64.wrap ((x262002.length : Int))) 1).bind fun t271 => (if x4.size + t271.size ≤ 9223372036854775807 then (lodestarref05_Encode.l2 k (x4 ++ t271) 0 x262000 x262001 x262002) else (none)))
def lodestarref05_Encode.l1 : Nat → ByteArray → Int → Int → Int → List (S59) → List (S61) → ByteArray → List Int → Option (ByteArray × Int)
 | 0, _, _, _, _, _, _, _, _ => none
 | k + 1, x4, x5, x7, x262000, x262001, x262002, x267000, x267001 => if x7 < (x267001.length : Int) then (if 0 ≤ x7 then ((lodestarref05_fix.f k (IntKind.u64.wrap (wrap64 ((rd x267001 x7) + 32768))) 2).bind fun t270 => (if x4.size + t270.size ≤ 9223372036854775807 then (lodestarref05_Encode.l1 k (x4 ++ t270) x5 (wrap64 (x7 + 1)) x262000 x262001 x262002 x267000 x267001) else (none))) else (none)) else (lodestarref05_Encode.l0 k x4 (wrap64 (x5 + 1)) x262000 x262001 x262002)
def lodestarref05_Encode.l2 : Nat → ByteArray → Int → Int → List (S59) → List (S61) → Option (ByteArray × Int)
 | 0, _, _, _, _, _ => none
 | k + 1, x4, x8, x262000, x262001, x262002 => if x8 < (x262002.length : Int) then (if 0 ≤ x8 then ((lodestarref05_fix.f k (IntKind.u64.wrap ((((rd_T61 x262002 x8).f0).size : Int))) 1).bind fun t274 => (if t274.size + ((rd_T61 x262002 x8).f0).size ≤ 9223372036854775807 then ((lodestarref05_fix.f k (IntKind.u64.wrap ((rd_T61 x262002 x8).f1.f0)) 1).bind fun t275 => (if (t274 ++ ((rd_T61 x262002 x8).f0)).size + t275.size ≤ 9223372036854775807 then (if x4.size + ((t274 ++ ((rd_T61 x262002 x8).f0)) ++ t275).size ≤ 9223372036854775807 then (if ((rd_T61 x262002 x8).f1.f0) = 1 then ((lodestarref05_fix.f k (IntKind.u64.wrap ((rd_T61 x262002 x8).f1.f1)) 8).bind fun t276 => (if (x4 ++ ((t274 ++ ((rd_T61 x262002 x8).f0)) ++ t275)).size + t276.size ≤ 9223372036854775807 then (lodestarref05_Encode.l2 k ((x4 ++ ((t274 ++ ((rd_T61 x262002 x8).f0)) ++ t275)) ++ t276) (wrap64 (x8 + 1)) x262000 x262001 x262002) else (none))) else (if ((rd_T61 x262002 x8).f1.f0) = 2 then ((lodestarref05_fix.f k (IntKind.u64.wrap ((((rd_T61 x262002 x8).f1.f2).size : Int))) 2).bind fun t277 => (if t277.size + ((rd_T61 x262002 x8).f1.f2).size ≤ 9223372036854775807 then (if (x4 ++ ((t274 ++ ((rd_T61 x262002 x8).f0)) ++ t275)).size + (t277 ++ ((rd_T61 x262002 x8).f1.f2)).size ≤ 9223372036854775807 then (lodestarref05_Encode.l2 k ((x4 ++ ((t274 ++ ((rd_T61 x262002 x8).f0)) ++ t275)) ++ (t277 ++ ((rd_T61 x262002 x8).f1.f2))) (wrap64 (x8 + 1)) x262000 x262001 x262002) else (none)) else (none))) else (if ((rd_T61 x262002 x8).f1.f0) = 3 then ((lodestarref05_fix.f k (IntKind.u64.wrap ((rd_T61 x262002 x8).f1.f1)) 1).bind fun t278 => (if (x4 ++ ((t274 ++ ((rd_T61 x262002 x8).f0)) ++ t275)).size + t278.size ≤ 9223372036854775807 then (lodestarref05_Encode.l2 k ((x4 ++ ((t274 ++ ((rd_T61 x262002 x8).f0)) ++ t275)) ++ t278) (wrap64 (x8 + 1)) x262000 x262001 x262002) else (none))) else (lodestarref05_Encode.l2 k (x4 ++ ((t274 ++ ((rd_T61 x262002 x8).f0)) ++ t275)) (wrap64 (x8 + 1)) x262000 x262001 x262002)))) else (none)) else (none))) else (none))) else (none)) else (some (x4, 0))
end
def lodestarref05_Encode.f (k : Nat) (a0_0 : Int) (l0_1 : List (S59)) (l0_2 : List (S61)) : Option (ByteArray × Int) := (lodestarref05_May.f k a0_0 l0_1 l0_2).bind fun t262 => (if t262 = true then ((lodestarref05_fix.f k (IntKind.u64.wrap (a0_0)) 8).bind fun t263 => ((lodestarref05_fix.f k (IntKind.u64.wrap ((l0_1.length : Int))) 1).bind fun t264 => (if t263.size + t264.size ≤ 9223372036854775807 then (lodestarref05_Encode.l0 k (t263 ++ t264) 0 a0_0 l0_1 l0_2) else (none)))) else (some ((⟨#[]⟩ : ByteArray), 120)))
theorem lodestarref05_Encode.mono_l : ∀ k, (∀ y0 y1 y2 y3 y4, LeO (lodestarref05_Encode.l0 k y0 y1 y2 y3 y4) (lodestarref05_Encode.l0 (k + 1) y0 y1 y2 y3 y4)) ∧ (∀ y0 y1 y2 y3 y4 y5 y6 y7, LeO (lodestarref05_Encode.l1 k y0 y1 y2 y3 y4 y5 y6 y7) (lodestarref05_Encode.l1 (k + 1) y0 y1 y2 y3 y4 y5 y6 y7)) ∧ (∀ y0 y1 y2 y3 y4, LeO (lodestarref05_Encode.l2 k y0 y1 y2 y3 y4) (lodestarref05_Encode.l2 (k + 1) y0 y1 y2 y3 y4))
 | 0 => ⟨fun _ _ _ _ _ r h => by simp [lodestarref05_Encode.l0] at h, fun _ _ _ _ _ _ _ _ r h => by simp [lodestarref05_Encode.l1] at h, fun _ _ _ _ _ r h => by simp [lodestarref05_Encode.l2] at h⟩
 | k + 1 => by
  obtain ⟨ih0, ih1, ih2⟩ := lodestarref05_Encode.mono_l k
  refine ⟨?_, ?_, ?_⟩
  all_goals intros
  all_goals first | unfold lodestarref05_Encode.l0 | unfold lodestarref05_Encode.l1 | unfold lodestarref05_Encode.l2
  all_goals repeat' first
   | (with_reducible exact ih0 _ _ _ _ _)
   | (with_reducible exact ih1 _ _ _ _ _ _ _ _)
   | (with_reducible exact ih2 _ _ _ _ _)
   | (with_reducible exact lodestarref05_May.mono _ _ _ _)
   | (with_reducible exact lodestarref05_fix.mono _ _ _)
   | (with_reducible exact LeO.refl _)
   | (with_reducible exact LeO.none _)
   | (with_reducible refine LeO.ite ?_ ?_)
   | (with_reducible refine LeO.bind ?_ (fun _ => ?_))
   | exact ih0 _ _ _ _ _
   | exact ih1 _ _ _ _ _ _ _ _
   | exact ih2 _ _ _ _ _
   | exact lodestarref05_May.mono _ _ _ _
   | exact lodestarref05_fix.mono _ _ _
   | exact LeO.none _
   | refine LeO.ite ?_ ?_
   | refine LeO.bind ?_ (fun _ => ?_)
theorem lodestarref05_Encode.mono : ∀ a0 a1 a2 k, LeO (lodestarref05_Encode.f k a0 a1 a2) (lodestarref05_Encode.f (k + 1) a0 a1 a2) := by
 intro a0 a1 a2 k
 obtain ⟨ih0, ih1, ih2⟩ := lodestarref05_Encode.mono_l k
 unfold lodestarref05_Encode.f
 repeat' first
   | (with_reducible exact ih0 _ _ _ _ _)
   | (with_reducible exact ih1 _ _ _ _ _ _ _ _)
   | (with_reducible exact ih2 _ _ _ _ _)
   | (with_reducible exact lodestarref05_May.mono _ _ _ _)
   | (with_reducible exact lodestarref05_fix.mono _ _ _)
   | (with_reducible exact LeO.refl _)
   | (with_reducible exact LeO.none _)
   | (with_reducible refine LeO.ite ?_ ?_)
   | (with_reducible refine LeO.bind ?_ (fun _ => ?_))
   | exact ih0 _ _ _ _ _
   | exact ih1 _ _ _ _ _ _ _ _
   | exact ih2 _ _ _ _ _
   | exact lodestarref05_May.mono _ _ _ _
   | exact lodestarref05_fix.mono _ _ _
   | exact LeO.none _
   | refine LeO.ite ?_ ?_
   | refine LeO.bind ?_ (fun _ => ?_)
def lodestarref05_Encode.T3 : Bool × List (List Nat × List Nat) := (true, [([], []), ([0], [0]), ([1], [1]), ([2], [2]), ([], []), ([4], [4]), ([5], [5]), ([6], [6]), ([7, 3], [7]), ([3, 8], [3, 8]), ([9, 8, 0, 1, 2, 3, 4, 5, 6, 7, 8, 9], [9])])
def lodestarref05_Encode.B3 : List Nat := [0, 1, 3, 7, 0, 16, 48, 112, 255, 511, 1023]
theorem lodestarref05_Encode.tab3 : rtab .any (opsOf Tryd.f18 3) = lodestarref05_Encode.T3 := by kernel_rfl
theorem lodestarref05_Encode.bits3 : waitsOk lodestarref05_Encode.T3.2 lodestarref05_Encode.B3 = true := by kernel_rfl
def lodestarref05_Encode.T8 : Bool × List (List Nat × List Nat) := (true, [([], []), ([], []), ([1], [1]), ([2], [2]), ([3], [3]), ([4], [4]), ([], []), ([6], [6]), ([5, 7], [5, 7]), ([], []), ([9], [9]), ([10], [10]), ([11], [11]), ([12, 5], [12]), ([8, 13], [8, 13]), ([0, 14], [0, 14]), ([15, 13, 0, 1, 2, 3, 4, 5, 6, 7, 8, 9, 10, 11, 12, 13, 14, 15], [0, 15])])
def lodestarref05_Encode.B8 : List Nat := [0, 0, 2, 6, 14, 30, 0, 64, 254, 0, 512, 1536, 3584, 7742, 16382, 32767, 65535]
theorem lodestarref05_Encode.tab8 : rtab .any (opsOf Tryd.f18 8) = lodestarref05_Encode.T8 := by kernel_rfl
theorem lodestarref05_Encode.bits8 : waitsOk lodestarref05_Encode.T8.2 lodestarref05_Encode.B8 = true := by kernel_rfl
def lodestarref05_Encode.T18 : Bool × List (List Nat × List Nat) := (true, [([], []), ([], []), ([1], [1]), ([2], [2]), ([3], [3]), ([4], [4]), ([], []), ([6], [6]), ([5, 7], [5, 7]), ([], []), ([9], [9]), ([10], [10]), ([11], [11]), ([12, 5], [12]), ([8, 13], [8, 13]), ([0, 14], [0, 14]), ([15, 13, 0, 1, 2, 3, 4, 5, 6, 7, 8, 9, 10, 11, 12, 13, 14, 15], [0, 15])])
def lodestarref05_Encode.B18 : List Nat := [0, 0, 2, 6, 14, 30, 0, 64, 254, 0, 512, 1536, 3584, 7742, 16382, 32767, 65535]
theorem lodestarref05_Encode.tab18 : rtab .any (opsOf Tryd.f18 18) = lodestarref05_Encode.T18 := by kernel_rfl
theorem lodestarref05_Encode.bits18 : waitsOk lodestarref05_Encode.T18.2 lodestarref05_Encode.B18 = true := by kernel_rfl
def lodestarref05_Encode.T23 : Bool × List (List Nat × List Nat) := (true, [([], []), ([], []), ([1], [1]), ([2], [2]), ([3], [3]), ([4], [4]), ([5], [5]), ([], []), ([7], [7]), ([8], [8]), ([6, 9], [6, 9]), ([0, 10], [0, 10]), ([11, 6, 0, 1, 2, 3, 4, 5, 6, 7, 8, 9, 10, 11], [0, 11])])
def lodestarref05_Encode.B23 : List Nat := [0, 0, 2, 6, 14, 30, 62, 0, 128, 384, 1022, 2047, 4095]
theorem lodestarref05_Encode.tab23 : rtab .any (opsOf Tryd.f18 23) = lodestarref05_Encode.T23 := by kernel_rfl
theorem lodestarref05_Encode.bits23 : waitsOk lodestarref05_Encode.T23.2 lodestarref05_Encode.B23 = true := by kernel_rfl
set_option maxHeartbeats 8000000 in
set_option maxRecDepth 100000 in
theorem lodestarref05_Encode.calls (k : Nat) (a0_0 : Int) (A0_1 : Option Addr) (c0_1 : Nat) (l0_1 : List (S59)) (A0_2 : Option Addr) (c0_2 : Nat) (l0_2 : List (S61)) (r1 : ByteArray) (r2 : Int) (w : World) (hr0_1 : Kd.C k59 w A0_1 l0_1.length l0_1) (hc0_1 : l0_1.length ≤ c0_1) (hr0_2 : Kd.C k61 w A0_2 l0_2.length l0_2) (hc0_2 : l0_2.length ≤ c0_2) (h : lodestarref05_Encode.f k a0_0 l0_1 l0_2 = some (r1, r2)) :
  Calls Tryd.prog 18 #[.agg #[.int .i64 a0_0, .slice A0_1 l0_1.length c0_1, .slice A0_2 l0_2.length c0_2]] w fun e w' => e = .returned (.tuple #[.string r1, .int .i64 r2]) ∧ Below w.heap.size w w' := by
 have hu25 := Tryd.underlying25
 have hu59 := Tryd.underlying59
 have hu61 := Tryd.underlying61
 have HR0_1 := Aside0.mk hr0_1
 have HC0_1 := Aside0.mk hc0_1
 clear hr0_1 hc0_1
 have HR0_2 := Aside0.mk hr0_2
 have HC0_2 := Aside0.mk hc0_2
 clear hr0_2 hc0_2
 have HB := Aside0.mk (Below.refl w.heap.size w)
 have H : ((lodestarref05_May.f k a0_0 l0_1 l0_2).bind fun t262 => (if t262 = true then ((lodestarref05_fix.f k (IntKind.u64.wrap (a0_0)) 8).bind fun t263 => ((lodestarref05_fix.f k (IntKind.u64.wrap ((l0_1.length : Int))) 1).bind fun t264 => (if t263.size + t264.size ≤ 9223372036854775807 then (lodestarref05_Encode.l0 k (t263 ++ t264) 0 a0_0 l0_1 l0_2) else (none)))) else (some ((⟨#[]⟩ : ByteArray), 120)))) = some (r1, r2) := h
 clear h
 replace H := Option.bind_eq_some_iff.mp H
 obtain ⟨t262, A20, H⟩ := H
 replace H : (if t262 = true then ((lodestarref05_fix.f k (IntKind.u64.wrap (a0_0)) 8).bind fun t263 => ((lodestarref05_fix.f k (IntKind.u64.wrap ((l0_1.length : Int))) 1).bind fun t264 => (if t263.size + t264.size ≤ 9223372036854775807 then (lodestarref05_Encode.l0 k (t263 ++ t264) 0 a0_0 l0_1 l0_2) else (none)))) else (some ((⟨#[]⟩ : ByteArray), 120))) = some (r1, r2) := H
 have A2 := Aside0.mk A20
 clear A20
 by_cases c3 : t262 = true
 ·subst c3
  have H1 : ((lodestarref05_fix.f k (IntKind.u64.wrap (a0_0)) 8).bind fun t263 => ((lodestarref05_fix.f k (IntKind.u64.wrap ((l0_1.length : Int))) 1).bind fun t264 => (if t263.size + t264.size ≤ 9223372036854775807 then (lodestarref05_Encode.l0 k (t263 ++ t264) 0 a0_0 l0_1 l0_2) else (none)))) = some (r1, r2) := by rw [if_pos rfl] at H; exact H
  clear H
  have H := H1
  clear H1
  replace H := Option.bind_eq_some_iff.mp H
  obtain ⟨t263, A40, H⟩ := H
  replace H : ((lodestarref05_fix.f k (IntKind.u64.wrap ((l0_1.length : Int))) 1).bind fun t264 => (if t263.size + t264.size ≤ 9223372036854775807 then (lodestarref05_Encode.l0 k (t263 ++ t264) 0 a0_0 l0_1 l0_2) else (none))) = some (r1, r2) := H
  have A4 := Aside0.mk A40
  clear A40
  replace H := Option.bind_eq_some_iff.mp H
  obtain ⟨t264, A50, H⟩ := H
  replace H : (if t263.size + t264.size ≤ 9223372036854775807 then (lodestarref05_Encode.l0 k (t263 ++ t264) 0 a0_0 l0_1 l0_2) else (none)) = some (r1, r2) := H
  have A5 := Aside0.mk A50
  clear A50
  by_cases c6 : t263.size + t264.size ≤ 9223372036854775807
  ·rw [if_pos c6] at H
   have c6b0 := eq_true c6
   have c6b1 : decide (t263.size + t264.size ≤ 9223372036854775807) = true := decide_eq_true c6
   try have c6b2 : (9223372036854775807 < t263.size + t264.size) = False := eq_false (Nat.not_lt.2 c6)
   have H' := Aside0.mk H
   clear H
   go_enter Tryd.func18, Tryd.ntmps18
   try go_wp2_with (first | ((with_reducible refine gate_dst (N := 1) rfl ?_); refine box_event ?hg (N := 1) ?hd (cs := #[.int .i64 a0_0, .slice A0_1 l0_1.length c0_1, .slice A0_2 l0_2.length c0_2]) (t := 25) ?hr ?_; (case hd => rfl); (case hg => rfl); (case hr => first | (go_simp; done) | (go_simp; rfl)); intro gb261 hg w7 hbox hb; have BK261 := Aside0.mk (hbox); have GW261 := Aside0.mk (gs (w := w) hg (bl HB.out)); have GE261 := Aside0.mk (gs (w := w) hg (bl HB.out)); replace HB := Aside0.mk (below_step (bl HB.out) hb); clear hb hbox hg; obtain ⟨hcz8_0, hcz8_1, hcz8_2, hfz8_0, hfz8_1, hfz8_2⟩ := cz3 BK261.out) | ((with_reducible refine gate_callee (f := 21) rfl ?_); refine goesL_ (some 11) rfl rfl Tryd.func21 kr rfl #[.agg #[.int .i64 a0_0, .slice A0_1 l0_1.length c0_1, .slice A0_2 l0_2.length c0_2]] rfl ga ?_; (with_reducible refine (lodestarref05_May.calls k a0_0 _ _ l0_1 _ _ l0_2 true _ ?side1 ?side2 ?side3 ?side4 A2.out).mono ?_); (case side1 => repeat (first | exact (Kd.C_below HR0_1.out HB.out) | (with_reducible refine Kd.C_alloc ?_ _) | (with_reducible refine Kd.C_drewN ?_ _) | (with_reducible refine Kd.C_drew ?_))); (case side2 => exact HC0_1.out); (case side3 => repeat (first | exact (Kd.C_below HR0_2.out HB.out) | (with_reducible refine Kd.C_alloc ?_ _) | (with_reducible refine Kd.C_drewN ?_ _) | (with_reducible refine Kd.C_drew ?_))); (case side4 => exact HC0_2.out); rintro e w9 ⟨rfl, hb⟩; refine ⟨_, rfl, ?_⟩; replace BK261 := Aside0.mk (blk_below (pk BK261.out) hb); replace HB := Aside0.mk (below_step (bl HB.out) hb); (try clear hb); (try clear hb2); (try clear hk); (try clear hi)))
   replace BK261 := Aside0.mk (blk_drew BK261.out)
   replace HB := Aside0.mk (below_drew1 HB.out)
   refine start_ (n := 11) (S := fun w' => w'.cell? ⟨gb261, 0, none⟩ = some (.int .i64 a0_0) ∧ w'.cell? ⟨gb261, 1, none⟩ = some (.slice A0_1 l0_1.length c0_1) ∧ w'.cell? ⟨gb261, 2, none⟩ = some (.slice A0_2 l0_2.length c0_2)) (ds := []) #[false, false, false, false, false, false, false, false, false, false, false] kr rfl rfl ⟨(blk_cell BK261.out 0).trans rfl, (blk_cell BK261.out 1).trans rfl, (blk_cell BK261.out 2).trans rfl⟩ (fun hHeld => ?_); refine with_tabW lodestarref05_Encode.tab3 lodestarref05_Encode.bits3 (fun HT_ HW_ => ?_)
   generalize w9.drew = w10 at BK261 HB hHeld ⊢
   refine pure_ (i := 0) (N := some 13) (v := ?_) (a' := ?_) #[true, false, false, false, false, false, false, false, false, false, false] rfl rfl (any_of HT_.out kr) (fun _ _ _ h => h) (Or.inl ⟨by rfl, ?_⟩) ?_ ?_
   rotate_left
   ·exact wl
   rotate_left
   ·exact ap
   refine pure_ (i := 4) (N := some 17) (v := ?_) (a' := ?_) #[true, false, false, false, true, false, false, false, false, false, false] rfl rfl (any_of HT_.out kr) (fun _ _ _ h => h) (Or.inl ⟨by rfl, ?_⟩) ?_ ?_
   rotate_left
   ·exact wl
   rotate_left
   ·exact ap
   refine take_ (i := 1) (N := some 14) (v := ?_) (a' := ?_) #[true, true, false, false, true, false, false, false, false, false, false] rfl rfl (take_ofW HT_.out HW_.out kr) (fun _ _ _ h => h) (Or.inl ⟨by rfl, ?_⟩) hHeld ?_ ?_
   rotate_left
   ·rintro w' ⟨s0, s1, s2⟩
    go_simp
    exact rl
   rotate_left
   ·exact ap
   refine pure_ (i := 2) (N := some 15) (v := ?_) (a' := ?_) #[true, true, true, false, true, false, false, false, false, false, false] rfl rfl (any_of HT_.out kr) (fun _ _ _ h => h) (Or.inl ⟨by rfl, ?_⟩) ?_ ?_
   rotate_left
   ·exact wl
   rotate_left
   ·exact ap
   refine take_ (i := 5) (N := some 18) (v := ?_) (a' := ?_) #[true, true, true, false, true, true, false, false, false, false, false] rfl rfl (take_ofW HT_.out HW_.out kr) (fun _ _ _ h => h) (Or.inl ⟨by rfl, ?_⟩) hHeld ?_ ?_
   rotate_left
   ·rintro w' ⟨s0, s1, s2⟩
    go_simp
    exact rl
   rotate_left
   ·exact ap
   refine pure_ (i := 6) (N := some 19) (v := ?_) (a' := ?_) #[true, true, true, false, true, true, true, false, false, false, false] rfl rfl (any_of HT_.out kr) (fun _ _ _ h => h) (Or.inl ⟨by rfl, ?_⟩) ?_ ?_
   rotate_left
   ·exact wl
   rotate_left
   ·exact ap
   refine pure_ (i := 7) (N := some 20) (v := ?_) (a' := ?_) #[true, true, true, false, true, true, true, true, false, false, false] rfl rfl (any_of HT_.out kr) (fun _ _ _ h => h) (Or.inl ⟨by rfl, ?_⟩) ?_ ?_
   rotate_left
   ·exact wl
   rotate_left
   ·exact ap
   refine one_ (i := 3) (N := some 16) #[true, true, true, true, true, true, true, true, false, false, false] rfl rfl (one_of HT_.out kr) (by decide) (fun K hK => ?_)
   refine goes_ Tryd.func38 kr rfl #[.int .u64 (IntKind.u64.wrap (a0_0)), .int .i64 8] (by rfl) rfl rfl ga ?_
   with_reducible refine (lodestarref05_fix.calls k (IntKind.u64.wrap (a0_0)) 8 t263 _ A4.out).mono ?_
   rintro e w11 ⟨rfl, hb⟩
   refine ⟨_, rfl, ?_⟩
   replace BK261 := Aside0.mk (blk_below (pk BK261.out) hb)
   replace HB := Aside0.mk (below_step (bl HB.out) hb)
   (try clear hb)
   (try clear hb2)
   (try clear hk)
   (try clear hi)
   refine hK.out _ _ ⟨(blk_cell BK261.out 0).trans rfl, (blk_cell BK261.out 1).trans rfl, (blk_cell BK261.out 2).trans rfl⟩ (fun hHeld => ?_)
   clear hK K
   refine norm_ (a' := ?_) ?_ ?_
   rotate_left
   ·show Act.put _ (some 16) _ = _
    exact ap
   refine one_ (i := 8) (N := some 21) #[true, true, true, true, true, true, true, true, true, false, false] rfl rfl (one_of HT_.out kr) (by decide) (fun K hK => ?_)
   refine goes_ Tryd.func38 kr rfl #[.int .u64 (IntKind.u64.wrap ((l0_1.length : Int))), .int .i64 1] (by rfl) rfl rfl ga ?_
   with_reducible refine (lodestarref05_fix.calls k (IntKind.u64.wrap ((l0_1.length : Int))) 1 t264 _ A5.out).mono ?_
   rintro e w12 ⟨rfl, hb⟩
   refine ⟨_, rfl, ?_⟩
   replace BK261 := Aside0.mk (blk_below (pk BK261.out) hb)
   replace HB := Aside0.mk (below_step (bl HB.out) hb)
   (try clear hb)
   (try clear hb2)
   (try clear hk)
   (try clear hi)
   refine hK.out _ _ ⟨(blk_cell BK261.out 0).trans rfl, (blk_cell BK261.out 1).trans rfl, (blk_cell BK261.out 2).trans rfl⟩ (fun hHeld => ?_)
   clear hK K
   refine norm_ (a' := ?_) ?_ ?_
   rotate_left
   ·show Act.put _ (some 21) _ = _
    exact ap
   refine pure_ (i := 9) (N := some 22) (v := ?_) (a' := ?_) #[true, true, true, true, true, true, true, true, true, true, false] rfl rfl (any_of HT_.out kr) (fun _ _ _ h => h) (Or.inl ⟨by rfl, ?_⟩) ?_ ?_
   rotate_left
   ·exact wl
   rotate_left
   ·exact ap
   refine pure_ (i := 10) (N := some 4) (v := ?_) (a' := ?_) #[true, true, true, true, true, true, true, true, true, true, true] rfl rfl (any_of HT_.out kr) (fun _ _ _ h => h) (Or.inl ⟨by rfl, ?_⟩) ?_ ?_
   rotate_left
   ·exact wl
   rotate_left
   ·exact ap
   refine done_ (done_of HT_.out kr) ?_
   try go_wp2
   go_loopg [4, 5] k (fun kq v4 v5 w' => ∃ (x4_1 : ByteArray) (x5_1 : Int), v4 = .string x4_1 ∧ v5 = .int .i64 x5_1 ∧ Aside0 (lodestarref05_Encode.l0 kq x4_1 x5_1 a0_0 l0_1 l0_2 = some (r1, r2)) ∧ Aside0 (kq ≤ k) ∧ Aside0 (w'.heap[gb261]? = some (.cells #[.int .i64 a0_0, (.slice A0_1 l0_1.length c0_1), (.slice A0_2 l0_2.length c0_2)] 25 (0, 0))) ∧ Aside0 (Below w.heap.size w w'))
   case atStart => exact ⟨(t263 ++ t264), (0), hsr, hsr, H', ⟨Nat.le_refl _⟩, ⟨pk BK261.out⟩, ⟨bl HB.out⟩⟩
   case round =>
    clear H'
    try clear c1
    try clear c2
    try clear p2
    try clear c3
    try clear c6
    try clear c6b0
    try clear c6b1
    try clear c6b2
    try clear p6
    try clear hcz8_0 hcz8_1 hcz8_2 hfz8_0 hfz8_1 hfz8_2
    obtain ⟨x4_1, x5_1, rfl, rfl, HA, HK1, BK261, HB⟩ := hrel
    cases gk with
    | zero => exact absurd HA.out (by simp [lodestarref05_Encode.l0])
    | succ k1 =>
     have H := HA.out
     clear HA
     simp only [lodestarref05_Encode.l0] at H
     by_cases c13 : x5_1 < (l0_1.length : Int)
     ·rw [if_pos c13] at H
      have c13b0 : decide (x5_1 < (l0_1.length : Int)) = true := decide_eq_true c13
      clear c13
      by_cases c14 : 0 ≤ x5_1
      ·rw [if_pos c14] at H
       have c14b0 : decide (0 ≤ x5_1) = true := decide_eq_true c14
       clear c14
       replace H := Option.bind_eq_some_iff.mp H
       obtain ⟨t267, A150, H⟩ := H
       replace H : (if t267.size + ((rd_T59 l0_1 x5_1).f0).size ≤ 9223372036854775807 then ((lodestarref05_fix.f k1 (IntKind.u64.wrap ((((rd_T59 l0_1 x5_1).f1).length : Int))) 1).bind fun t268 => (if (t267 ++ ((rd_T59 l0_1 x5_1).f0)).size + t268.size ≤ 9223372036854775807 then (if x4_1.size + ((t267 ++ ((rd_T59 l0_1 x5_1).f0)) ++ t268).size ≤ 9223372036854775807 then (lodestarref05_Encode.l1 k1 (x4_1 ++ ((t267 ++ ((rd_T59 l0_1 x5_1).f0)) ++ t268)) x5_1 0 a0_0 l0_1 l0_2 ((rd_T59 l0_1 x5_1).f0) ((rd_T59 l0_1 x5_1).f1)) else (none)) else (none))) else (none)) = some (r1, r2) := H
       have A15 := Aside0.mk A150
       clear A150
       by_cases c16 : t267.size + ((rd_T59 l0_1 x5_1).f0).size ≤ 9223372036854775807
       ·rw [if_pos c16] at H
        have c16b0 := eq_true c16
        have c16b1 : decide (t267.size + ((rd_T59 l0_1 x5_1).f0).size ≤ 9223372036854775807) = true := decide_eq_true c16
        try have c16b2 : (9223372036854775807 < t267.size + ((rd_T59 l0_1 x5_1).f0).size) = False := eq_false (Nat.not_lt.2 c16)
        replace H := Option.bind_eq_some_iff.mp H
        obtain ⟨t268, A170, H⟩ := H
        replace H : (if (t267 ++ ((rd_T59 l0_1 x5_1).f0)).size + t268.size ≤ 9223372036854775807 then (if x4_1.size + ((t267 ++ ((rd_T59 l0_1 x5_1).f0)) ++ t268).size ≤ 9223372036854775807 then (lodestarref05_Encode.l1 k1 (x4_1 ++ ((t267 ++ ((rd_T59 l0_1 x5_1).f0)) ++ t268)) x5_1 0 a0_0 l0_1 l0_2 ((rd_T59 l0_1 x5_1).f0) ((rd_T59 l0_1 x5_1).f1)) else (none)) else (none)) = some (r1, r2) := H
        have A17 := Aside0.mk A170
        clear A170
        by_cases c18 : (t267 ++ ((rd_T59 l0_1 x5_1).f0)).size + t268.size ≤ 9223372036854775807
        ·rw [if_pos c18] at H
         have c18b0 := eq_true c18
         have c18b1 : decide ((t267 ++ ((rd_T59 l0_1 x5_1).f0)).size + t268.size ≤ 9223372036854775807) = true := decide_eq_true c18
         try have c18b2 : (9223372036854775807 < (t267 ++ ((rd_T59 l0_1 x5_1).f0)).size + t268.size) = False := eq_false (Nat.not_lt.2 c18)
         (try (have c18z0 := c18b0; simp only [ByteArray.size_append] at c18z0))
         (try (have c18z1 := c18b1; simp only [ByteArray.size_append] at c18z1))
         (try (have c18z2 := c18b2; simp only [ByteArray.size_append] at c18z2))
         by_cases c19 : x4_1.size + ((t267 ++ ((rd_T59 l0_1 x5_1).f0)) ++ t268).size ≤ 9223372036854775807
         ·rw [if_pos c19] at H
          have c19b0 := eq_true c19
          have c19b1 : decide (x4_1.size + ((t267 ++ ((rd_T59 l0_1 x5_1).f0)) ++ t268).size ≤ 9223372036854775807) = true := decide_eq_true c19
          try have c19b2 : (9223372036854775807 < x4_1.size + ((t267 ++ ((rd_T59 l0_1 x5_1).f0)) ++ t268).size) = False := eq_false (Nat.not_lt.2 c19)
          (try (have c19z0 := c19b0; simp only [ByteArray.size_append] at c19z0))
          (try (have c19z1 := c19b1; simp only [ByteArray.size_append] at c19z1))
          (try (have c19z2 := c19b2; simp only [ByteArray.size_append] at c19z2))
          have H' := Aside0.mk H
          clear H
          obtain ⟨hcz20_0, hcz20_1, hcz20_2, hfz20_0, hfz20_1, hfz20_2⟩ := cz3 BK261.out
          have p265 : 0 ≤ (x5_1 : Int) := of_decide_eq_true ha
          have q265 : x5_1 < (l0_1.length : Int) := of_decide_eq_true ha
          obtain ⟨ad265, A265_1, c265_1, e265, hx265_0, hx265_1, hl265_1, hi265_1⟩ := at_T59 HR0_1.out x5_1 p265 q265
          cases e265
          replace hx265_0 := (HB.out.cell (World.block_lt_of_cell? w _ hx265_0)).trans hx265_0
          replace hx265_1 := (HB.out.cell (World.block_lt_of_cell? w _ hx265_1)).trans hx265_1
          have HR265_1 := Aside0.mk hi265_1
          have HC265_1 := Aside0.mk hl265_1
          clear hi265_1 hl265_1
          replace p265 := eq_true p265
          replace q265 := eq_true q265
          try go_wp2_with (first | ((with_reducible refine gate_dst (N := 6) rfl ?_); refine box_event ?hg (N := 6) ?hd (cs := #[.string (⟨#[]⟩ : ByteArray), .slice none 0 0]) (t := 59) ?hr ?_; (case hd => rfl); (case hg => rfl); (case hr => first | (go_simp; done) | (go_simp; rfl)); intro gb266 hg w21 hbox hb; have BK266 := Aside0.mk (hbox); have GW266 := Aside0.mk (gs (w := w) hg (bl HB.out)); have GE266 := Aside0.mk (gs (w := w) hg (bl HB.out)); replace HB := Aside0.mk (below_step (bl HB.out) hb); have NB261_266 := Aside0.mk ((gl (g := gb261) hg (pk BK261.out))); have NB266_261 := Aside0.mk ((gm (g := gb261) hg (pk BK261.out))); replace BK261 := Aside0.mk (blk_below (pk BK261.out) hb); clear hb hbox hg; have hnb22 := NB266_261.out; have hnc22 := NB261_266.out; obtain ⟨hcz23_0, hcz23_1, hfz23_0, hfz23_1⟩ := cz2 BK266.out))
          have n0_ : Aside0 (((w21.setCell ⟨gb266, 0, none⟩ (.string ((rd_T59 l0_1 x5_1).f0))).setCell ⟨gb266, 1, none⟩ (.slice A265_1 ((rd_T59 l0_1 x5_1).f1).length c265_1)).heap[gb261]? = some (.cells #[.int .i64 a0_0, .slice (some ad265) l0_1.length c0_1, .slice A0_2 l0_2.length c0_2] 25 (0, 0))) := ⟨by refine pk ?_; refine blk_far ?_ NB261_266.out _; refine pk ?_; refine blk_far ?_ NB261_266.out _; exact pk BK261.out⟩
          have n1_ : Aside0 (((w21.setCell ⟨gb266, 0, none⟩ (.string ((rd_T59 l0_1 x5_1).f0))).setCell ⟨gb266, 1, none⟩ (.slice A265_1 ((rd_T59 l0_1 x5_1).f1).length c265_1)).heap[gb266]? = some (.cells #[.string ((rd_T59 l0_1 x5_1).f0), .slice A265_1 ((rd_T59 l0_1 x5_1).f1).length c265_1] 59 (0, 0))) := ⟨by refine pk ?_; refine blk_put (cs := #[.string ((rd_T59 l0_1 x5_1).f0), .slice none 0 0]) ?_ 1 _ rfl; refine pk ?_; refine blk_put (cs := #[.string (⟨#[]⟩ : ByteArray), .slice none 0 0]) ?_ 0 _ rfl; exact pk BK266.out⟩
          have n2_ : Aside0 (Below w.heap.size w ((w21.setCell ⟨gb266, 0, none⟩ (.string ((rd_T59 l0_1 x5_1).f0))).setCell ⟨gb266, 1, none⟩ (.slice A265_1 ((rd_T59 l0_1 x5_1).f1).length c265_1))) := ⟨bl HB.out⟩
          (try clear BK261)
          (try clear BK266)
          (try clear HB)
          generalize ((w21.setCell ⟨gb266, 0, none⟩ (.string ((rd_T59 l0_1 x5_1).f0))).setCell ⟨gb266, 1, none⟩ (.slice A265_1 ((rd_T59 l0_1 x5_1).f1).length c265_1)) = w24 at n0_ n1_ n2_ ⊢
          have BK261 := n0_
          have BK266 := n1_
          have HB := n2_
          clear n0_ n1_ n2_
          replace BK261 := Aside0.mk (blk_drew BK261.out)
          replace BK266 := Aside0.mk (blk_drew BK266.out)
          replace HB := Aside0.mk (below_drew1 HB.out)
          refine start_ (n := 17) (S := fun w' => w'.cell? ⟨gb266, 0, none⟩ = some (.string ((rd_T59 l0_1 x5_1).f0)) ∧ w'.cell? ⟨gb266, 1, none⟩ = some (.slice A265_1 ((rd_T59 l0_1 x5_1).f1).length c265_1)) (ds := []) #[false, false, false, false, false, false, false, false, false, false, false, false, false, false, false, false, false] kr rfl rfl ⟨(blk_cell BK266.out 0).trans rfl, (blk_cell BK266.out 1).trans rfl⟩ (fun hHeld => ?_); refine with_tabW lodestarref05_Encode.tab8 lodestarref05_Encode.bits8 (fun HT_ HW_ => ?_)
          generalize w24.drew = w25 at BK261 BK266 HB hHeld ⊢
          refine pure_ (i := 0) (N := some 35) (v := ?_) (a' := ?_) #[true, false, false, false, false, false, false, false, false, false, false, false, false, false, false, false, false] rfl rfl (any_of HT_.out kr) (fun _ _ _ h => h) (Or.inl ⟨by rfl, ?_⟩) ?_ ?_
          rotate_left
          ·exact wl
          rotate_left
          ·exact ap
          refine pure_ (i := 1) (N := some 36) (v := ?_) (a' := ?_) #[true, true, false, false, false, false, false, false, false, false, false, false, false, false, false, false, false] rfl rfl (any_of HT_.out kr) (fun _ _ _ h => h) (Or.inl ⟨by rfl, ?_⟩) ?_ ?_
          rotate_left
          ·exact wl
          rotate_left
          ·exact ap
          refine pure_ (i := 6) (N := some 41) (v := ?_) (a' := ?_) #[true, true, false, false, false, false, true, false, false, false, false, false, false, false, false, false, false] rfl rfl (any_of HT_.out kr) (fun _ _ _ h => h) (Or.inl ⟨by rfl, ?_⟩) ?_ ?_
          rotate_left
          ·exact wl
          rotate_left
          ·exact ap
          refine pure_ (i := 9) (N := some 44) (v := ?_) (a' := ?_) #[true, true, false, false, false, false, true, false, false, true, false, false, false, false, false, false, false] rfl rfl (any_of HT_.out kr) (fun _ _ _ h => h) (Or.inl ⟨by rfl, ?_⟩) ?_ ?_
          rotate_left
          ·exact wl
          rotate_left
          ·exact ap
          refine take_ (i := 2) (N := some 37) (v := ?_) (a' := ?_) #[true, true, true, false, false, false, true, false, false, true, false, false, false, false, false, false, false] rfl rfl (take_ofW HT_.out HW_.out kr) (fun _ _ _ h => h) (Or.inl ⟨by rfl, ?_⟩) hHeld ?_ ?_
          rotate_left
          ·rintro w' ⟨s0, s1⟩
           go_simp
           exact rl
          rotate_left
          ·exact ap
          refine pure_ (i := 3) (N := some 38) (v := ?_) (a' := ?_) #[true, true, true, true, false, false, true, false, false, true, false, false, false, false, false, false, false] rfl rfl (any_of HT_.out kr) (fun _ _ _ h => h) (Or.inl ⟨by rfl, ?_⟩) ?_ ?_
          rotate_left
          ·exact wl
          rotate_left
          ·exact ap
          refine pure_ (i := 4) (N := some 39) (v := ?_) (a' := ?_) #[true, true, true, true, true, false, true, false, false, true, false, false, false, false, false, false, false] rfl rfl (any_of HT_.out kr) (fun _ _ _ h => h) (Or.inl ⟨by rfl, ?_⟩) ?_ ?_
          rotate_left
          ·exact wl
          rotate_left
          ·exact ap
          refine take_ (i := 7) (N := some 42) (v := ?_) (a' := ?_) #[true, true, true, true, true, false, true, true, false, true, false, false, false, false, false, false, false] rfl rfl (take_ofW HT_.out HW_.out kr) (fun _ _ _ h => h) (Or.inl ⟨by rfl, ?_⟩) hHeld ?_ ?_
          rotate_left
          ·rintro w' ⟨s0, s1⟩
           go_simp
           exact rl
          rotate_left
          ·exact ap
          refine take_ (i := 10) (N := some 45) (v := ?_) (a' := ?_) #[true, true, true, true, true, false, true, true, false, true, true, false, false, false, false, false, false] rfl rfl (take_ofW HT_.out HW_.out kr) (fun _ _ _ h => h) (Or.inl ⟨by rfl, ?_⟩) hHeld ?_ ?_
          rotate_left
          ·rintro w' ⟨s0, s1⟩
           go_simp
           exact rl
          rotate_left
          ·exact ap
          refine pure_ (i := 11) (N := some 46) (v := ?_) (a' := ?_) #[true, true, true, true, true, false, true, true, false, true, true, true, false, false, false, false, false] rfl rfl (any_of HT_.out kr) (fun _ _ _ h => h) (Or.inl ⟨by rfl, ?_⟩) ?_ ?_
          rotate_left
          ·exact wl
          rotate_left
          ·exact ap
          refine pure_ (i := 12) (N := some 47) (v := ?_) (a' := ?_) #[true, true, true, true, true, false, true, true, false, true, true, true, true, false, false, false, false] rfl rfl (any_of HT_.out kr) (fun _ _ _ h => h) (Or.inl ⟨by rfl, ?_⟩) ?_ ?_
          rotate_left
          ·exact wl
          rotate_left
          ·exact ap
          refine one_ (i := 5) (N := some 40) #[true, true, true, true, true, true, true, true, false, true, true, true, true, false, false, false, false] rfl rfl (one_of HT_.out kr) (by decide) (fun K hK => ?_)
          refine goes_ Tryd.func38 kr rfl #[.int .u64 (IntKind.u64.wrap ((((rd_T59 l0_1 x5_1).f0).size : Int))), .int .i64 1] (by rfl) rfl rfl ga ?_
          with_reducible refine (lodestarref05_fix.calls k1 (IntKind.u64.wrap ((((rd_T59 l0_1 x5_1).f0).size : Int))) 1 t267 _ A15.out).mono ?_
          rintro e w26 ⟨rfl, hb⟩
          refine ⟨_, rfl, ?_⟩
          replace BK261 := Aside0.mk (blk_below (pk BK261.out) hb)
          replace BK266 := Aside0.mk (blk_below (pk BK266.out) hb)
          replace HB := Aside0.mk (below_step (bl HB.out) hb)
          (try clear hb)
          (try clear hb2)
          (try clear hk)
          (try clear hi)
          refine hK.out _ _ ⟨(blk_cell BK266.out 0).trans rfl, (blk_cell BK266.out 1).trans rfl⟩ (fun hHeld => ?_)
          clear hK K
          refine norm_ (a' := ?_) ?_ ?_
          rotate_left
          ·show Act.put _ (some 40) _ = _
           exact ap
          refine pure_ (i := 8) (N := some 43) (v := ?_) (a' := ?_) #[true, true, true, true, true, true, true, true, true, true, true, true, true, false, false, false, false] rfl rfl (any_of HT_.out kr) (fun _ _ _ h => h) (Or.inl ⟨by rfl, ?_⟩) ?_ ?_
          rotate_left
          ·exact wl
          rotate_left
          ·exact ap
          refine one_ (i := 13) (N := some 48) #[true, true, true, true, true, true, true, true, true, true, true, true, true, true, false, false, false] rfl rfl (one_of HT_.out kr) (by decide) (fun K hK => ?_)
          refine goes_ Tryd.func38 kr rfl #[.int .u64 (IntKind.u64.wrap ((((rd_T59 l0_1 x5_1).f1).length : Int))), .int .i64 1] (by rfl) rfl rfl ga ?_
          with_reducible refine (lodestarref05_fix.calls k1 (IntKind.u64.wrap ((((rd_T59 l0_1 x5_1).f1).length : Int))) 1 t268 _ A17.out).mono ?_
          rintro e w27 ⟨rfl, hb⟩
          refine ⟨_, rfl, ?_⟩
          replace BK261 := Aside0.mk (blk_below (pk BK261.out) hb)
          replace BK266 := Aside0.mk (blk_below (pk BK266.out) hb)
          replace HB := Aside0.mk (below_step (bl HB.out) hb)
          (try clear hb)
          (try clear hb2)
          (try clear hk)
          (try clear hi)
          refine hK.out _ _ ⟨(blk_cell BK266.out 0).trans rfl, (blk_cell BK266.out 1).trans rfl⟩ (fun hHeld => ?_)
          clear hK K
          refine norm_ (a' := ?_) ?_ ?_
          rotate_left
          ·show Act.put _ (some 48) _ = _
           exact ap
          refine pure_ (i := 14) (N := some 49) (v := ?_) (a' := ?_) #[true, true, true, true, true, true, true, true, true, true, true, true, true, true, true, false, false] rfl rfl (any_of HT_.out kr) (fun _ _ _ h => h) (Or.inl ⟨by rfl, ?_⟩) ?_ ?_
          rotate_left
          ·exact wl
          rotate_left
          ·exact ap
          refine pure_ (i := 15) (N := some 50) (v := ?_) (a' := ?_) #[true, true, true, true, true, true, true, true, true, true, true, true, true, true, true, true, false] rfl rfl (any_of HT_.out kr) (fun _ _ _ h => h) (Or.inl ⟨by rfl, ?_⟩) ?_ ?_
          rotate_left
          ·exact wl
          rotate_left
          ·exact ap
          refine pure_ (i := 16) (N := some 4) (v := ?_) (a' := ?_) #[true, true, true, true, true, true, true, true, true, true, true, true, true, true, true, true, true] rfl rfl (any_of HT_.out kr) (fun _ _ _ h => h) (Or.inl ⟨by rfl, ?_⟩) ?_ ?_
          rotate_left
          ·exact wl
          rotate_left
          ·exact ap
          refine done_ (done_of HT_.out kr) ?_
          try go_wp2
          go_loopg [4, 7] k1 (fun kq v4 v7 w' => ∃ (x4_2 : ByteArray) (x7_2 : Int), v4 = .string x4_2 ∧ v7 = .int .i64 x7_2 ∧ Aside0 (lodestarref05_Encode.l1 kq x4_2 x5_1 x7_2 a0_0 l0_1 l0_2 ((rd_T59 l0_1 x5_1).f0) ((rd_T59 l0_1 x5_1).f1) = some (r1, r2)) ∧ Aside0 (kq ≤ k1) ∧ Aside0 (w'.heap[gb261]? = some (.cells #[.int .i64 a0_0, (.slice (some ad265) l0_1.length c0_1), (.slice A0_2 l0_2.length c0_2)] 25 (0, 0))) ∧ Aside0 (w'.heap[gb266]? = some (.cells #[.string ((rd_T59 l0_1 x5_1).f0), (.slice A265_1 ((rd_T59 l0_1 x5_1).f1).length c265_1)] 59 (0, 0))) ∧ Aside0 (Below w.heap.size w w'))
          case atStart => exact ⟨(x4_1 ++ ((t267 ++ ((rd_T59 l0_1 x5_1).f0)) ++ t268)), (0), hsr, hsr, H', ⟨Nat.le_refl _⟩, ⟨pk BK261.out⟩, ⟨pk BK266.out⟩, ⟨bl HB.out⟩⟩
          case round =>
           clear H'
           try clear c1
           try clear c2
           try clear p2
           try clear q2
           try clear hx2
           try clear c3
           try clear c6
           try clear c6b0
           try clear c6b1
           try clear c6b2
           try clear p6
           try clear c13
           try clear c13b0
           try clear c14
           try clear c14b0
           try clear c16
           try clear c16b0
           try clear c16b1
           try clear c16b2
           try clear c18
           try clear c18b0
           try clear c18b1
           try clear c18b2
           try clear c19
           try clear c19b0
           try clear c19b1
           try clear c19b2
           try clear c21
           try clear c22
           try clear c26
           try clear p26
           try clear q26
           try clear hx26
           try clear hcz23_0 hcz23_1 hfz23_0 hfz23_1
           try clear hcz20_0 hcz20_1 hcz20_2 hfz20_0 hfz20_1 hfz20_2
           try clear hcz8_0 hcz8_1 hcz8_2 hfz8_0 hfz8_1 hfz8_2
           try clear hx265_0
           try clear hx265_1
           try clear p2
           try clear p265
           try clear p6
           try clear q265
           obtain ⟨x4_2, x7_2, rfl, rfl, HA, HK2, BK261, BK266, HB⟩ := hrel
           cases gk with
           | zero => exact absurd HA.out (by simp [lodestarref05_Encode.l1])
           | succ k2 =>
            have H := HA.out
            clear HA
            simp only [lodestarref05_Encode.l1] at H
            by_cases c28 : x7_2 < (((rd_T59 l0_1 x5_1).f1).length : Int)
            ·rw [if_pos c28] at H
             have c28b0 : decide (x7_2 < (((rd_T59 l0_1 x5_1).f1).length : Int)) = true := decide_eq_true c28
             clear c28
             by_cases c29 : 0 ≤ x7_2
             ·rw [if_pos c29] at H
              have c29b0 : decide (0 ≤ x7_2) = true := decide_eq_true c29
              clear c29
              replace H := Option.bind_eq_some_iff.mp H
              obtain ⟨t270, A300, H⟩ := H
              replace H : (if x4_2.size + t270.size ≤ 9223372036854775807 then (lodestarref05_Encode.l1 k2 (x4_2 ++ t270) x5_1 (wrap64 (x7_2 + 1)) a0_0 l0_1 l0_2 ((rd_T59 l0_1 x5_1).f0) ((rd_T59 l0_1 x5_1).f1)) else (none)) = some (r1, r2) := H
              have A30 := Aside0.mk A300
              clear A300
              by_cases c31 : x4_2.size + t270.size ≤ 9223372036854775807
              ·rw [if_pos c31] at H
               have c31b0 := eq_true c31
               have c31b1 : decide (x4_2.size + t270.size ≤ 9223372036854775807) = true := decide_eq_true c31
               try have c31b2 : (9223372036854775807 < x4_2.size + t270.size) = False := eq_false (Nat.not_lt.2 c31)
               have H' := Aside0.mk H
               clear H
               have hnb32 := NB266_261.out
               have hnc32 := NB261_266.out
               obtain ⟨hcz33_0, hcz33_1, hfz33_0, hfz33_1⟩ := cz2 BK266.out
               have p269 : 0 ≤ (x7_2 : Int) := of_decide_eq_true ha
               have q269 : x7_2 < (((rd_T59 l0_1 x5_1).f1).length : Int) := of_decide_eq_true ha
               obtain ⟨ad269, e269, hx269_0⟩ := Kd.at_int HR265_1.out x7_2 p269 q269
               cases e269
               replace hx269_0 := (HB.out.cell (World.block_lt_of_cell? w _ hx269_0)).trans hx269_0
               replace p269 := eq_true p269
               replace q269 := eq_true q269
               go_wp2_with (first | ((with_reducible refine gate_callee (f := 38) rfl ?_); refine goesL_ (some 66) rfl rfl Tryd.func38 kr rfl #[.int .u64 (IntKind.u64.wrap (wrap64 ((rd ((rd_T59 l0_1 x5_1).f1) x7_2) + 32768))), .int .i64 2] rfl ga ?_; (with_reducible refine (lodestarref05_fix.calls k2 (IntKind.u64.wrap (wrap64 ((rd ((rd_T59 l0_1 x5_1).f1) x7_2) + 32768))) 2 t270 _ A30.out).mono ?_); rintro e w34 ⟨rfl, hb⟩; refine ⟨_, rfl, ?_⟩; replace BK261 := Aside0.mk (blk_below (pk BK261.out) hb); replace BK266 := Aside0.mk (blk_below (pk BK266.out) hb); replace HB := Aside0.mk (below_step (bl HB.out) hb); (try clear hb); (try clear hb2); (try clear hk); (try clear hi)))
               go_roundg k2
               case measure => have := HK1.out; have := HK2.out; omega
               case rel => exact ⟨(x4_2 ++ t270), (wrap64 (x7_2 + 1)), hsr, hsr, H', ⟨by have := HK1.out; have := HK2.out; omega⟩, ⟨pk BK261.out⟩, ⟨pk BK266.out⟩, ⟨bl HB.out⟩⟩
              ·rw [if_neg c31] at H
               exact absurd H (by simp)
             ·rw [if_neg c29] at H
              exact absurd H (by simp)
            ·rw [if_neg c28] at H
             have c28b0 : decide (x7_2 < (((rd_T59 l0_1 x5_1).f1).length : Int)) = false := decide_eq_false c28
             clear c28
             have H' := Aside0.mk H
             clear H
             have hnb35 := NB266_261.out
             have hnc35 := NB261_266.out
             obtain ⟨hcz36_0, hcz36_1, hfz36_0, hfz36_1⟩ := cz2 BK266.out
             go_wp2
             go_roundg k2
             case measure => have := HK1.out; have := HK2.out; omega
             case rel => exact ⟨(x4_2), (wrap64 (x5_1 + 1)), hsr, hsr, H', ⟨by have := HK1.out; have := HK2.out; omega⟩, ⟨pk BK261.out⟩, ⟨bl HB.out⟩⟩
         ·rw [if_neg c19] at H
          exact absurd H (by simp)
        ·rw [if_neg c18] at H
         exact absurd H (by simp)
       ·rw [if_neg c16] at H
        exact absurd H (by simp)
      ·rw [if_neg c14] at H
       exact absurd H (by simp)
     ·rw [if_neg c13] at H
      have c13b0 : decide (x5_1 < (l0_1.length : Int)) = false := decide_eq_false c13
      clear c13
      replace H := Option.bind_eq_some_iff.mp H
      obtain ⟨t271, A370, H⟩ := H
      replace H : (if x4_1.size + t271.size ≤ 9223372036854775807 then (lodestarref05_Encode.l2 k1 (x4_1 ++ t271) 0 a0_0 l0_1 l0_2) else (none)) = some (r1, r2) := H
      have A37 := Aside0.mk A370
      clear A370
      by_cases c38 : x4_1.size + t271.size ≤ 9223372036854775807
      ·rw [if_pos c38] at H
       have c38b0 := eq_true c38
       have c38b1 : decide (x4_1.size + t271.size ≤ 9223372036854775807) = true := decide_eq_true c38
       try have c38b2 : (9223372036854775807 < x4_1.size + t271.size) = False := eq_false (Nat.not_lt.2 c38)
       have H' := Aside0.mk H
       clear H
       obtain ⟨hcz39_0, hcz39_1, hcz39_2, hfz39_0, hfz39_1, hfz39_2⟩ := cz3 BK261.out
       go_wp2_with (first | ((with_reducible refine gate_callee (f := 38) rfl ?_); refine goesL_ (some 73) rfl rfl Tryd.func38 kr rfl #[.int .u64 (IntKind.u64.wrap ((l0_2.length : Int))), .int .i64 1] rfl ga ?_; (with_reducible refine (lodestarref05_fix.calls k1 (IntKind.u64.wrap ((l0_2.length : Int))) 1 t271 _ A37.out).mono ?_); rintro e w40 ⟨rfl, hb⟩; refine ⟨_, rfl, ?_⟩; replace BK261 := Aside0.mk (blk_below (pk BK261.out) hb); replace HB := Aside0.mk (below_step (bl HB.out) hb); (try clear hb); (try clear hb2); (try clear hk); (try clear hi)))
       go_loopg [4, 8] k1 (fun kq v4 v8 w' => ∃ (x4_2 : ByteArray) (x8_2 : Int), v4 = .string x4_2 ∧ v8 = .int .i64 x8_2 ∧ Aside0 (lodestarref05_Encode.l2 kq x4_2 x8_2 a0_0 l0_1 l0_2 = some (r1, r2)) ∧ Aside0 (kq ≤ k1) ∧ Aside0 (w'.heap[gb261]? = some (.cells #[.int .i64 a0_0, (.slice A0_1 l0_1.length c0_1), (.slice A0_2 l0_2.length c0_2)] 25 (0, 0))) ∧ Aside0 (Below w.heap.size w w'))
       case atStart => exact ⟨(x4_1 ++ t271), (0), hsr, hsr, H', ⟨Nat.le_refl _⟩, ⟨pk BK261.out⟩, ⟨bl HB.out⟩⟩
       case round =>
        clear H'
        try clear c1
        try clear c2
        try clear p2
        try clear q2
        try clear hx2
        try clear c3
        try clear c6
        try clear c6b0
        try clear c6b1
        try clear c6b2
        try clear p6
        try clear c13
        try clear c13b0
        try clear c14
        try clear c14b0
        try clear c16
        try clear c16b0
        try clear c16b1
        try clear c16b2
        try clear c18
        try clear c18b0
        try clear c18b1
        try clear c18b2
        try clear c19
        try clear c19b0
        try clear c19b1
        try clear c19b2
        try clear c21
        try clear c22
        try clear c26
        try clear p26
        try clear q26
        try clear hx26
        try clear c28
        try clear c28b0
        try clear c29
        try clear c29b0
        try clear c31
        try clear c31b0
        try clear c31b1
        try clear c31b2
        try clear c32
        try clear c35
        try clear c38
        try clear c38b0
        try clear c38b1
        try clear c38b2
        try clear hcz39_0 hcz39_1 hcz39_2 hfz39_0 hfz39_1 hfz39_2
        try clear hcz36_0 hcz36_1 hfz36_0 hfz36_1
        try clear hcz33_0 hcz33_1 hfz33_0 hfz33_1
        try clear hcz23_0 hcz23_1 hfz23_0 hfz23_1
        try clear hcz20_0 hcz20_1 hcz20_2 hfz20_0 hfz20_1 hfz20_2
        try clear hcz8_0 hcz8_1 hcz8_2 hfz8_0 hfz8_1 hfz8_2
        try clear hx265_0
        try clear hx265_1
        try clear hx269_0
        try clear p2
        try clear p26
        try clear p265
        try clear p269
        try clear p6
        try clear q2
        try clear q26
        try clear q265
        try clear q269
        obtain ⟨x4_2, x8_2, rfl, rfl, HA, HK2, BK261, HB⟩ := hrel
        cases gk with
        | zero => exact absurd HA.out (by simp [lodestarref05_Encode.l2])
        | succ k2 =>
         have H := HA.out
         clear HA
         simp only [lodestarref05_Encode.l2] at H
         by_cases c41 : x8_2 < (l0_2.length : Int)
         ·rw [if_pos c41] at H
          have c41b0 : decide (x8_2 < (l0_2.length : Int)) = true := decide_eq_true c41
          clear c41
          by_cases c42 : 0 ≤ x8_2
          ·rw [if_pos c42] at H
           have c42b0 : decide (0 ≤ x8_2) = true := decide_eq_true c42
           clear c42
           replace H := Option.bind_eq_some_iff.mp H
           obtain ⟨t274, A430, H⟩ := H
           replace H : (if t274.size + ((rd_T61 l0_2 x8_2).f0).size ≤ 9223372036854775807 then ((lodestarref05_fix.f k2 (IntKind.u64.wrap ((rd_T61 l0_2 x8_2).f1.f0)) 1).bind fun t275 => (if (t274 ++ ((rd_T61 l0_2 x8_2).f0)).size + t275.size ≤ 9223372036854775807 then (if x4_2.size + ((t274 ++ ((rd_T61 l0_2 x8_2).f0)) ++ t275).size ≤ 9223372036854775807 then (if ((rd_T61 l0_2 x8_2).f1.f0) = 1 then ((lodestarref05_fix.f k2 (IntKind.u64.wrap ((rd_T61 l0_2 x8_2).f1.f1)) 8).bind fun t276 => (if (x4_2 ++ ((t274 ++ ((rd_T61 l0_2 x8_2).f0)) ++ t275)).size + t276.size ≤ 9223372036854775807 then (lodestarref05_Encode.l2 k2 ((x4_2 ++ ((t274 ++ ((rd_T61 l0_2 x8_2).f0)) ++ t275)) ++ t276) (wrap64 (x8_2 + 1)) a0_0 l0_1 l0_2) else (none))) else (if ((rd_T61 l0_2 x8_2).f1.f0) = 2 then ((lodestarref05_fix.f k2 (IntKind.u64.wrap ((((rd_T61 l0_2 x8_2).f1.f2).size : Int))) 2).bind fun t277 => (if t277.size + ((rd_T61 l0_2 x8_2).f1.f2).size ≤ 9223372036854775807 then (if (x4_2 ++ ((t274 ++ ((rd_T61 l0_2 x8_2).f0)) ++ t275)).size + (t277 ++ ((rd_T61 l0_2 x8_2).f1.f2)).size ≤ 9223372036854775807 then (lodestarref05_Encode.l2 k2 ((x4_2 ++ ((t274 ++ ((rd_T61 l0_2 x8_2).f0)) ++ t275)) ++ (t277 ++ ((rd_T61 l0_2 x8_2).f1.f2))) (wrap64 (x8_2 + 1)) a0_0 l0_1 l0_2) else (none)) else (none))) else (if ((rd_T61 l0_2 x8_2).f1.f0) = 3 then ((lodestarref05_fix.f k2 (IntKind.u64.wrap ((rd_T61 l0_2 x8_2).f1.f1)) 1).bind fun t278 => (if (x4_2 ++ ((t274 ++ ((rd_T61 l0_2 x8_2).f0)) ++ t275)).size + t278.size ≤ 9223372036854775807 then (lodestarref05_Encode.l2 k2 ((x4_2 ++ ((t274 ++ ((rd_T61 l0_2 x8_2).f0)) ++ t275)) ++ t278) (wrap64 (x8_2 + 1)) a0_0 l0_1 l0_2) else (none))) else (lodestarref05_Encode.l2 k2 (x4_2 ++ ((t274 ++ ((rd_T61 l0_2 x8_2).f0)) ++ t275)) (wrap64 (x8_2 + 1)) a0_0 l0_1 l0_2)))) else (none)) else (none))) else (none)) = some (r1, r2) := H
           have A43 := Aside0.mk A430
           clear A430
           by_cases c44 : t274.size + ((rd_T61 l0_2 x8_2).f0).size ≤ 9223372036854775807
           ·rw [if_pos c44] at H
            have c44b0 := eq_true c44
            have c44b1 : decide (t274.size + ((rd_T61 l0_2 x8_2).f0).size ≤ 9223372036854775807) = true := decide_eq_true c44
            try have c44b2 : (9223372036854775807 < t274.size + ((rd_T61 l0_2 x8_2).f0).size) = False := eq_false (Nat.not_lt.2 c44)
            replace H := Option.bind_eq_some_iff.mp H
            obtain ⟨t275, A450, H⟩ := H
            replace H : (if (t274 ++ ((rd_T61 l0_2 x8_2).f0)).size + t275.size ≤ 9223372036854775807 then (if x4_2.size + ((t274 ++ ((rd_T61 l0_2 x8_2).f0)) ++ t275).size ≤ 9223372036854775807 then (if ((rd_T61 l0_2 x8_2).f1.f0) = 1 then ((lodestarref05_fix.f k2 (IntKind.u64.wrap ((rd_T61 l0_2 x8_2).f1.f1)) 8).bind fun t276 => (if (x4_2 ++ ((t274 ++ ((rd_T61 l0_2 x8_2).f0)) ++ t275)).size + t276.size ≤ 9223372036854775807 then (lodestarref05_Encode.l2 k2 ((x4_2 ++ ((t274 ++ ((rd_T61 l0_2 x8_2).f0)) ++ t275)) ++ t276) (wrap64 (x8_2 + 1)) a0_0 l0_1 l0_2) else (none))) else (if ((rd_T61 l0_2 x8_2).f1.f0) = 2 then ((lodestarref05_fix.f k2 (IntKind.u64.wrap ((((rd_T61 l0_2 x8_2).f1.f2).size : Int))) 2).bind fun t277 => (if t277.size + ((rd_T61 l0_2 x8_2).f1.f2).size ≤ 9223372036854775807 then (if (x4_2 ++ ((t274 ++ ((rd_T61 l0_2 x8_2).f0)) ++ t275)).size + (t277 ++ ((rd_T61 l0_2 x8_2).f1.f2)).size ≤ 9223372036854775807 then (lodestarref05_Encode.l2 k2 ((x4_2 ++ ((t274 ++ ((rd_T61 l0_2 x8_2).f0)) ++ t275)) ++ (t277 ++ ((rd_T61 l0_2 x8_2).f1.f2))) (wrap64 (x8_2 + 1)) a0_0 l0_1 l0_2) else (none)) else (none))) else (if ((rd_T61 l0_2 x8_2).f1.f0) = 3 then ((lodestarref05_fix.f k2 (IntKind.u64.wrap ((rd_T61 l0_2 x8_2).f1.f1)) 1).bind fun t278 => (if (x4_2 ++ ((t274 ++ ((rd_T61 l0_2 x8_2).f0)) ++ t275)).size + t278.size ≤ 9223372036854775807 then (lodestarref05_Encode.l2 k2 ((x4_2 ++ ((t274 ++ ((rd_T61 l0_2 x8_2).f0)) ++ t275)) ++ t278) (wrap64 (x8_2 + 1)) a0_0 l0_1 l0_2) else (none))) else (lodestarref05_Encode.l2 k2 (x4_2 ++ ((t274 ++ ((rd_T61 l0_2 x8_2).f0)) ++ t275)) (wrap64 (x8_2 + 1)) a0_0 l0_1 l0_2)))) else (none)) else (none)) = some (r1, r2) := H
            have A45 := Aside0.mk A450
            clear A450
            by_cases c46 : (t274 ++ ((rd_T61 l0_2 x8_2).f0)).size + t275.size ≤ 9223372036854775807
            ·rw [if_pos c46] at H
             have c46b0 := eq_true c46
             have c46b1 : decide ((t274 ++ ((rd_T61 l0_2 x8_2).f0)).size + t275.size ≤ 9223372036854775807) = true := decide_eq_true c46
             try have c46b2 : (9223372036854775807 < (t274 ++ ((rd_T61 l0_2 x8_2).f0)).size + t275.size) = False := eq_false (Nat.not_lt.2 c46)
             (try (have c46z0 := c46b0; simp only [ByteArray.size_append] at c46z0))
             (try (have c46z1 := c46b1; simp only [ByteArray.size_append] at c46z1))
             (try (have c46z2 := c46b2; simp only [ByteArray.size_append] at c46z2))
             by_cases c47 : x4_2.size + ((t274 ++ ((rd_T61 l0_2 x8_2).f0)) ++ t275).size ≤ 9223372036854775807
             ·rw [if_pos c47] at H
              have c47b0 := eq_true c47
              have c47b1 : decide (x4_2.size + ((t274 ++ ((rd_T61 l0_2 x8_2).f0)) ++ t275).size ≤ 9223372036854775807) = true := decide_eq_true c47
              try have c47b2 : (9223372036854775807 < x4_2.size + ((t274 ++ ((rd_T61 l0_2 x8_2).f0)) ++ t275).size) = False := eq_false (Nat.not_lt.2 c47)
              (try (have c47z0 := c47b0; simp only [ByteArray.size_append] at c47z0))
              (try (have c47z1 := c47b1; simp only [ByteArray.size_append] at c47z1))
              (try (have c47z2 := c47b2; simp only [ByteArray.size_append] at c47z2))
              by_cases c48 : ((rd_T61 l0_2 x8_2).f1.f0) = 1
              ·rw [if_pos c48] at H
               have c48b0 : (((rd_T61 l0_2 x8_2).f1.f0) == 1) = true := beq_iff_eq.mpr c48
               have c48b1 : (((rd_T61 l0_2 x8_2).f1.f0) != 1) = false := bne_eq_false_iff_eq.mpr c48
               clear c48
               replace H := Option.bind_eq_some_iff.mp H
               obtain ⟨t276, A490, H⟩ := H
               replace H : (if (x4_2 ++ ((t274 ++ ((rd_T61 l0_2 x8_2).f0)) ++ t275)).size + t276.size ≤ 9223372036854775807 then (lodestarref05_Encode.l2 k2 ((x4_2 ++ ((t274 ++ ((rd_T61 l0_2 x8_2).f0)) ++ t275)) ++ t276) (wrap64 (x8_2 + 1)) a0_0 l0_1 l0_2) else (none)) = some (r1, r2) := H
               have A49 := Aside0.mk A490
               clear A490
               by_cases c50 : (x4_2 ++ ((t274 ++ ((rd_T61 l0_2 x8_2).f0)) ++ t275)).size + t276.size ≤ 9223372036854775807
               ·rw [if_pos c50] at H
                have c50b0 := eq_true c50
                have c50b1 : decide ((x4_2 ++ ((t274 ++ ((rd_T61 l0_2 x8_2).f0)) ++ t275)).size + t276.size ≤ 9223372036854775807) = true := decide_eq_true c50
                try have c50b2 : (9223372036854775807 < (x4_2 ++ ((t274 ++ ((rd_T61 l0_2 x8_2).f0)) ++ t275)).size + t276.size) = False := eq_false (Nat.not_lt.2 c50)
                (try (have c50z0 := c50b0; simp only [ByteArray.size_append] at c50z0))
                (try (have c50z1 := c50b1; simp only [ByteArray.size_append] at c50z1))
                (try (have c50z2 := c50b2; simp only [ByteArray.size_append] at c50z2))
                have H' := Aside0.mk H
                clear H
                obtain ⟨hcz51_0, hcz51_1, hcz51_2, hfz51_0, hfz51_1, hfz51_2⟩ := cz3 BK261.out
                have p272 : 0 ≤ (x8_2 : Int) := of_decide_eq_true ha
                have q272 : x8_2 < (l0_2.length : Int) := of_decide_eq_true ha
                obtain ⟨ad272, e272, hx272_0, hx272_1, hx272_2, hx272_3⟩ := at_T61 HR0_2.out x8_2 p272 q272
                cases e272
                replace hx272_0 := (HB.out.cell (World.block_lt_of_cell? w _ hx272_0)).trans hx272_0
                replace hx272_1 := (HB.out.cell (World.block_lt_of_cell? w _ hx272_1)).trans hx272_1
                replace hx272_2 := (HB.out.cell (World.block_lt_of_cell? w _ hx272_2)).trans hx272_2
                replace hx272_3 := (HB.out.cell (World.block_lt_of_cell? w _ hx272_3)).trans hx272_3
                replace p272 := eq_true p272
                replace q272 := eq_true q272
                try go_wp2_with (first | ((with_reducible refine gate_dst (N := 9) rfl ?_); refine box_event ?hg (N := 9) ?hd (cs := #[.string (⟨#[]⟩ : ByteArray), .int .i64 0, .int .i64 0, .string (⟨#[]⟩ : ByteArray)]) (t := 61) ?hr ?_; (case hd => rfl); (case hg => rfl); (case hr => first | (go_simp; done) | (go_simp; rfl)); intro gb273 hg w52 hbox hb; have BK273 := Aside0.mk (hbox); have GW273 := Aside0.mk (gs (w := w) hg (bl HB.out)); have GE273 := Aside0.mk (gs (w := w) hg (bl HB.out)); replace HB := Aside0.mk (below_step (bl HB.out) hb); have NB261_273 := Aside0.mk ((gl (g := gb261) hg (pk BK261.out))); have NB273_261 := Aside0.mk ((gm (g := gb261) hg (pk BK261.out))); replace BK261 := Aside0.mk (blk_below (pk BK261.out) hb); clear hb hbox hg; have hnb53 := NB273_261.out; have hnc53 := NB261_273.out; obtain ⟨hcz54_0, hcz54_1, hcz54_2, hcz54_3, hfz54_0, hfz54_1, hfz54_2, hfz54_3⟩ := cz4 BK273.out))
                have n0_ : Aside0 (((((w52.setCell ⟨gb273, 0, none⟩ (.string ((rd_T61 l0_2 x8_2).f0))).setCell ⟨gb273, 1, none⟩ (.int .i64 ((rd_T61 l0_2 x8_2).f1.f0))).setCell ⟨gb273, 2, none⟩ (.int .i64 ((rd_T61 l0_2 x8_2).f1.f1))).setCell ⟨gb273, 3, none⟩ (.string ((rd_T61 l0_2 x8_2).f1.f2))).heap[gb261]? = some (.cells #[.int .i64 a0_0, .slice A0_1 l0_1.length c0_1, .slice (some ad272) l0_2.length c0_2] 25 (0, 0))) := ⟨by refine pk ?_; refine blk_far ?_ NB261_273.out _; refine pk ?_; refine blk_far ?_ NB261_273.out _; refine pk ?_; refine blk_far ?_ NB261_273.out _; refine pk ?_; refine blk_far ?_ NB261_273.out _; exact pk BK261.out⟩
                have n1_ : Aside0 (((((w52.setCell ⟨gb273, 0, none⟩ (.string ((rd_T61 l0_2 x8_2).f0))).setCell ⟨gb273, 1, none⟩ (.int .i64 ((rd_T61 l0_2 x8_2).f1.f0))).setCell ⟨gb273, 2, none⟩ (.int .i64 ((rd_T61 l0_2 x8_2).f1.f1))).setCell ⟨gb273, 3, none⟩ (.string ((rd_T61 l0_2 x8_2).f1.f2))).heap[gb273]? = some (.cells #[.string ((rd_T61 l0_2 x8_2).f0), .int .i64 ((rd_T61 l0_2 x8_2).f1.f0), .int .i64 ((rd_T61 l0_2 x8_2).f1.f1), .string ((rd_T61 l0_2 x8_2).f1.f2)] 61 (0, 0))) := ⟨by refine pk ?_; refine blk_put (cs := #[.string ((rd_T61 l0_2 x8_2).f0), .int .i64 ((rd_T61 l0_2 x8_2).f1.f0), .int .i64 ((rd_T61 l0_2 x8_2).f1.f1), .string (⟨#[]⟩ : ByteArray)]) ?_ 3 _ rfl; refine pk ?_; refine blk_put (cs := #[.string ((rd_T61 l0_2 x8_2).f0), .int .i64 ((rd_T61 l0_2 x8_2).f1.f0), .int .i64 0, .string (⟨#[]⟩ : ByteArray)]) ?_ 2 _ rfl; refine pk ?_; refine blk_put (cs := #[.string ((rd_T61 l0_2 x8_2).f0), .int .i64 0, .int .i64 0, .string (⟨#[]⟩ : ByteArray)]) ?_ 1 _ rfl; refine pk ?_; refine blk_put (cs := #[.string (⟨#[]⟩ : ByteArray), .int .i64 0, .int .i64 0, .string (⟨#[]⟩ : ByteArray)]) ?_ 0 _ rfl; exact pk BK273.out⟩
                have n2_ : Aside0 (Below w.heap.size w ((((w52.setCell ⟨gb273, 0, none⟩ (.string ((rd_T61 l0_2 x8_2).f0))).setCell ⟨gb273, 1, none⟩ (.int .i64 ((rd_T61 l0_2 x8_2).f1.f0))).setCell ⟨gb273, 2, none⟩ (.int .i64 ((rd_T61 l0_2 x8_2).f1.f1))).setCell ⟨gb273, 3, none⟩ (.string ((rd_T61 l0_2 x8_2).f1.f2)))) := ⟨bl HB.out⟩
                (try clear BK261)
                (try clear BK273)
                (try clear HB)
                generalize ((((w52.setCell ⟨gb273, 0, none⟩ (.string ((rd_T61 l0_2 x8_2).f0))).setCell ⟨gb273, 1, none⟩ (.int .i64 ((rd_T61 l0_2 x8_2).f1.f0))).setCell ⟨gb273, 2, none⟩ (.int .i64 ((rd_T61 l0_2 x8_2).f1.f1))).setCell ⟨gb273, 3, none⟩ (.string ((rd_T61 l0_2 x8_2).f1.f2))) = w55 at n0_ n1_ n2_ ⊢
                have BK261 := n0_
                have BK273 := n1_
                have HB := n2_
                clear n0_ n1_ n2_
                replace BK261 := Aside0.mk (blk_drew BK261.out)
                replace BK273 := Aside0.mk (blk_drew BK273.out)
                replace HB := Aside0.mk (below_drew1 HB.out)
                refine start_ (n := 17) (S := fun w' => w'.cell? ⟨gb273, 0, none⟩ = some (.string ((rd_T61 l0_2 x8_2).f0)) ∧ w'.cell? ⟨gb273, 1, none⟩ = some (.int .i64 ((rd_T61 l0_2 x8_2).f1.f0)) ∧ w'.cell? ⟨gb273, 2, none⟩ = some (.int .i64 ((rd_T61 l0_2 x8_2).f1.f1)) ∧ w'.cell? ⟨gb273, 3, none⟩ = some (.string ((rd_T61 l0_2 x8_2).f1.f2))) (ds := []) #[false, false, false, false, false, false, false, false, false, false, false, false, false, false, false, false, false] kr rfl rfl ⟨(blk_cell BK273.out 0).trans rfl, (blk_cell BK273.out 1).trans rfl, (blk_cell BK273.out 2).trans rfl, (blk_cell BK273.out 3).trans rfl⟩ (fun hHeld => ?_); refine with_tabW lodestarref05_Encode.tab18 lodestarref05_Encode.bits18 (fun HT_ HW_ => ?_)
                generalize w55.drew = w56 at BK261 BK273 HB hHeld ⊢
                refine pure_ (i := 0) (N := some 87) (v := ?_) (a' := ?_) #[true, false, false, false, false, false, false, false, false, false, false, false, false, false, false, false, false] rfl rfl (any_of HT_.out kr) (fun _ _ _ h => h) (Or.inl ⟨by rfl, ?_⟩) ?_ ?_
                rotate_left
                ·exact wl
                rotate_left
                ·exact ap
                refine pure_ (i := 1) (N := some 88) (v := ?_) (a' := ?_) #[true, true, false, false, false, false, false, false, false, false, false, false, false, false, false, false, false] rfl rfl (any_of HT_.out kr) (fun _ _ _ h => h) (Or.inl ⟨by rfl, ?_⟩) ?_ ?_
                rotate_left
                ·exact wl
                rotate_left
                ·exact ap
                refine pure_ (i := 6) (N := some 93) (v := ?_) (a' := ?_) #[true, true, false, false, false, false, true, false, false, false, false, false, false, false, false, false, false] rfl rfl (any_of HT_.out kr) (fun _ _ _ h => h) (Or.inl ⟨by rfl, ?_⟩) ?_ ?_
                rotate_left
                ·exact wl
                rotate_left
                ·exact ap
                refine pure_ (i := 9) (N := some 96) (v := ?_) (a' := ?_) #[true, true, false, false, false, false, true, false, false, true, false, false, false, false, false, false, false] rfl rfl (any_of HT_.out kr) (fun _ _ _ h => h) (Or.inl ⟨by rfl, ?_⟩) ?_ ?_
                rotate_left
                ·exact wl
                rotate_left
                ·exact ap
                refine pure_ (i := 10) (N := some 97) (v := ?_) (a' := ?_) #[true, true, false, false, false, false, true, false, false, true, true, false, false, false, false, false, false] rfl rfl (any_of HT_.out kr) (fun _ _ _ h => h) (Or.inl ⟨by rfl, ?_⟩) ?_ ?_
                rotate_left
                ·exact wl
                rotate_left
                ·exact ap
                refine take_ (i := 2) (N := some 89) (v := ?_) (a' := ?_) #[true, true, true, false, false, false, true, false, false, true, true, false, false, false, false, false, false] rfl rfl (take_ofW HT_.out HW_.out kr) (fun _ _ _ h => h) (Or.inl ⟨by rfl, ?_⟩) hHeld ?_ ?_
                rotate_left
                ·rintro w' ⟨s0, s1, s2, s3⟩
                 go_simp
                 exact rl
                rotate_left
                ·exact ap
                refine pure_ (i := 3) (N := some 90) (v := ?_) (a' := ?_) #[true, true, true, true, false, false, true, false, false, true, true, false, false, false, false, false, false] rfl rfl (any_of HT_.out kr) (fun _ _ _ h => h) (Or.inl ⟨by rfl, ?_⟩) ?_ ?_
                rotate_left
                ·exact wl
                rotate_left
                ·exact ap
                refine pure_ (i := 4) (N := some 91) (v := ?_) (a' := ?_) #[true, true, true, true, true, false, true, false, false, true, true, false, false, false, false, false, false] rfl rfl (any_of HT_.out kr) (fun _ _ _ h => h) (Or.inl ⟨by rfl, ?_⟩) ?_ ?_
                rotate_left
                ·exact wl
                rotate_left
                ·exact ap
                refine take_ (i := 7) (N := some 94) (v := ?_) (a' := ?_) #[true, true, true, true, true, false, true, true, false, true, true, false, false, false, false, false, false] rfl rfl (take_ofW HT_.out HW_.out kr) (fun _ _ _ h => h) (Or.inl ⟨by rfl, ?_⟩) hHeld ?_ ?_
                rotate_left
                ·rintro w' ⟨s0, s1, s2, s3⟩
                 go_simp
                 exact rl
                rotate_left
                ·exact ap
                refine take_ (i := 11) (N := some 98) (v := ?_) (a' := ?_) #[true, true, true, true, true, false, true, true, false, true, true, true, false, false, false, false, false] rfl rfl (take_ofW HT_.out HW_.out kr) (fun _ _ _ h => h) (Or.inl ⟨by rfl, ?_⟩) hHeld ?_ ?_
                rotate_left
                ·rintro w' ⟨s0, s1, s2, s3⟩
                 go_simp
                 exact rl
                rotate_left
                ·exact ap
                refine pure_ (i := 12) (N := some 99) (v := ?_) (a' := ?_) #[true, true, true, true, true, false, true, true, false, true, true, true, true, false, false, false, false] rfl rfl (any_of HT_.out kr) (fun _ _ _ h => h) (Or.inl ⟨by rfl, ?_⟩) ?_ ?_
                rotate_left
                ·exact wl
                rotate_left
                ·exact ap
                refine one_ (i := 5) (N := some 92) #[true, true, true, true, true, true, true, true, false, true, true, true, true, false, false, false, false] rfl rfl (one_of HT_.out kr) (by decide) (fun K hK => ?_)
                refine goes_ Tryd.func38 kr rfl #[.int .u64 (IntKind.u64.wrap ((((rd_T61 l0_2 x8_2).f0).size : Int))), .int .i64 1] (by rfl) rfl rfl ga ?_
                with_reducible refine (lodestarref05_fix.calls k2 (IntKind.u64.wrap ((((rd_T61 l0_2 x8_2).f0).size : Int))) 1 t274 _ A43.out).mono ?_
                rintro e w57 ⟨rfl, hb⟩
                refine ⟨_, rfl, ?_⟩
                replace BK261 := Aside0.mk (blk_below (pk BK261.out) hb)
                replace BK273 := Aside0.mk (blk_below (pk BK273.out) hb)
                replace HB := Aside0.mk (below_step (bl HB.out) hb)
                (try clear hb)
                (try clear hb2)
                (try clear hk)
                (try clear hi)
                refine hK.out _ _ ⟨(blk_cell BK273.out 0).trans rfl, (blk_cell BK273.out 1).trans rfl, (blk_cell BK273.out 2).trans rfl, (blk_cell BK273.out 3).trans rfl⟩ (fun hHeld => ?_)
                clear hK K
                refine norm_ (a' := ?_) ?_ ?_
                rotate_left
                ·show Act.put _ (some 92) _ = _
                 exact ap
                refine pure_ (i := 8) (N := some 95) (v := ?_) (a' := ?_) #[true, true, true, true, true, true, true, true, true, true, true, true, true, false, false, false, false] rfl rfl (any_of HT_.out kr) (fun _ _ _ h => h) (Or.inl ⟨by rfl, ?_⟩) ?_ ?_
                rotate_left
                ·exact wl
                rotate_left
                ·exact ap
                refine one_ (i := 13) (N := some 100) #[true, true, true, true, true, true, true, true, true, true, true, true, true, true, false, false, false] rfl rfl (one_of HT_.out kr) (by decide) (fun K hK => ?_)
                refine goes_ Tryd.func38 kr rfl #[.int .u64 (IntKind.u64.wrap ((rd_T61 l0_2 x8_2).f1.f0)), .int .i64 1] (by rfl) rfl rfl ga ?_
                with_reducible refine (lodestarref05_fix.calls k2 (IntKind.u64.wrap ((rd_T61 l0_2 x8_2).f1.f0)) 1 t275 _ A45.out).mono ?_
                rintro e w58 ⟨rfl, hb⟩
                refine ⟨_, rfl, ?_⟩
                replace BK261 := Aside0.mk (blk_below (pk BK261.out) hb)
                replace BK273 := Aside0.mk (blk_below (pk BK273.out) hb)
                replace HB := Aside0.mk (below_step (bl HB.out) hb)
                (try clear hb)
                (try clear hb2)
                (try clear hk)
                (try clear hi)
                refine hK.out _ _ ⟨(blk_cell BK273.out 0).trans rfl, (blk_cell BK273.out 1).trans rfl, (blk_cell BK273.out 2).trans rfl, (blk_cell BK273.out 3).trans rfl⟩ (fun hHeld => ?_)
                clear hK K
                refine norm_ (a' := ?_) ?_ ?_
                rotate_left
                ·show Act.put _ (some 100) _ = _
                 exact ap
                refine pure_ (i := 14) (N := some 101) (v := ?_) (a' := ?_) #[true, true, true, true, true, true, true, true, true, true, true, true, true, true, true, false, false] rfl rfl (any_of HT_.out kr) (fun _ _ _ h => h) (Or.inl ⟨by rfl, ?_⟩) ?_ ?_
                rotate_left
                ·exact wl
                rotate_left
                ·exact ap
                refine pure_ (i := 15) (N := some 102) (v := ?_) (a' := ?_) #[true, true, true, true, true, true, true, true, true, true, true, true, true, true, true, true, false] rfl rfl (any_of HT_.out kr) (fun _ _ _ h => h) (Or.inl ⟨by rfl, ?_⟩) ?_ ?_
                rotate_left
                ·exact wl
                rotate_left
                ·exact ap
                refine pure_ (i := 16) (N := some 4) (v := ?_) (a' := ?_) #[true, true, true, true, true, true, true, true, true, true, true, true, true, true, true, true, true] rfl rfl (any_of HT_.out kr) (fun _ _ _ h => h) (Or.inl ⟨by rfl, ?_⟩) ?_ ?_
                rotate_left
                ·exact wl
                rotate_left
                ·exact ap
                refine done_ (done_of HT_.out kr) ?_
                obtain ⟨hcz59_0, hcz59_1, hcz59_2, hcz59_3, hfz59_0, hfz59_1, hfz59_2, hfz59_3⟩ := cz4 BK273.out
                try go_wp2_with (first | ((with_reducible refine gate_callee (f := 38) rfl ?_); refine goesL_ (some 113) rfl rfl Tryd.func38 kr rfl #[.int .u64 (IntKind.u64.wrap ((rd_T61 l0_2 x8_2).f1.f1)), .int .i64 8] rfl ga ?_; (with_reducible refine (lodestarref05_fix.calls k2 (IntKind.u64.wrap ((rd_T61 l0_2 x8_2).f1.f1)) 8 t276 _ A49.out).mono ?_); rintro e w60 ⟨rfl, hb⟩; refine ⟨_, rfl, ?_⟩; replace BK261 := Aside0.mk (blk_below (pk BK261.out) hb); replace BK273 := Aside0.mk (blk_below (pk BK273.out) hb); replace HB := Aside0.mk (below_step (bl HB.out) hb); (try clear hb); (try clear hb2); (try clear hk); (try clear hi)))
                go_roundg k2
                case measure => have := HK1.out; have := HK2.out; omega
                case rel => exact ⟨((x4_2 ++ ((t274 ++ ((rd_T61 l0_2 x8_2).f0)) ++ t275)) ++ t276), (wrap64 (x8_2 + 1)), hsr, hsr, H', ⟨by have := HK1.out; have := HK2.out; omega⟩, ⟨pk BK261.out⟩, ⟨bl HB.out⟩⟩
               ·rw [if_neg c50] at H
                exact absurd H (by simp)
              ·rw [if_neg c48] at H
               have c48b0 : (((rd_T61 l0_2 x8_2).f1.f0) == 1) = false := beq_eq_false_iff_ne.mpr c48
               have c48b1 : (((rd_T61 l0_2 x8_2).f1.f0) != 1) = true := bne_iff_ne.mpr c48
               by_cases c61 : ((rd_T61 l0_2 x8_2).f1.f0) = 2
               ·rw [if_pos c61] at H
                have c61b0 : (((rd_T61 l0_2 x8_2).f1.f0) == 2) = true := beq_iff_eq.mpr c61
                have c61b1 : (((rd_T61 l0_2 x8_2).f1.f0) != 2) = false := bne_eq_false_iff_eq.mpr c61
                clear c61
                replace H := Option.bind_eq_some_iff.mp H
                obtain ⟨t277, A620, H⟩ := H
                replace H : (if t277.size + ((rd_T61 l0_2 x8_2).f1.f2).size ≤ 9223372036854775807 then (if (x4_2 ++ ((t274 ++ ((rd_T61 l0_2 x8_2).f0)) ++ t275)).size + (t277 ++ ((rd_T61 l0_2 x8_2).f1.f2)).size ≤ 9223372036854775807 then (lodestarref05_Encode.l2 k2 ((x4_2 ++ ((t274 ++ ((rd_T61 l0_2 x8_2).f0)) ++ t275)) ++ (t277 ++ ((rd_T61 l0_2 x8_2).f1.f2))) (wrap64 (x8_2 + 1)) a0_0 l0_1 l0_2) else (none)) else (none)) = some (r1, r2) := H
                have A62 := Aside0.mk A620
                clear A620
                by_cases c63 : t277.size + ((rd_T61 l0_2 x8_2).f1.f2).size ≤ 9223372036854775807
                ·rw [if_pos c63] at H
                 have c63b0 := eq_true c63
                 have c63b1 : decide (t277.size + ((rd_T61 l0_2 x8_2).f1.f2).size ≤ 9223372036854775807) = true := decide_eq_true c63
                 try have c63b2 : (9223372036854775807 < t277.size + ((rd_T61 l0_2 x8_2).f1.f2).size) = False := eq_false (Nat.not_lt.2 c63)
                 by_cases c64 : (x4_2 ++ ((t274 ++ ((rd_T61 l0_2 x8_2).f0)) ++ t275)).size + (t277 ++ ((rd_T61 l0_2 x8_2).f1.f2)).size ≤ 9223372036854775807
                 ·rw [if_pos c64] at H
                  have c64b0 := eq_true c64
                  have c64b1 : decide ((x4_2 ++ ((t274 ++ ((rd_T61 l0_2 x8_2).f0)) ++ t275)).size + (t277 ++ ((rd_T61 l0_2 x8_2).f1.f2)).size ≤ 9223372036854775807) = true := decide_eq_true c64
                  try have c64b2 : (9223372036854775807 < (x4_2 ++ ((t274 ++ ((rd_T61 l0_2 x8_2).f0)) ++ t275)).size + (t277 ++ ((rd_T61 l0_2 x8_2).f1.f2)).size) = False := eq_false (Nat.not_lt.2 c64)
                  (try (have c64z0 := c64b0; simp only [ByteArray.size_append] at c64z0))
                  (try (have c64z1 := c64b1; simp only [ByteArray.size_append] at c64z1))
                  (try (have c64z2 := c64b2; simp only [ByteArray.size_append] at c64z2))
                  have H' := Aside0.mk H
                  clear H
                  obtain ⟨hcz65_0, hcz65_1, hcz65_2, hfz65_0, hfz65_1, hfz65_2⟩ := cz3 BK261.out
                  have p272 : 0 ≤ (x8_2 : Int) := of_decide_eq_true ha
                  have q272 : x8_2 < (l0_2.length : Int) := of_decide_eq_true ha
                  obtain ⟨ad272, e272, hx272_0, hx272_1, hx272_2, hx272_3⟩ := at_T61 HR0_2.out x8_2 p272 q272
                  cases e272
                  replace hx272_0 := (HB.out.cell (World.block_lt_of_cell? w _ hx272_0)).trans hx272_0
                  replace hx272_1 := (HB.out.cell (World.block_lt_of_cell? w _ hx272_1)).trans hx272_1
                  replace hx272_2 := (HB.out.cell (World.block_lt_of_cell? w _ hx272_2)).trans hx272_2
                  replace hx272_3 := (HB.out.cell (World.block_lt_of_cell? w _ hx272_3)).trans hx272_3
                  replace p272 := eq_true p272
                  replace q272 := eq_true q272
                  try go_wp2_with (first | ((with_reducible refine gate_dst (N := 9) rfl ?_); refine box_event ?hg (N := 9) ?hd (cs := #[.string (⟨#[]⟩ : ByteArray), .int .i64 0, .int .i64 0, .string (⟨#[]⟩ : ByteArray)]) (t := 61) ?hr ?_; (case hd => rfl); (case hg => rfl); (case hr => first | (go_simp; done) | (go_simp; rfl)); intro gb273 hg w66 hbox hb; have BK273 := Aside0.mk (hbox); have GW273 := Aside0.mk (gs (w := w) hg (bl HB.out)); have GE273 := Aside0.mk (gs (w := w) hg (bl HB.out)); replace HB := Aside0.mk (below_step (bl HB.out) hb); have NB261_273 := Aside0.mk ((gl (g := gb261) hg (pk BK261.out))); have NB273_261 := Aside0.mk ((gm (g := gb261) hg (pk BK261.out))); replace BK261 := Aside0.mk (blk_below (pk BK261.out) hb); clear hb hbox hg; have hnb67 := NB273_261.out; have hnc67 := NB261_273.out; obtain ⟨hcz68_0, hcz68_1, hcz68_2, hcz68_3, hfz68_0, hfz68_1, hfz68_2, hfz68_3⟩ := cz4 BK273.out))
                  have n0_ : Aside0 (((((w66.setCell ⟨gb273, 0, none⟩ (.string ((rd_T61 l0_2 x8_2).f0))).setCell ⟨gb273, 1, none⟩ (.int .i64 ((rd_T61 l0_2 x8_2).f1.f0))).setCell ⟨gb273, 2, none⟩ (.int .i64 ((rd_T61 l0_2 x8_2).f1.f1))).setCell ⟨gb273, 3, none⟩ (.string ((rd_T61 l0_2 x8_2).f1.f2))).heap[gb261]? = some (.cells #[.int .i64 a0_0, .slice A0_1 l0_1.length c0_1, .slice (some ad272) l0_2.length c0_2] 25 (0, 0))) := ⟨by refine pk ?_; refine blk_far ?_ NB261_273.out _; refine pk ?_; refine blk_far ?_ NB261_273.out _; refine pk ?_; refine blk_far ?_ NB261_273.out _; refine pk ?_; refine blk_far ?_ NB261_273.out _; exact pk BK261.out⟩
                  have n1_ : Aside0 (((((w66.setCell ⟨gb273, 0, none⟩ (.string ((rd_T61 l0_2 x8_2).f0))).setCell ⟨gb273, 1, none⟩ (.int .i64 ((rd_T61 l0_2 x8_2).f1.f0))).setCell ⟨gb273, 2, none⟩ (.int .i64 ((rd_T61 l0_2 x8_2).f1.f1))).setCell ⟨gb273, 3, none⟩ (.string ((rd_T61 l0_2 x8_2).f1.f2))).heap[gb273]? = some (.cells #[.string ((rd_T61 l0_2 x8_2).f0), .int .i64 ((rd_T61 l0_2 x8_2).f1.f0), .int .i64 ((rd_T61 l0_2 x8_2).f1.f1), .string ((rd_T61 l0_2 x8_2).f1.f2)] 61 (0, 0))) := ⟨by refine pk ?_; refine blk_put (cs := #[.string ((rd_T61 l0_2 x8_2).f0), .int .i64 ((rd_T61 l0_2 x8_2).f1.f0), .int .i64 ((rd_T61 l0_2 x8_2).f1.f1), .string (⟨#[]⟩ : ByteArray)]) ?_ 3 _ rfl; refine pk ?_; refine blk_put (cs := #[.string ((rd_T61 l0_2 x8_2).f0), .int .i64 ((rd_T61 l0_2 x8_2).f1.f0), .int .i64 0, .string (⟨#[]⟩ : ByteArray)]) ?_ 2 _ rfl; refine pk ?_; refine blk_put (cs := #[.string ((rd_T61 l0_2 x8_2).f0), .int .i64 0, .int .i64 0, .string (⟨#[]⟩ : ByteArray)]) ?_ 1 _ rfl; refine pk ?_; refine blk_put (cs := #[.string (⟨#[]⟩ : ByteArray), .int .i64 0, .int .i64 0, .string (⟨#[]⟩ : ByteArray)]) ?_ 0 _ rfl; exact pk BK273.out⟩
                  have n2_ : Aside0 (Below w.heap.size w ((((w66.setCell ⟨gb273, 0, none⟩ (.string ((rd_T61 l0_2 x8_2).f0))).setCell ⟨gb273, 1, none⟩ (.int .i64 ((rd_T61 l0_2 x8_2).f1.f0))).setCell ⟨gb273, 2, none⟩ (.int .i64 ((rd_T61 l0_2 x8_2).f1.f1))).setCell ⟨gb273, 3, none⟩ (.string ((rd_T61 l0_2 x8_2).f1.f2)))) := ⟨bl HB.out⟩
                  (try clear BK261)
                  (try clear BK273)
                  (try clear HB)
                  generalize ((((w66.setCell ⟨gb273, 0, none⟩ (.string ((rd_T61 l0_2 x8_2).f0))).setCell ⟨gb273, 1, none⟩ (.int .i64 ((rd_T61 l0_2 x8_2).f1.f0))).setCell ⟨gb273, 2, none⟩ (.int .i64 ((rd_T61 l0_2 x8_2).f1.f1))).setCell ⟨gb273, 3, none⟩ (.string ((rd_T61 l0_2 x8_2).f1.f2))) = w69 at n0_ n1_ n2_ ⊢
                  have BK261 := n0_
                  have BK273 := n1_
                  have HB := n2_
                  clear n0_ n1_ n2_
                  replace BK261 := Aside0.mk (blk_drew BK261.out)
                  replace BK273 := Aside0.mk (blk_drew BK273.out)
                  replace HB := Aside0.mk (below_drew1 HB.out)
                  refine start_ (n := 17) (S := fun w' => w'.cell? ⟨gb273, 0, none⟩ = some (.string ((rd_T61 l0_2 x8_2).f0)) ∧ w'.cell? ⟨gb273, 1, none⟩ = some (.int .i64 ((rd_T61 l0_2 x8_2).f1.f0)) ∧ w'.cell? ⟨gb273, 2, none⟩ = some (.int .i64 ((rd_T61 l0_2 x8_2).f1.f1)) ∧ w'.cell? ⟨gb273, 3, none⟩ = some (.string ((rd_T61 l0_2 x8_2).f1.f2))) (ds := []) #[false, false, false, false, false, false, false, false, false, false, false, false, false, false, false, false, false] kr rfl rfl ⟨(blk_cell BK273.out 0).trans rfl, (blk_cell BK273.out 1).trans rfl, (blk_cell BK273.out 2).trans rfl, (blk_cell BK273.out 3).trans rfl⟩ (fun hHeld => ?_); refine with_tabW lodestarref05_Encode.tab18 lodestarref05_Encode.bits18 (fun HT_ HW_ => ?_)
                  generalize w69.drew = w70 at BK261 BK273 HB hHeld ⊢
                  refine pure_ (i := 0) (N := some 87) (v := ?_) (a' := ?_) #[true, false, false, false, false, false, false, false, false, false, false, false, false, false, false, false, false] rfl rfl (any_of HT_.out kr) (fun _ _ _ h => h) (Or.inl ⟨by rfl, ?_⟩) ?_ ?_
                  rotate_left
                  ·exact wl
                  rotate_left
                  ·exact ap
                  refine pure_ (i := 1) (N := some 88) (v := ?_) (a' := ?_) #[true, true, false, false, false, false, false, false, false, false, false, false, false, false, false, false, false] rfl rfl (any_of HT_.out kr) (fun _ _ _ h => h) (Or.inl ⟨by rfl, ?_⟩) ?_ ?_
                  rotate_left
                  ·exact wl
                  rotate_left
                  ·exact ap
                  refine pure_ (i := 6) (N := some 93) (v := ?_) (a' := ?_) #[true, true, false, false, false, false, true, false, false, false, false, false, false, false, false, false, false] rfl rfl (any_of HT_.out kr) (fun _ _ _ h => h) (Or.inl ⟨by rfl, ?_⟩) ?_ ?_
                  rotate_left
                  ·exact wl
                  rotate_left
                  ·exact ap
                  refine pure_ (i := 9) (N := some 96) (v := ?_) (a' := ?_) #[true, true, false, false, false, false, true, false, false, true, false, false, false, false, false, false, false] rfl rfl (any_of HT_.out kr) (fun _ _ _ h => h) (Or.inl ⟨by rfl, ?_⟩) ?_ ?_
                  rotate_left
                  ·exact wl
                  rotate_left
                  ·exact ap
                  refine pure_ (i := 10) (N := some 97) (v := ?_) (a' := ?_) #[true, true, false, false, false, false, true, false, false, true, true, false, false, false, false, false, false] rfl rfl (any_of HT_.out kr) (fun _ _ _ h => h) (Or.inl ⟨by rfl, ?_⟩) ?_ ?_
                  rotate_left
                  ·exact wl
                  rotate_left
                  ·exact ap
                  refine take_ (i := 2) (N := some 89) (v := ?_) (a' := ?_) #[true, true, true, false, false, false, true, false, false, true, true, false, false, false, false, false, false] rfl rfl (take_ofW HT_.out HW_.out kr) (fun _ _ _ h => h) (Or.inl ⟨by rfl, ?_⟩) hHeld ?_ ?_
                  rotate_left
                  ·rintro w' ⟨s0, s1, s2, s3⟩
                   go_simp
                   exact rl
                  rotate_left
                  ·exact ap
                  refine pure_ (i := 3) (N := some 90) (v := ?_) (a' := ?_) #[true, true, true, true, false, false, true, false, false, true, true, false, false, false, false, false, false] rfl rfl (any_of HT_.out kr) (fun _ _ _ h => h) (Or.inl ⟨by rfl, ?_⟩) ?_ ?_
                  rotate_left
                  ·exact wl
                  rotate_left
                  ·exact ap
                  refine pure_ (i := 4) (N := some 91) (v := ?_) (a' := ?_) #[true, true, true, true, true, false, true, false, false, true, true, false, false, false, false, false, false] rfl rfl (any_of HT_.out kr) (fun _ _ _ h => h) (Or.inl ⟨by rfl, ?_⟩) ?_ ?_
                  rotate_left
                  ·exact wl
                  rotate_left
                  ·exact ap
                  refine take_ (i := 7) (N := some 94) (v := ?_) (a' := ?_) #[true, true, true, true, true, false, true, true, false, true, true, false, false, false, false, false, false] rfl rfl (take_ofW HT_.out HW_.out kr) (fun _ _ _ h => h) (Or.inl ⟨by rfl, ?_⟩) hHeld ?_ ?_
                  rotate_left
                  ·rintro w' ⟨s0, s1, s2, s3⟩
                   go_simp
                   exact rl
                  rotate_left
                  ·exact ap
                  refine take_ (i := 11) (N := some 98) (v := ?_) (a' := ?_) #[true, true, true, true, true, false, true, true, false, true, true, true, false, false, false, false, false] rfl rfl (take_ofW HT_.out HW_.out kr) (fun _ _ _ h => h) (Or.inl ⟨by rfl, ?_⟩) hHeld ?_ ?_
                  rotate_left
                  ·rintro w' ⟨s0, s1, s2, s3⟩
                   go_simp
                   exact rl
                  rotate_left
                  ·exact ap
                  refine pure_ (i := 12) (N := some 99) (v := ?_) (a' := ?_) #[true, true, true, true, true, false, true, true, false, true, true, true, true, false, false, false, false] rfl rfl (any_of HT_.out kr) (fun _ _ _ h => h) (Or.inl ⟨by rfl, ?_⟩) ?_ ?_
                  rotate_left
                  ·exact wl
                  rotate_left
                  ·exact ap
                  refine one_ (i := 5) (N := some 92) #[true, true, true, true, true, true, true, true, false, true, true, true, true, false, false, false, false] rfl rfl (one_of HT_.out kr) (by decide) (fun K hK => ?_)
                  refine goes_ Tryd.func38 kr rfl #[.int .u64 (IntKind.u64.wrap ((((rd_T61 l0_2 x8_2).f0).size : Int))), .int .i64 1] (by rfl) rfl rfl ga ?_
                  with_reducible refine (lodestarref05_fix.calls k2 (IntKind.u64.wrap ((((rd_T61 l0_2 x8_2).f0).size : Int))) 1 t274 _ A43.out).mono ?_
                  rintro e w71 ⟨rfl, hb⟩
                  refine ⟨_, rfl, ?_⟩
                  replace BK261 := Aside0.mk (blk_below (pk BK261.out) hb)
                  replace BK273 := Aside0.mk (blk_below (pk BK273.out) hb)
                  replace HB := Aside0.mk (below_step (bl HB.out) hb)
                  (try clear hb)
                  (try clear hb2)
                  (try clear hk)
                  (try clear hi)
                  refine hK.out _ _ ⟨(blk_cell BK273.out 0).trans rfl, (blk_cell BK273.out 1).trans rfl, (blk_cell BK273.out 2).trans rfl, (blk_cell BK273.out 3).trans rfl⟩ (fun hHeld => ?_)
                  clear hK K
                  refine norm_ (a' := ?_) ?_ ?_
                  rotate_left
                  ·show Act.put _ (some 92) _ = _
                   exact ap
                  refine pure_ (i := 8) (N := some 95) (v := ?_) (a' := ?_) #[true, true, true, true, true, true, true, true, true, true, true, true, true, false, false, false, false] rfl rfl (any_of HT_.out kr) (fun _ _ _ h => h) (Or.inl ⟨by rfl, ?_⟩) ?_ ?_
                  rotate_left
                  ·exact wl
                  rotate_left
                  ·exact ap
                  refine one_ (i := 13) (N := some 100) #[true, true, true, true, true, true, true, true, true, true, true, true, true, true, false, false, false] rfl rfl (one_of HT_.out kr) (by decide) (fun K hK => ?_)
                  refine goes_ Tryd.func38 kr rfl #[.int .u64 (IntKind.u64.wrap ((rd_T61 l0_2 x8_2).f1.f0)), .int .i64 1] (by rfl) rfl rfl ga ?_
                  with_reducible refine (lodestarref05_fix.calls k2 (IntKind.u64.wrap ((rd_T61 l0_2 x8_2).f1.f0)) 1 t275 _ A45.out).mono ?_
                  rintro e w72 ⟨rfl, hb⟩
                  refine ⟨_, rfl, ?_⟩
                  replace BK261 := Aside0.mk (blk_below (pk BK261.out) hb)
                  replace BK273 := Aside0.mk (blk_below (pk BK273.out) hb)
                  replace HB := Aside0.mk (below_step (bl HB.out) hb)
                  (try clear hb)
                  (try clear hb2)
                  (try clear hk)
                  (try clear hi)
                  refine hK.out _ _ ⟨(blk_cell BK273.out 0).trans rfl, (blk_cell BK273.out 1).trans rfl, (blk_cell BK273.out 2).trans rfl, (blk_cell BK273.out 3).trans rfl⟩ (fun hHeld => ?_)
                  clear hK K
                  refine norm_ (a' := ?_) ?_ ?_
                  rotate_left
                  ·show Act.put _ (some 100) _ = _
                   exact ap
                  refine pure_ (i := 14) (N := some 101) (v := ?_) (a' := ?_) #[true, true, true, true, true, true, true, true, true, true, true, true, true, true, true, false, false] rfl rfl (any_of HT_.out kr) (fun _ _ _ h => h) (Or.inl ⟨by rfl, ?_⟩) ?_ ?_
                  rotate_left
                  ·exact wl
                  rotate_left
                  ·exact ap
                  refine pure_ (i := 15) (N := some 102) (v := ?_) (a' := ?_) #[true, true, true, true, true, true, true, true, true, true, true, true, true, true, true, true, false] rfl rfl (any_of HT_.out kr) (fun _ _ _ h => h) (Or.inl ⟨by rfl, ?_⟩) ?_ ?_
                  rotate_left
                  ·exact wl
                  rotate_left
                  ·exact ap
                  refine pure_ (i := 16) (N := some 4) (v := ?_) (a' := ?_) #[true, true, true, true, true, true, true, true, true, true, true, true, true, true, true, true, true] rfl rfl (any_of HT_.out kr) (fun _ _ _ h => h) (Or.inl ⟨by rfl, ?_⟩) ?_ ?_
                  rotate_left
                  ·exact wl
                  rotate_left
                  ·exact ap
                  refine done_ (done_of HT_.out kr) ?_
                  obtain ⟨hcz73_0, hcz73_1, hcz73_2, hcz73_3, hfz73_0, hfz73_1, hfz73_2, hfz73_3⟩ := cz4 BK273.out
                  try go_wp2
                  replace BK261 := Aside0.mk (blk_drew BK261.out)
                  replace BK273 := Aside0.mk (blk_drew BK273.out)
                  replace HB := Aside0.mk (below_drew1 HB.out)
                  refine start_ (n := 13) (S := fun w' => w'.cell? ⟨gb273, 0, none⟩ = some (.string ((rd_T61 l0_2 x8_2).f0)) ∧ w'.cell? ⟨gb273, 1, none⟩ = some (.int .i64 ((rd_T61 l0_2 x8_2).f1.f0)) ∧ w'.cell? ⟨gb273, 2, none⟩ = some (.int .i64 ((rd_T61 l0_2 x8_2).f1.f1)) ∧ w'.cell? ⟨gb273, 3, none⟩ = some (.string ((rd_T61 l0_2 x8_2).f1.f2))) (ds := []) #[false, false, false, false, false, false, false, false, false, false, false, false, false] kr rfl rfl ⟨(blk_cell BK273.out 0).trans rfl, (blk_cell BK273.out 1).trans rfl, (blk_cell BK273.out 2).trans rfl, (blk_cell BK273.out 3).trans rfl⟩ (fun hHeld => ?_); refine with_tabW lodestarref05_Encode.tab23 lodestarref05_Encode.bits23 (fun HT_ HW_ => ?_)
                  generalize w72.drew = w74 at BK261 BK273 HB hHeld ⊢
                  refine pure_ (i := 0) (N := some 117) (v := ?_) (a' := ?_) #[true, false, false, false, false, false, false, false, false, false, false, false, false] rfl rfl (any_of HT_.out kr) (fun _ _ _ h => h) (Or.inl ⟨by rfl, ?_⟩) ?_ ?_
                  rotate_left
                  ·exact wl
                  rotate_left
                  ·exact ap
                  refine pure_ (i := 1) (N := some 118) (v := ?_) (a' := ?_) #[true, true, false, false, false, false, false, false, false, false, false, false, false] rfl rfl (any_of HT_.out kr) (fun _ _ _ h => h) (Or.inl ⟨by rfl, ?_⟩) ?_ ?_
                  rotate_left
                  ·exact wl
                  rotate_left
                  ·exact ap
                  refine pure_ (i := 2) (N := some 119) (v := ?_) (a' := ?_) #[true, true, true, false, false, false, false, false, false, false, false, false, false] rfl rfl (any_of HT_.out kr) (fun _ _ _ h => h) (Or.inl ⟨by rfl, ?_⟩) ?_ ?_
                  rotate_left
                  ·exact wl
                  rotate_left
                  ·exact ap
                  refine pure_ (i := 7) (N := some 124) (v := ?_) (a' := ?_) #[true, true, true, false, false, false, false, true, false, false, false, false, false] rfl rfl (any_of HT_.out kr) (fun _ _ _ h => h) (Or.inl ⟨by rfl, ?_⟩) ?_ ?_
                  rotate_left
                  ·exact wl
                  rotate_left
                  ·exact ap
                  refine pure_ (i := 8) (N := some 125) (v := ?_) (a' := ?_) #[true, true, true, false, false, false, false, true, true, false, false, false, false] rfl rfl (any_of HT_.out kr) (fun _ _ _ h => h) (Or.inl ⟨by rfl, ?_⟩) ?_ ?_
                  rotate_left
                  ·exact wl
                  rotate_left
                  ·exact ap
                  refine take_ (i := 3) (N := some 120) (v := ?_) (a' := ?_) #[true, true, true, true, false, false, false, true, true, false, false, false, false] rfl rfl (take_ofW HT_.out HW_.out kr) (fun _ _ _ h => h) (Or.inl ⟨by rfl, ?_⟩) hHeld ?_ ?_
                  rotate_left
                  ·rintro w' ⟨s0, s1, s2, s3⟩
                   go_simp
                   exact rl
                  rotate_left
                  ·exact ap
                  refine pure_ (i := 4) (N := some 121) (v := ?_) (a' := ?_) #[true, true, true, true, true, false, false, true, true, false, false, false, false] rfl rfl (any_of HT_.out kr) (fun _ _ _ h => h) (Or.inl ⟨by rfl, ?_⟩) ?_ ?_
                  rotate_left
                  ·exact wl
                  rotate_left
                  ·exact ap
                  refine pure_ (i := 5) (N := some 122) (v := ?_) (a' := ?_) #[true, true, true, true, true, true, false, true, true, false, false, false, false] rfl rfl (any_of HT_.out kr) (fun _ _ _ h => h) (Or.inl ⟨by rfl, ?_⟩) ?_ ?_
                  rotate_left
                  ·exact wl
                  rotate_left
                  ·exact ap
                  refine take_ (i := 9) (N := some 126) (v := ?_) (a' := ?_) #[true, true, true, true, true, true, false, true, true, true, false, false, false] rfl rfl (take_ofW HT_.out HW_.out kr) (fun _ _ _ h => h) (Or.inl ⟨by rfl, ?_⟩) hHeld ?_ ?_
                  rotate_left
                  ·rintro w' ⟨s0, s1, s2, s3⟩
                   go_simp
                   exact rl
                  rotate_left
                  ·exact ap
                  refine one_ (i := 6) (N := some 123) #[true, true, true, true, true, true, true, true, true, true, false, false, false] rfl rfl (one_of HT_.out kr) (by decide) (fun K hK => ?_)
                  refine goes_ Tryd.func38 kr rfl #[.int .u64 (IntKind.u64.wrap ((((rd_T61 l0_2 x8_2).f1.f2).size : Int))), .int .i64 2] (by rfl) rfl rfl ga ?_
                  with_reducible refine (lodestarref05_fix.calls k2 (IntKind.u64.wrap ((((rd_T61 l0_2 x8_2).f1.f2).size : Int))) 2 t277 _ A62.out).mono ?_
                  rintro e w75 ⟨rfl, hb⟩
                  refine ⟨_, rfl, ?_⟩
                  replace BK261 := Aside0.mk (blk_below (pk BK261.out) hb)
                  replace BK273 := Aside0.mk (blk_below (pk BK273.out) hb)
                  replace HB := Aside0.mk (below_step (bl HB.out) hb)
                  (try clear hb)
                  (try clear hb2)
                  (try clear hk)
                  (try clear hi)
                  refine hK.out _ _ ⟨(blk_cell BK273.out 0).trans rfl, (blk_cell BK273.out 1).trans rfl, (blk_cell BK273.out 2).trans rfl, (blk_cell BK273.out 3).trans rfl⟩ (fun hHeld => ?_)
                  clear hK K
                  refine norm_ (a' := ?_) ?_ ?_
                  rotate_left
                  ·show Act.put _ (some 123) _ = _
                   exact ap
                  refine pure_ (i := 10) (N := some 127) (v := ?_) (a' := ?_) #[true, true, true, true, true, true, true, true, true, true, true, false, false] rfl rfl (any_of HT_.out kr) (fun _ _ _ h => h) (Or.inl ⟨by rfl, ?_⟩) ?_ ?_
                  rotate_left
                  ·exact wl
                  rotate_left
                  ·exact ap
                  refine pure_ (i := 11) (N := some 128) (v := ?_) (a' := ?_) #[true, true, true, true, true, true, true, true, true, true, true, true, false] rfl rfl (any_of HT_.out kr) (fun _ _ _ h => h) (Or.inl ⟨by rfl, ?_⟩) ?_ ?_
                  rotate_left
                  ·exact wl
                  rotate_left
                  ·exact ap
                  refine pure_ (i := 12) (N := some 4) (v := ?_) (a' := ?_) #[true, true, true, true, true, true, true, true, true, true, true, true, true] rfl rfl (any_of HT_.out kr) (fun _ _ _ h => h) (Or.inl ⟨by rfl, ?_⟩) ?_ ?_
                  rotate_left
                  ·exact wl
                  rotate_left
                  ·exact ap
                  refine done_ (done_of HT_.out kr) ?_
                  try go_wp2
                  go_roundg k2
                  case measure => have := HK1.out; have := HK2.out; omega
                  case rel => exact ⟨((x4_2 ++ ((t274 ++ ((rd_T61 l0_2 x8_2).f0)) ++ t275)) ++ (t277 ++ ((rd_T61 l0_2 x8_2).f1.f2))), (wrap64 (x8_2 + 1)), hsr, hsr, H', ⟨by have := HK1.out; have := HK2.out; omega⟩, ⟨pk BK261.out⟩, ⟨bl HB.out⟩⟩
                 ·rw [if_neg c64] at H
                  exact absurd H (by simp)
                ·rw [if_neg c63] at H
                 exact absurd H (by simp)
               ·rw [if_neg c61] at H
                have c61b0 : (((rd_T61 l0_2 x8_2).f1.f0) == 2) = false := beq_eq_false_iff_ne.mpr c61
                have c61b1 : (((rd_T61 l0_2 x8_2).f1.f0) != 2) = true := bne_iff_ne.mpr c61
                by_cases c76 : ((rd_T61 l0_2 x8_2).f1.f0) = 3
                ·rw [if_pos c76] at H
                 have c76b0 : (((rd_T61 l0_2 x8_2).f1.f0) == 3) = true := beq_iff_eq.mpr c76
                 have c76b1 : (((rd_T61 l0_2 x8_2).f1.f0) != 3) = false := bne_eq_false_iff_eq.mpr c76
                 clear c76
                 replace H := Option.bind_eq_some_iff.mp H
                 obtain ⟨t278, A770, H⟩ := H
                 replace H : (if (x4_2 ++ ((t274 ++ ((rd_T61 l0_2 x8_2).f0)) ++ t275)).size + t278.size ≤ 9223372036854775807 then (lodestarref05_Encode.l2 k2 ((x4_2 ++ ((t274 ++ ((rd_T61 l0_2 x8_2).f0)) ++ t275)) ++ t278) (wrap64 (x8_2 + 1)) a0_0 l0_1 l0_2) else (none)) = some (r1, r2) := H
                 have A77 := Aside0.mk A770
                 clear A770
                 by_cases c78 : (x4_2 ++ ((t274 ++ ((rd_T61 l0_2 x8_2).f0)) ++ t275)).size + t278.size ≤ 9223372036854775807
                 ·rw [if_pos c78] at H
                  have c78b0 := eq_true c78
                  have c78b1 : decide ((x4_2 ++ ((t274 ++ ((rd_T61 l0_2 x8_2).f0)) ++ t275)).size + t278.size ≤ 9223372036854775807) = true := decide_eq_true c78
                  try have c78b2 : (9223372036854775807 < (x4_2 ++ ((t274 ++ ((rd_T61 l0_2 x8_2).f0)) ++ t275)).size + t278.size) = False := eq_false (Nat.not_lt.2 c78)
                  (try (have c78z0 := c78b0; simp only [ByteArray.size_append] at c78z0))
                  (try (have c78z1 := c78b1; simp only [ByteArray.size_append] at c78z1))
                  (try (have c78z2 := c78b2; simp only [ByteArray.size_append] at c78z2))
                  have H' := Aside0.mk H
                  clear H
                  obtain ⟨hcz79_0, hcz79_1, hcz79_2, hfz79_0, hfz79_1, hfz79_2⟩ := cz3 BK261.out
                  have p272 : 0 ≤ (x8_2 : Int) := of_decide_eq_true ha
                  have q272 : x8_2 < (l0_2.length : Int) := of_decide_eq_true ha
                  obtain ⟨ad272, e272, hx272_0, hx272_1, hx272_2, hx272_3⟩ := at_T61 HR0_2.out x8_2 p272 q272
                  cases e272
                  replace hx272_0 := (HB.out.cell (World.block_lt_of_cell? w _ hx272_0)).trans hx272_0
                  replace hx272_1 := (HB.out.cell (World.block_lt_of_cell? w _ hx272_1)).trans hx272_1
                  replace hx272_2 := (HB.out.cell (World.block_lt_of_cell? w _ hx272_2)).trans hx272_2
                  replace hx272_3 := (HB.out.cell (World.block_lt_of_cell? w _ hx272_3)).trans hx272_3
                  replace p272 := eq_true p272
                  replace q272 := eq_true q272
                  try go_wp2_with (first | ((with_reducible refine gate_dst (N := 9) rfl ?_); refine box_event ?hg (N := 9) ?hd (cs := #[.string (⟨#[]⟩ : ByteArray), .int .i64 0, .int .i64 0, .string (⟨#[]⟩ : ByteArray)]) (t := 61) ?hr ?_; (case hd => rfl); (case hg => rfl); (case hr => first | (go_simp; done) | (go_simp; rfl)); intro gb273 hg w80 hbox hb; have BK273 := Aside0.mk (hbox); have GW273 := Aside0.mk (gs (w := w) hg (bl HB.out)); have GE273 := Aside0.mk (gs (w := w) hg (bl HB.out)); replace HB := Aside0.mk (below_step (bl HB.out) hb); have NB261_273 := Aside0.mk ((gl (g := gb261) hg (pk BK261.out))); have NB273_261 := Aside0.mk ((gm (g := gb261) hg (pk BK261.out))); replace BK261 := Aside0.mk (blk_below (pk BK261.out) hb); clear hb hbox hg; have hnb81 := NB273_261.out; have hnc81 := NB261_273.out; obtain ⟨hcz82_0, hcz82_1, hcz82_2, hcz82_3, hfz82_0, hfz82_1, hfz82_2, hfz82_3⟩ := cz4 BK273.out))
                  have n0_ : Aside0 (((((w80.setCell ⟨gb273, 0, none⟩ (.string ((rd_T61 l0_2 x8_2).f0))).setCell ⟨gb273, 1, none⟩ (.int .i64 ((rd_T61 l0_2 x8_2).f1.f0))).setCell ⟨gb273, 2, none⟩ (.int .i64 ((rd_T61 l0_2 x8_2).f1.f1))).setCell ⟨gb273, 3, none⟩ (.string ((rd_T61 l0_2 x8_2).f1.f2))).heap[gb261]? = some (.cells #[.int .i64 a0_0, .slice A0_1 l0_1.length c0_1, .slice (some ad272) l0_2.length c0_2] 25 (0, 0))) := ⟨by refine pk ?_; refine blk_far ?_ NB261_273.out _; refine pk ?_; refine blk_far ?_ NB261_273.out _; refine pk ?_; refine blk_far ?_ NB261_273.out _; refine pk ?_; refine blk_far ?_ NB261_273.out _; exact pk BK261.out⟩
                  have n1_ : Aside0 (((((w80.setCell ⟨gb273, 0, none⟩ (.string ((rd_T61 l0_2 x8_2).f0))).setCell ⟨gb273, 1, none⟩ (.int .i64 ((rd_T61 l0_2 x8_2).f1.f0))).setCell ⟨gb273, 2, none⟩ (.int .i64 ((rd_T61 l0_2 x8_2).f1.f1))).setCell ⟨gb273, 3, none⟩ (.string ((rd_T61 l0_2 x8_2).f1.f2))).heap[gb273]? = some (.cells #[.string ((rd_T61 l0_2 x8_2).f0), .int .i64 ((rd_T61 l0_2 x8_2).f1.f0), .int .i64 ((rd_T61 l0_2 x8_2).f1.f1), .string ((rd_T61 l0_2 x8_2).f1.f2)] 61 (0, 0))) := ⟨by refine pk ?_; refine blk_put (cs := #[.string ((rd_T61 l0_2 x8_2).f0), .int .i64 ((rd_T61 l0_2 x8_2).f1.f0), .int .i64 ((rd_T61 l0_2 x8_2).f1.f1), .string (⟨#[]⟩ : ByteArray)]) ?_ 3 _ rfl; refine pk ?_; refine blk_put (cs := #[.string ((rd_T61 l0_2 x8_2).f0), .int .i64 ((rd_T61 l0_2 x8_2).f1.f0), .int .i64 0, .string (⟨#[]⟩ : ByteArray)]) ?_ 2 _ rfl; refine pk ?_; refine blk_put (cs := #[.string ((rd_T61 l0_2 x8_2).f0), .int .i64 0, .int .i64 0, .string (⟨#[]⟩ : ByteArray)]) ?_ 1 _ rfl; refine pk ?_; refine blk_put (cs := #[.string (⟨#[]⟩ : ByteArray), .int .i64 0, .int .i64 0, .string (⟨#[]⟩ : ByteArray)]) ?_ 0 _ rfl; exact pk BK273.out⟩
                  have n2_ : Aside0 (Below w.heap.size w ((((w80.setCell ⟨gb273, 0, none⟩ (.string ((rd_T61 l0_2 x8_2).f0))).setCell ⟨gb273, 1, none⟩ (.int .i64 ((rd_T61 l0_2 x8_2).f1.f0))).setCell ⟨gb273, 2, none⟩ (.int .i64 ((rd_T61 l0_2 x8_2).f1.f1))).setCell ⟨gb273, 3, none⟩ (.string ((rd_T61 l0_2 x8_2).f1.f2)))) := ⟨bl HB.out⟩
                  (try clear BK261)
                  (try clear BK273)
                  (try clear HB)
                  generalize ((((w80.setCell ⟨gb273, 0, none⟩ (.string ((rd_T61 l0_2 x8_2).f0))).setCell ⟨gb273, 1, none⟩ (.int .i64 ((rd_T61 l0_2 x8_2).f1.f0))).setCell ⟨gb273, 2, none⟩ (.int .i64 ((rd_T61 l0_2 x8_2).f1.f1))).setCell ⟨gb273, 3, none⟩ (.string ((rd_T61 l0_2 x8_2).f1.f2))) = w83 at n0_ n1_ n2_ ⊢
                  have BK261 := n0_
                  have BK273 := n1_
                  have HB := n2_
                  clear n0_ n1_ n2_
                  replace BK261 := Aside0.mk (blk_drew BK261.out)
                  replace BK273 := Aside0.mk (blk_drew BK273.out)
                  replace HB := Aside0.mk (below_drew1 HB.out)
                  refine start_ (n := 17) (S := fun w' => w'.cell? ⟨gb273, 0, none⟩ = some (.string ((rd_T61 l0_2 x8_2).f0)) ∧ w'.cell? ⟨gb273, 1, none⟩ = some (.int .i64 ((rd_T61 l0_2 x8_2).f1.f0)) ∧ w'.cell? ⟨gb273, 2, none⟩ = some (.int .i64 ((rd_T61 l0_2 x8_2).f1.f1)) ∧ w'.cell? ⟨gb273, 3, none⟩ = some (.string ((rd_T61 l0_2 x8_2).f1.f2))) (ds := []) #[false, false, false, false, false, false, false, false, false, false, false, false, false, false, false, false, false] kr rfl rfl ⟨(blk_cell BK273.out 0).trans rfl, (blk_cell BK273.out 1).trans rfl, (blk_cell BK273.out 2).trans rfl, (blk_cell BK273.out 3).trans rfl⟩ (fun hHeld => ?_); refine with_tabW lodestarref05_Encode.tab18 lodestarref05_Encode.bits18 (fun HT_ HW_ => ?_)
                  generalize w83.drew = w84 at BK261 BK273 HB hHeld ⊢
                  refine pure_ (i := 0) (N := some 87) (v := ?_) (a' := ?_) #[true, false, false, false, false, false, false, false, false, false, false, false, false, false, false, false, false] rfl rfl (any_of HT_.out kr) (fun _ _ _ h => h) (Or.inl ⟨by rfl, ?_⟩) ?_ ?_
                  rotate_left
                  ·exact wl
                  rotate_left
                  ·exact ap
                  refine pure_ (i := 1) (N := some 88) (v := ?_) (a' := ?_) #[true, true, false, false, false, false, false, false, false, false, false, false, false, false, false, false, false] rfl rfl (any_of HT_.out kr) (fun _ _ _ h => h) (Or.inl ⟨by rfl, ?_⟩) ?_ ?_
                  rotate_left
                  ·exact wl
                  rotate_left
                  ·exact ap
                  refine pure_ (i := 6) (N := some 93) (v := ?_) (a' := ?_) #[true, true, false, false, false, false, true, false, false, false, false, false, false, false, false, false, false] rfl rfl (any_of HT_.out kr) (fun _ _ _ h => h) (Or.inl ⟨by rfl, ?_⟩) ?_ ?_
                  rotate_left
                  ·exact wl
                  rotate_left
                  ·exact ap
                  refine pure_ (i := 9) (N := some 96) (v := ?_) (a' := ?_) #[true, true, false, false, false, false, true, false, false, true, false, false, false, false, false, false, false] rfl rfl (any_of HT_.out kr) (fun _ _ _ h => h) (Or.inl ⟨by rfl, ?_⟩) ?_ ?_
                  rotate_left
                  ·exact wl
                  rotate_left
                  ·exact ap
                  refine pure_ (i := 10) (N := some 97) (v := ?_) (a' := ?_) #[true, true, false, false, false, false, true, false, false, true, true, false, false, false, false, false, false] rfl rfl (any_of HT_.out kr) (fun _ _ _ h => h) (Or.inl ⟨by rfl, ?_⟩) ?_ ?_
                  rotate_left
                  ·exact wl
                  rotate_left
                  ·exact ap
                  refine take_ (i := 2) (N := some 89) (v := ?_) (a' := ?_) #[true, true, true, false, false, false, true, false, false, true, true, false, false, false, false, false, false] rfl rfl (take_ofW HT_.out HW_.out kr) (fun _ _ _ h => h) (Or.inl ⟨by rfl, ?_⟩) hHeld ?_ ?_
                  rotate_left
                  ·rintro w' ⟨s0, s1, s2, s3⟩
                   go_simp
                   exact rl
                  rotate_left
                  ·exact ap
                  refine pure_ (i := 3) (N := some 90) (v := ?_) (a' := ?_) #[true, true, true, true, false, false, true, false, false, true, true, false, false, false, false, false, false] rfl rfl (any_of HT_.out kr) (fun _ _ _ h => h) (Or.inl ⟨by rfl, ?_⟩) ?_ ?_
                  rotate_left
                  ·exact wl
                  rotate_left
                  ·exact ap
                  refine pure_ (i := 4) (N := some 91) (v := ?_) (a' := ?_) #[true, true, true, true, true, false, true, false, false, true, true, false, false, false, false, false, false] rfl rfl (any_of HT_.out kr) (fun _ _ _ h => h) (Or.inl ⟨by rfl, ?_⟩) ?_ ?_
                  rotate_left
                  ·exact wl
                  rotate_left
                  ·exact ap
                  refine take_ (i := 7) (N := some 94) (v := ?_) (a' := ?_) #[true, true, true, true, true, false, true, true, false, true, true, false, false, false, false, false, false] rfl rfl (take_ofW HT_.out HW_.out kr) (fun _ _ _ h => h) (Or.inl ⟨by rfl, ?_⟩) hHeld ?_ ?_
                  rotate_left
                  ·rintro w' ⟨s0, s1, s2, s3⟩
                   go_simp
                   exact rl
                  rotate_left
                  ·exact ap
                  refine take_ (i := 11) (N := some 98) (v := ?_) (a' := ?_) #[true, true, true, true, true, false, true, true, false, true, true, true, false, false, false, false, false] rfl rfl (take_ofW HT_.out HW_.out kr) (fun _ _ _ h => h) (Or.inl ⟨by rfl, ?_⟩) hHeld ?_ ?_
                  rotate_left
                  ·rintro w' ⟨s0, s1, s2, s3⟩
                   go_simp
                   exact rl
                  rotate_left
                  ·exact ap
                  refine pure_ (i := 12) (N := some 99) (v := ?_) (a' := ?_) #[true, true, true, true, true, false, true, true, false, true, true, true, true, false, false, false, false] rfl rfl (any_of HT_.out kr) (fun _ _ _ h => h) (Or.inl ⟨by rfl, ?_⟩) ?_ ?_
                  rotate_left
                  ·exact wl
                  rotate_left
                  ·exact ap
                  refine one_ (i := 5) (N := some 92) #[true, true, true, true, true, true, true, true, false, true, true, true, true, false, false, false, false] rfl rfl (one_of HT_.out kr) (by decide) (fun K hK => ?_)
                  refine goes_ Tryd.func38 kr rfl #[.int .u64 (IntKind.u64.wrap ((((rd_T61 l0_2 x8_2).f0).size : Int))), .int .i64 1] (by rfl) rfl rfl ga ?_
                  with_reducible refine (lodestarref05_fix.calls k2 (IntKind.u64.wrap ((((rd_T61 l0_2 x8_2).f0).size : Int))) 1 t274 _ A43.out).mono ?_
                  rintro e w85 ⟨rfl, hb⟩
                  refine ⟨_, rfl, ?_⟩
                  replace BK261 := Aside0.mk (blk_below (pk BK261.out) hb)
                  replace BK273 := Aside0.mk (blk_below (pk BK273.out) hb)
                  replace HB := Aside0.mk (below_step (bl HB.out) hb)
                  (try clear hb)
                  (try clear hb2)
                  (try clear hk)
                  (try clear hi)
                  refine hK.out _ _ ⟨(blk_cell BK273.out 0).trans rfl, (blk_cell BK273.out 1).trans rfl, (blk_cell BK273.out 2).trans rfl, (blk_cell BK273.out 3).trans rfl⟩ (fun hHeld => ?_)
                  clear hK K
                  refine norm_ (a' := ?_) ?_ ?_
                  rotate_left
                  ·show Act.put _ (some 92) _ = _
                   exact ap
                  refine pure_ (i := 8) (N := some 95) (v := ?_) (a' := ?_) #[true, true, true, true, true, true, true, true, true, true, true, true, true, false, false, false, false] rfl rfl (any_of HT_.out kr) (fun _ _ _ h => h) (Or.inl ⟨by rfl, ?_⟩) ?_ ?_
                  rotate_left
                  ·exact wl
                  rotate_left
                  ·exact ap
                  refine one_ (i := 13) (N := some 100) #[true, true, true, true, true, true, true, true, true, true, true, true, true, true, false, false, false] rfl rfl (one_of HT_.out kr) (by decide) (fun K hK => ?_)
                  refine goes_ Tryd.func38 kr rfl #[.int .u64 (IntKind.u64.wrap ((rd_T61 l0_2 x8_2).f1.f0)), .int .i64 1] (by rfl) rfl rfl ga ?_
                  with_reducible refine (lodestarref05_fix.calls k2 (IntKind.u64.wrap ((rd_T61 l0_2 x8_2).f1.f0)) 1 t275 _ A45.out).mono ?_
                  rintro e w86 ⟨rfl, hb⟩
                  refine ⟨_, rfl, ?_⟩
                  replace BK261 := Aside0.mk (blk_below (pk BK261.out) hb)
                  replace BK273 := Aside0.mk (blk_below (pk BK273.out) hb)
                  replace HB := Aside0.mk (below_step (bl HB.out) hb)
                  (try clear hb)
                  (try clear hb2)
                  (try clear hk)
                  (try clear hi)
                  refine hK.out _ _ ⟨(blk_cell BK273.out 0).trans rfl, (blk_cell BK273.out 1).trans rfl, (blk_cell BK273.out 2).trans rfl, (blk_cell BK273.out 3).trans rfl⟩ (fun hHeld => ?_)
                  clear hK K
                  refine norm_ (a' := ?_) ?_ ?_
                  rotate_left
                  ·show Act.put _ (some 100) _ = _
                   exact ap
                  refine pure_ (i := 14) (N := some 101) (v := ?_) (a' := ?_) #[true, true, true, true, true, true, true, true, true, true, true, true, true, true, true, false, false] rfl rfl (any_of HT_.out kr) (fun _ _ _ h => h) (Or.inl ⟨by rfl, ?_⟩) ?_ ?_
                  rotate_left
                  ·exact wl
                  rotate_left
                  ·exact ap
                  refine pure_ (i := 15) (N := some 102) (v := ?_) (a' := ?_) #[true, true, true, true, true, true, true, true, true, true, true, true, true, true, true, true, false] rfl rfl (any_of HT_.out kr) (fun _ _ _ h => h) (Or.inl ⟨by rfl, ?_⟩) ?_ ?_
                  rotate_left
                  ·exact wl
                  rotate_left
                  ·exact ap
                  refine pure_ (i := 16) (N := some 4) (v := ?_) (a' := ?_) #[true, true, true, true, true, true, true, true, true, true, true, true, true, true, true, true, true] rfl rfl (any_of HT_.out kr) (fun _ _ _ h => h) (Or.inl ⟨by rfl, ?_⟩) ?_ ?_
                  rotate_left
                  ·exact wl
                  rotate_left
                  ·exact ap
                  refine done_ (done_of HT_.out kr) ?_
                  obtain ⟨hcz87_0, hcz87_1, hcz87_2, hcz87_3, hfz87_0, hfz87_1, hfz87_2, hfz87_3⟩ := cz4 BK273.out
                  try go_wp2_with (first | ((with_reducible refine gate_callee (f := 38) rfl ?_); refine goesL_ (some 136) rfl rfl Tryd.func38 kr rfl #[.int .u64 (IntKind.u64.wrap ((rd_T61 l0_2 x8_2).f1.f1)), .int .i64 1] rfl ga ?_; (with_reducible refine (lodestarref05_fix.calls k2 (IntKind.u64.wrap ((rd_T61 l0_2 x8_2).f1.f1)) 1 t278 _ A77.out).mono ?_); rintro e w88 ⟨rfl, hb⟩; refine ⟨_, rfl, ?_⟩; replace BK261 := Aside0.mk (blk_below (pk BK261.out) hb); replace BK273 := Aside0.mk (blk_below (pk BK273.out) hb); replace HB := Aside0.mk (below_step (bl HB.out) hb); (try clear hb); (try clear hb2); (try clear hk); (try clear hi)))
                  go_roundg k2
                  case measure => have := HK1.out; have := HK2.out; omega
                  case rel => exact ⟨((x4_2 ++ ((t274 ++ ((rd_T61 l0_2 x8_2).f0)) ++ t275)) ++ t278), (wrap64 (x8_2 + 1)), hsr, hsr, H', ⟨by have := HK1.out; have := HK2.out; omega⟩, ⟨pk BK261.out⟩, ⟨bl HB.out⟩⟩
                 ·rw [if_neg c78] at H
                  exact absurd H (by simp)
                ·rw [if_neg c76] at H
                 have c76b0 : (((rd_T61 l0_2 x8_2).f1.f0) == 3) = false := beq_eq_false_iff_ne.mpr c76
                 have c76b1 : (((rd_T61 l0_2 x8_2).f1.f0) != 3) = true := bne_iff_ne.mpr c76
                 have H' := Aside0.mk H
                 clear H
                 obtain ⟨hcz89_0, hcz89_1, hcz89_2, hfz89_0, hfz89_1, hfz89_2⟩ := cz3 BK261.out
                 have p272 : 0 ≤ (x8_2 : Int) := of_decide_eq_true ha
                 have q272 : x8_2 < (l0_2.length : Int) := of_decide_eq_true ha
                 obtain ⟨ad272, e272, hx272_0, hx272_1, hx272_2, hx272_3⟩ := at_T61 HR0_2.out x8_2 p272 q272
                 cases e272
                 replace hx272_0 := (HB.out.cell (World.block_lt_of_cell? w _ hx272_0)).trans hx272_0
                 replace hx272_1 := (HB.out.cell (World.block_lt_of_cell? w _ hx272_1)).trans hx272_1
                 replace hx272_2 := (HB.out.cell (World.block_lt_of_cell? w _ hx272_2)).trans hx272_2
                 replace hx272_3 := (HB.out.cell (World.block_lt_of_cell? w _ hx272_3)).trans hx272_3
                 replace p272 := eq_true p272
                 replace q272 := eq_true q272
                 try go_wp2_with (first | ((with_reducible refine gate_dst (N := 9) rfl ?_); refine box_event ?hg (N := 9) ?hd (cs := #[.string (⟨#[]⟩ : ByteArray), .int .i64 0, .int .i64 0, .string (⟨#[]⟩ : ByteArray)]) (t := 61) ?hr ?_; (case hd => rfl); (case hg => rfl); (case hr => first | (go_simp; done) | (go_simp; rfl)); intro gb273 hg w90 hbox hb; have BK273 := Aside0.mk (hbox); have GW273 := Aside0.mk (gs (w := w) hg (bl HB.out)); have GE273 := Aside0.mk (gs (w := w) hg (bl HB.out)); replace HB := Aside0.mk (below_step (bl HB.out) hb); have NB261_273 := Aside0.mk ((gl (g := gb261) hg (pk BK261.out))); have NB273_261 := Aside0.mk ((gm (g := gb261) hg (pk BK261.out))); replace BK261 := Aside0.mk (blk_below (pk BK261.out) hb); clear hb hbox hg; have hnb91 := NB273_261.out; have hnc91 := NB261_273.out; obtain ⟨hcz92_0, hcz92_1, hcz92_2, hcz92_3, hfz92_0, hfz92_1, hfz92_2, hfz92_3⟩ := cz4 BK273.out))
                 have n0_ : Aside0 (((((w90.setCell ⟨gb273, 0, none⟩ (.string ((rd_T61 l0_2 x8_2).f0))).setCell ⟨gb273, 1, none⟩ (.int .i64 ((rd_T61 l0_2 x8_2).f1.f0))).setCell ⟨gb273, 2, none⟩ (.int .i64 ((rd_T61 l0_2 x8_2).f1.f1))).setCell ⟨gb273, 3, none⟩ (.string ((rd_T61 l0_2 x8_2).f1.f2))).heap[gb261]? = some (.cells #[.int .i64 a0_0, .slice A0_1 l0_1.length c0_1, .slice (some ad272) l0_2.length c0_2] 25 (0, 0))) := ⟨by refine pk ?_; refine blk_far ?_ NB261_273.out _; refine pk ?_; refine blk_far ?_ NB261_273.out _; refine pk ?_; refine blk_far ?_ NB261_273.out _; refine pk ?_; refine blk_far ?_ NB261_273.out _; exact pk BK261.out⟩
                 have n1_ : Aside0 (((((w90.setCell ⟨gb273, 0, none⟩ (.string ((rd_T61 l0_2 x8_2).f0))).setCell ⟨gb273, 1, none⟩ (.int .i64 ((rd_T61 l0_2 x8_2).f1.f0))).setCell ⟨gb273, 2, none⟩ (.int .i64 ((rd_T61 l0_2 x8_2).f1.f1))).setCell ⟨gb273, 3, none⟩ (.string ((rd_T61 l0_2 x8_2).f1.f2))).heap[gb273]? = some (.cells #[.string ((rd_T61 l0_2 x8_2).f0), .int .i64 ((rd_T61 l0_2 x8_2).f1.f0), .int .i64 ((rd_T61 l0_2 x8_2).f1.f1), .string ((rd_T61 l0_2 x8_2).f1.f2)] 61 (0, 0))) := ⟨by refine pk ?_; refine blk_put (cs := #[.string ((rd_T61 l0_2 x8_2).f0), .int .i64 ((rd_T61 l0_2 x8_2).f1.f0), .int .i64 ((rd_T61 l0_2 x8_2).f1.f1), .string (⟨#[]⟩ : ByteArray)]) ?_ 3 _ rfl; refine pk ?_; refine blk_put (cs := #[.string ((rd_T61 l0_2 x8_2).f0), .int .i64 ((rd_T61 l0_2 x8_2).f1.f0), .int .i64 0, .string (⟨#[]⟩ : ByteArray)]) ?_ 2 _ rfl; refine pk ?_; refine blk_put (cs := #[.string ((rd_T61 l0_2 x8_2).f0), .int .i64 0, .int .i64 0, .string (⟨#[]⟩ : ByteArray)]) ?_ 1 _ rfl; refine pk ?_; refine blk_put (cs := #[.string (⟨#[]⟩ : ByteArray), .int .i64 0, .int .i64 0, .string (⟨#[]⟩ : ByteArray)]) ?_ 0 _ rfl; exact pk BK273.out⟩
                 have n2_ : Aside0 (Below w.heap.size w ((((w90.setCell ⟨gb273, 0, none⟩ (.string ((rd_T61 l0_2 x8_2).f0))).setCell ⟨gb273, 1, none⟩ (.int .i64 ((rd_T61 l0_2 x8_2).f1.f0))).setCell ⟨gb273, 2, none⟩ (.int .i64 ((rd_T61 l0_2 x8_2).f1.f1))).setCell ⟨gb273, 3, none⟩ (.string ((rd_T61 l0_2 x8_2).f1.f2)))) := ⟨bl HB.out⟩
                 (try clear BK261)
                 (try clear BK273)
                 (try clear HB)
                 generalize ((((w90.setCell ⟨gb273, 0, none⟩ (.string ((rd_T61 l0_2 x8_2).f0))).setCell ⟨gb273, 1, none⟩ (.int .i64 ((rd_T61 l0_2 x8_2).f1.f0))).setCell ⟨gb273, 2, none⟩ (.int .i64 ((rd_T61 l0_2 x8_2).f1.f1))).setCell ⟨gb273, 3, none⟩ (.string ((rd_T61 l0_2 x8_2).f1.f2))) = w93 at n0_ n1_ n2_ ⊢
                 have BK261 := n0_
                 have BK273 := n1_
                 have HB := n2_
                 clear n0_ n1_ n2_
                 replace BK261 := Aside0.mk (blk_drew BK261.out)
                 replace BK273 := Aside0.mk (blk_drew BK273.out)
                 replace HB := Aside0.mk (below_drew1 HB.out)
                 refine start_ (n := 17) (S := fun w' => w'.cell? ⟨gb273, 0, none⟩ = some (.string ((rd_T61 l0_2 x8_2).f0)) ∧ w'.cell? ⟨gb273, 1, none⟩ = some (.int .i64 ((rd_T61 l0_2 x8_2).f1.f0)) ∧ w'.cell? ⟨gb273, 2, none⟩ = some (.int .i64 ((rd_T61 l0_2 x8_2).f1.f1)) ∧ w'.cell? ⟨gb273, 3, none⟩ = some (.string ((rd_T61 l0_2 x8_2).f1.f2))) (ds := []) #[false, false, false, false, false, false, false, false, false, false, false, false, false, false, false, false, false] kr rfl rfl ⟨(blk_cell BK273.out 0).trans rfl, (blk_cell BK273.out 1).trans rfl, (blk_cell BK273.out 2).trans rfl, (blk_cell BK273.out 3).trans rfl⟩ (fun hHeld => ?_); refine with_tabW lodestarref05_Encode.tab18 lodestarref05_Encode.bits18 (fun HT_ HW_ => ?_)
                 generalize w93.drew = w94 at BK261 BK273 HB hHeld ⊢
                 refine pure_ (i := 0) (N := some 87) (v := ?_) (a' := ?_) #[true, false, false, false, false, false, false, false, false, false, false, false, false, false, false, false, false] rfl rfl (any_of HT_.out kr) (fun _ _ _ h => h) (Or.inl ⟨by rfl, ?_⟩) ?_ ?_
                 rotate_left
                 ·exact wl
                 rotate_left
                 ·exact ap
                 refine pure_ (i := 1) (N := some 88) (v := ?_) (a' := ?_) #[true, true, false, false, false, false, false, false, false, false, false, false, false, false, false, false, false] rfl rfl (any_of HT_.out kr) (fun _ _ _ h => h) (Or.inl ⟨by rfl, ?_⟩) ?_ ?_
                 rotate_left
                 ·exact wl
                 rotate_left
                 ·exact ap
                 refine pure_ (i := 6) (N := some 93) (v := ?_) (a' := ?_) #[true, true, false, false, false, false, true, false, false, false, false, false, false, false, false, false, false] rfl rfl (any_of HT_.out kr) (fun _ _ _ h => h) (Or.inl ⟨by rfl, ?_⟩) ?_ ?_
                 rotate_left
                 ·exact wl
                 rotate_left
                 ·exact ap
                 refine pure_ (i := 9) (N := some 96) (v := ?_) (a' := ?_) #[true, true, false, false, false, false, true, false, false, true, false, false, false, false, false, false, false] rfl rfl (any_of HT_.out kr) (fun _ _ _ h => h) (Or.inl ⟨by rfl, ?_⟩) ?_ ?_
                 rotate_left
                 ·exact wl
                 rotate_left
                 ·exact ap
                 refine pure_ (i := 10) (N := some 97) (v := ?_) (a' := ?_) #[true, true, false, false, false, false, true, false, false, true, true, false, false, false, false, false, false] rfl rfl (any_of HT_.out kr) (fun _ _ _ h => h) (Or.inl ⟨by rfl, ?_⟩) ?_ ?_
                 rotate_left
                 ·exact wl
                 rotate_left
                 ·exact ap
                 refine take_ (i := 2) (N := some 89) (v := ?_) (a' := ?_) #[true, true, true, false, false, false, true, false, false, true, true, false, false, false, false, false, false] rfl rfl (take_ofW HT_.out HW_.out kr) (fun _ _ _ h => h) (Or.inl ⟨by rfl, ?_⟩) hHeld ?_ ?_
                 rotate_left
                 ·rintro w' ⟨s0, s1, s2, s3⟩
                  go_simp
                  exact rl
                 rotate_left
                 ·exact ap
                 refine pure_ (i := 3) (N := some 90) (v := ?_) (a' := ?_) #[true, true, true, true, false, false, true, false, false, true, true, false, false, false, false, false, false] rfl rfl (any_of HT_.out kr) (fun _ _ _ h => h) (Or.inl ⟨by rfl, ?_⟩) ?_ ?_
                 rotate_left
                 ·exact wl
                 rotate_left
                 ·exact ap
                 refine pure_ (i := 4) (N := some 91) (v := ?_) (a' := ?_) #[true, true, true, true, true, false, true, false, false, true, true, false, false, false, false, false, false] rfl rfl (any_of HT_.out kr) (fun _ _ _ h => h) (Or.inl ⟨by rfl, ?_⟩) ?_ ?_
                 rotate_left
                 ·exact wl
                 rotate_left
                 ·exact ap
                 refine take_ (i := 7) (N := some 94) (v := ?_) (a' := ?_) #[true, true, true, true, true, false, true, true, false, true, true, false, false, false, false, false, false] rfl rfl (take_ofW HT_.out HW_.out kr) (fun _ _ _ h => h) (Or.inl ⟨by rfl, ?_⟩) hHeld ?_ ?_
                 rotate_left
                 ·rintro w' ⟨s0, s1, s2, s3⟩
                  go_simp
                  exact rl
                 rotate_left
                 ·exact ap
                 refine take_ (i := 11) (N := some 98) (v := ?_) (a' := ?_) #[true, true, true, true, true, false, true, true, false, true, true, true, false, false, false, false, false] rfl rfl (take_ofW HT_.out HW_.out kr) (fun _ _ _ h => h) (Or.inl ⟨by rfl, ?_⟩) hHeld ?_ ?_
                 rotate_left
                 ·rintro w' ⟨s0, s1, s2, s3⟩
                  go_simp
                  exact rl
                 rotate_left
                 ·exact ap
                 refine pure_ (i := 12) (N := some 99) (v := ?_) (a' := ?_) #[true, true, true, true, true, false, true, true, false, true, true, true, true, false, false, false, false] rfl rfl (any_of HT_.out kr) (fun _ _ _ h => h) (Or.inl ⟨by rfl, ?_⟩) ?_ ?_
                 rotate_left
                 ·exact wl
                 rotate_left
                 ·exact ap
                 refine one_ (i := 5) (N := some 92) #[true, true, true, true, true, true, true, true, false, true, true, true, true, false, false, false, false] rfl rfl (one_of HT_.out kr) (by decide) (fun K hK => ?_)
                 refine goes_ Tryd.func38 kr rfl #[.int .u64 (IntKind.u64.wrap ((((rd_T61 l0_2 x8_2).f0).size : Int))), .int .i64 1] (by rfl) rfl rfl ga ?_
                 with_reducible refine (lodestarref05_fix.calls k2 (IntKind.u64.wrap ((((rd_T61 l0_2 x8_2).f0).size : Int))) 1 t274 _ A43.out).mono ?_
                 rintro e w95 ⟨rfl, hb⟩
                 refine ⟨_, rfl, ?_⟩
                 replace BK261 := Aside0.mk (blk_below (pk BK261.out) hb)
                 replace BK273 := Aside0.mk (blk_below (pk BK273.out) hb)
                 replace HB := Aside0.mk (below_step (bl HB.out) hb)
                 (try clear hb)
                 (try clear hb2)
                 (try clear hk)
                 (try clear hi)
                 refine hK.out _ _ ⟨(blk_cell BK273.out 0).trans rfl, (blk_cell BK273.out 1).trans rfl, (blk_cell BK273.out 2).trans rfl, (blk_cell BK273.out 3).trans rfl⟩ (fun hHeld => ?_)
                 clear hK K
                 refine norm_ (a' := ?_) ?_ ?_
                 rotate_left
                 ·show Act.put _ (some 92) _ = _
                  exact ap
                 refine pure_ (i := 8) (N := some 95) (v := ?_) (a' := ?_) #[true, true, true, true, true, true, true, true, true, true, true, true, true, false, false, false, false] rfl rfl (any_of HT_.out kr) (fun _ _ _ h => h) (Or.inl ⟨by rfl, ?_⟩) ?_ ?_
                 rotate_left
                 ·exact wl
                 rotate_left
                 ·exact ap
                 refine one_ (i := 13) (N := some 100) #[true, true, true, true, true, true, true, true, true, true, true, true, true, true, false, false, false] rfl rfl (one_of HT_.out kr) (by decide) (fun K hK => ?_)
                 refine goes_ Tryd.func38 kr rfl #[.int .u64 (IntKind.u64.wrap ((rd_T61 l0_2 x8_2).f1.f0)), .int .i64 1] (by rfl) rfl rfl ga ?_
                 with_reducible refine (lodestarref05_fix.calls k2 (IntKind.u64.wrap ((rd_T61 l0_2 x8_2).f1.f0)) 1 t275 _ A45.out).mono ?_
                 rintro e w96 ⟨rfl, hb⟩
                 refine ⟨_, rfl, ?_⟩
                 replace BK261 := Aside0.mk (blk_below (pk BK261.out) hb)
                 replace BK273 := Aside0.mk (blk_below (pk BK273.out) hb)
                 replace HB := Aside0.mk (below_step (bl HB.out) hb)
                 (try clear hb)
                 (try clear hb2)
                 (try clear hk)
                 (try clear hi)
                 refine hK.out _ _ ⟨(blk_cell BK273.out 0).trans rfl, (blk_cell BK273.out 1).trans rfl, (blk_cell BK273.out 2).trans rfl, (blk_cell BK273.out 3).trans rfl⟩ (fun hHeld => ?_)
                 clear hK K
                 refine norm_ (a' := ?_) ?_ ?_
                 rotate_left
                 ·show Act.put _ (some 100) _ = _
                  exact ap
                 refine pure_ (i := 14) (N := some 101) (v := ?_) (a' := ?_) #[true, true, true, true, true, true, true, true, true, true, true, true, true, true, true, false, false] rfl rfl (any_of HT_.out kr) (fun _ _ _ h => h) (Or.inl ⟨by rfl, ?_⟩) ?_ ?_
                 rotate_left
                 ·exact wl
                 rotate_left
                 ·exact ap
                 refine pure_ (i := 15) (N := some 102) (v := ?_) (a' := ?_) #[true, true, true, true, true, true, true, true, true, true, true, true, true, true, true, true, false] rfl rfl (any_of HT_.out kr) (fun _ _ _ h => h) (Or.inl ⟨by rfl, ?_⟩) ?_ ?_
                 rotate_left
                 ·exact wl
                 rotate_left
                 ·exact ap
                 refine pure_ (i := 16) (N := some 4) (v := ?_) (a' := ?_) #[true, true, true, true, true, true, true, true, true, true, true, true, true, true, true, true, true] rfl rfl (any_of HT_.out kr) (fun _ _ _ h => h) (Or.inl ⟨by rfl, ?_⟩) ?_ ?_
                 rotate_left
                 ·exact wl
                 rotate_left
                 ·exact ap
                 refine done_ (done_of HT_.out kr) ?_
                 obtain ⟨hcz97_0, hcz97_1, hcz97_2, hcz97_3, hfz97_0, hfz97_1, hfz97_2, hfz97_3⟩ := cz4 BK273.out
                 try go_wp2
                 go_roundg k2
                 case measure => have := HK1.out; have := HK2.out; omega
                 case rel => exact ⟨(x4_2 ++ ((t274 ++ ((rd_T61 l0_2 x8_2).f0)) ++ t275)), (wrap64 (x8_2 + 1)), hsr, hsr, H', ⟨by have := HK1.out; have := HK2.out; omega⟩, ⟨pk BK261.out⟩, ⟨bl HB.out⟩⟩
             ·rw [if_neg c47] at H
              exact absurd H (by simp)
            ·rw [if_neg c46] at H
             exact absurd H (by simp)
           ·rw [if_neg c44] at H
            exact absurd H (by simp)
          ·rw [if_neg c42] at H
           exact absurd H (by simp)
         ·rw [if_neg c41] at H
          have c41b0 : decide (x8_2 < (l0_2.length : Int)) = false := decide_eq_false c41
          clear c41
          simp only [Option.some.injEq, Prod.mk.injEq] at H
          obtain ⟨rfl, rfl⟩ := H
          obtain ⟨hcz98_0, hcz98_1, hcz98_2, hfz98_0, hfz98_1, hfz98_2⟩ := cz3 BK261.out
          go_wp2
          go_ret2
          exact ⟨er0, bl HB.out⟩
      ·rw [if_neg c38] at H
       exact absurd H (by simp)
  ·rw [if_neg c6] at H
   exact absurd H (by simp)
 ·replace c3 := Bool.eq_false_iff.mpr c3
  subst c3
  have H1 : (some ((⟨#[]⟩ : ByteArray), 120)) = some (r1, r2) := by rw [if_neg (show ¬ (false = true) by decide)] at H; exact H
  clear H
  have H := H1
  clear H1
  simp only [Option.some.injEq, Prod.mk.injEq] at H
  obtain ⟨rfl, rfl⟩ := H
  go_enter Tryd.func18, Tryd.ntmps18
  go_wp2_with (first | ((with_reducible refine gate_dst (N := 1) rfl ?_); refine box_event ?hg (N := 1) ?hd (cs := #[.int .i64 a0_0, .slice A0_1 l0_1.length c0_1, .slice A0_2 l0_2.length c0_2]) (t := 25) ?hr ?_; (case hd => rfl); (case hg => rfl); (case hr => first | (go_simp; done) | (go_simp; rfl)); intro gb261 hg w99 hbox hb; have BK261 := Aside0.mk (hbox); have GW261 := Aside0.mk (gs (w := w) hg (bl HB.out)); have GE261 := Aside0.mk (gs (w := w) hg (bl HB.out)); replace HB := Aside0.mk (below_step (bl HB.out) hb); clear hb hbox hg; obtain ⟨hcz100_0, hcz100_1, hcz100_2, hfz100_0, hfz100_1, hfz100_2⟩ := cz3 BK261.out) | ((with_reducible refine gate_callee (f := 21) rfl ?_); refine goesL_ (some 11) rfl rfl Tryd.func21 kr rfl #[.agg #[.int .i64 a0_0, .slice A0_1 l0_1.length c0_1, .slice A0_2 l0_2.length c0_2]] rfl ga ?_; (with_reducible refine (lodestarref05_May.calls k a0_0 _ _ l0_1 _ _ l0_2 false _ ?side1 ?side2 ?side3 ?side4 A2.out).mono ?_); (case side1 => repeat (first | exact (Kd.C_below HR0_1.out HB.out) | (with_reducible refine Kd.C_alloc ?_ _) | (with_reducible refine Kd.C_drewN ?_ _) | (with_reducible refine Kd.C_drew ?_))); (case side2 => exact HC0_1.out); (case side3 => repeat (first | exact (Kd.C_below HR0_2.out HB.out) | (with_reducible refine Kd.C_alloc ?_ _) | (with_reducible refine Kd.C_drewN ?_ _) | (with_reducible refine Kd.C_drew ?_))); (case side4 => exact HC0_2.out); rintro e w101 ⟨rfl, hb⟩; refine ⟨_, rfl, ?_⟩; replace BK261 := Aside0.mk (blk_below (pk BK261.out) hb); replace HB := Aside0.mk (below_step (bl HB.out) hb); (try clear hb); (try clear hb2); (try clear hk); (try clear hi)))
  go_ret2
  exact ⟨er0, bl HB.out⟩

end Go.Proofs.YtbeljekpknpadaaDoor.PPayV
