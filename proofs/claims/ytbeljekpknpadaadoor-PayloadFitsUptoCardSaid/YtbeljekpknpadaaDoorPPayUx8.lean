-- Written by a program of this session on top of the print: some functions by hand.
import Derived.Test.YtbeljekpknpadaaDoorPPayUx0
import Derived.Test.YtbeljekpknpadaaDoorPPayUx6
import Derived.Test.YtbeljekpknpadaaDoorPPayUx7
namespace Go.Proofs.YtbeljekpknpadaaDoor.PPayU
open Go.RowKit Go.Proofs.YtbeljekpknpadaaDoorW.PrintWords Go.Proofs.YtbeljekpknpadaaDoorW.PrintLast Go.Proofs.YtbeljekpknpadaaDoorW.PrintMore
attribute [local go_sem] max2_int min2_int max_two min_two max_three min_three max_four min_four   -- for this text's walks alone
set_option linter.unusedVariables false
set_option linter.unusedSimpArgs false

/-! ### payload_Encode: function 13 -/
mutual
def payload_Encode.l0 : Nat → List Int → List (S59) → Int → Int → Int → List (S59) → List (S61) → Option (ByteArray × Int)
 | 0, _, _, _, _, _, _, _ => none
 | k + 1, x4, x24, x25, x26, x181000, x181001, x181002 => if x26 < x25 then (if 0 ≤ x26 then (if x26 < (x24.length : Int) then ((payload_put.f k x4 (((rd_T59 x24 x26).f0).size : Int) 1).bind fun t190 => (if t190.length + ((rd_T59 x24 x26).f0).size < 140737488355328 then ((payload_put.f k (t190 ++ bytesOf ((rd_T59 x24 x26).f0)) (((rd_T59 x24 x26).f1).length : Int) 1).bind fun t196 => (payload_Encode.l1 k t196 x24 x25 x26 ((rd_T59 x24 x26).f1) (((rd_T59 x24 x26).f1).length : Int) 0 x181000 x181001 x181002)) else (none))) else (none)) else (none)) else ((payload_put.f k x4 (x181002.length : Int) 1).bind fun t203 => (payload_Encode.l2 k t203 x181002 (x181002.length : Int) 0))
def payload_Encode.l1 : Nat → List Int → List (S59) → Int → Int → List Int → Int → Int → Int → List (S59) → List (S61) → Option (ByteArray × Int)
 | 0, _, _, _, _, _, _, _, _, _, _ => none
 | k + 1, x4, x24, x25, x26, x44, x45, x46, x181000, x181001, x181002 => if x46 < x45 then (if 0 ≤ x46 then (if x46 < (x44.length : Int) then ((payload_put.f k x4 (wrap64 ((rd x44 x46) + 32768)) 2).bind fun t200 => (payload_Encode.l1 k t200 x24 x25 x26 x44 x45 (wrap64 (x46 + 1)) x181000 x181001 x181002)) else (none)) else (none)) else (payload_Encode.l0 k x4 x24 x25 (wrap64 (x26 + 1)) x181000 x181001 x181002)
def payload_Encode.l2 : Nat → List Int → List (S61) → Int → Int → Option (ByteArray × Int)
 | 0, _, _, _, _ => none
 | k + 1, x4, x62, x63, x64 => if x64 < x63 then (if 0 ≤ x64 then (if x64 < (x62.length : Int) then ((payload_put.f k x4 (((rd_T61 x62 x64).f0).size : Int) 1).bind fun t208 => (if t208.length + ((rd_T61 x62 x64).f0).size < 140737488355328 then ((payload_put.f k (t208 ++ bytesOf ((rd_T61 x62 x64).f0)) ((rd_T61 x62 x64).f1.f0) 1).bind fun t214 => (if ((rd_T61 x62 x64).f1.f0) = 2 then ((payload_width.f ((rd_T61 x62 x64).f1.f0)).bind fun t217 => ((payload_put.f k t214 (((rd_T61 x62 x64).f1.f2).size : Int) t217).bind fun t218 => (if t218.length + ((rd_T61 x62 x64).f1.f2).size < 140737488355328 then (payload_Encode.l2 k (t218 ++ bytesOf ((rd_T61 x62 x64).f1.f2)) x62 x63 (wrap64 (x64 + 1))) else (none)))) else ((payload_width.f ((rd_T61 x62 x64).f1.f0)).bind fun t224 => ((payload_put.f k t214 ((rd_T61 x62 x64).f1.f1) t224).bind fun t225 => (if t225.length + ((rd_T61 x62 x64).f1.f2).size < 140737488355328 then (payload_Encode.l2 k (t225 ++ bytesOf ((rd_T61 x62 x64).f1.f2)) x62 x63 (wrap64 (x64 + 1))) else (none)))))) else (none))) else (none)) else (none)) else (some (strOfNums x4, 0))
end
def payload_Encode.f (k : Nat) (a0_0 : Int) (l0_1 : List (S59)) (l0_2 : List (S61)) : Option (ByteArray × Int) := (payload_may.f k a0_0 l0_1 l0_2).bind fun t181 => (if t181 = true then ((payload_put.f k ([] : List Int) a0_0 8).bind fun t182 => ((payload_put.f k t182 (l0_1.length : Int) 1).bind fun t185 => (payload_Encode.l0 k t185 l0_1 (l0_1.length : Int) 0 a0_0 l0_1 l0_2))) else (some ((⟨#[]⟩ : ByteArray), 120)))
theorem payload_Encode.mono_l : ∀ k, (∀ y0 y1 y2 y3 y4 y5 y6, LeO (payload_Encode.l0 k y0 y1 y2 y3 y4 y5 y6) (payload_Encode.l0 (k + 1) y0 y1 y2 y3 y4 y5 y6)) ∧ (∀ y0 y1 y2 y3 y4 y5 y6 y7 y8 y9, LeO (payload_Encode.l1 k y0 y1 y2 y3 y4 y5 y6 y7 y8 y9) (payload_Encode.l1 (k + 1) y0 y1 y2 y3 y4 y5 y6 y7 y8 y9)) ∧ (∀ y0 y1 y2 y3, LeO (payload_Encode.l2 k y0 y1 y2 y3) (payload_Encode.l2 (k + 1) y0 y1 y2 y3))
 | 0 => ⟨fun _ _ _ _ _ _ _ r h => by simp [payload_Encode.l0] at h, fun _ _ _ _ _ _ _ _ _ _ r h => by simp [payload_Encode.l1] at h, fun _ _ _ _ r h => by simp [payload_Encode.l2] at h⟩
 | k + 1 => by
  obtain ⟨ih0, ih1, ih2⟩ := payload_Encode.mono_l k
  refine ⟨?_, ?_, ?_⟩
  all_goals intros
  all_goals first | unfold payload_Encode.l0 | unfold payload_Encode.l1 | unfold payload_Encode.l2
  all_goals repeat' first
   | (with_reducible exact ih0 _ _ _ _ _ _ _)
   | (with_reducible exact ih1 _ _ _ _ _ _ _ _ _ _)
   | (with_reducible exact ih2 _ _ _ _)
   | (with_reducible exact payload_may.mono _ _ _ _)
   | (with_reducible exact payload_put.mono _ _ _ _)
   | (with_reducible exact LeO.refl _)
   | (with_reducible exact LeO.none _)
   | (with_reducible refine LeO.ite ?_ ?_)
   | (with_reducible refine LeO.bind ?_ (fun _ => ?_))
   | exact ih0 _ _ _ _ _ _ _
   | exact ih1 _ _ _ _ _ _ _ _ _ _
   | exact ih2 _ _ _ _
   | exact payload_may.mono _ _ _ _
   | exact payload_put.mono _ _ _ _
   | exact LeO.none _
   | refine LeO.ite ?_ ?_
   | refine LeO.bind ?_ (fun _ => ?_)
theorem payload_Encode.mono : ∀ a0 a1 a2 k, LeO (payload_Encode.f k a0 a1 a2) (payload_Encode.f (k + 1) a0 a1 a2) := by
 intro a0 a1 a2 k
 obtain ⟨ih0, ih1, ih2⟩ := payload_Encode.mono_l k
 unfold payload_Encode.f
 repeat' first
   | (with_reducible exact ih0 _ _ _ _ _ _ _)
   | (with_reducible exact ih1 _ _ _ _ _ _ _ _ _ _)
   | (with_reducible exact ih2 _ _ _ _)
   | (with_reducible exact payload_may.mono _ _ _ _)
   | (with_reducible exact payload_put.mono _ _ _ _)
   | (with_reducible exact LeO.refl _)
   | (with_reducible exact LeO.none _)
   | (with_reducible refine LeO.ite ?_ ?_)
   | (with_reducible refine LeO.bind ?_ (fun _ => ?_))
   | exact ih0 _ _ _ _ _ _ _
   | exact ih1 _ _ _ _ _ _ _ _ _ _
   | exact ih2 _ _ _ _
   | exact payload_may.mono _ _ _ _
   | exact payload_put.mono _ _ _ _
   | exact LeO.none _
   | refine LeO.ite ?_ ?_
   | refine LeO.bind ?_ (fun _ => ?_)
def payload_Encode.T8 : Bool × List (List Nat × List Nat) := (true, [([], []), ([], []), ([1], [1]), ([2], [2]), ([0, 3], [0, 3]), ([], []), ([5], [5]), ([4, 6, 4], [4, 6]), ([7, 7, 0, 1, 2, 3, 4, 5, 6, 7], [0, 7])])
def payload_Encode.B8 : List Nat := [0, 0, 2, 6, 15, 0, 32, 127, 255]
theorem payload_Encode.tab8 : rtab .any (opsOf Tryd.f13 8) = payload_Encode.T8 := by kernel_rfl
theorem payload_Encode.bits8 : waitsOk payload_Encode.T8.2 payload_Encode.B8 = true := by kernel_rfl
def payload_Encode.T20 : Bool × List (List Nat × List Nat) := (true, [([], []), ([], []), ([1], [1]), ([2], [2]), ([0, 3], [0, 3]), ([], []), ([5], [5]), ([4, 6, 4], [4, 6]), ([7, 7, 0, 1, 2, 3, 4, 5, 6, 7], [0, 7])])
def payload_Encode.B20 : List Nat := [0, 0, 2, 6, 15, 0, 32, 127, 255]
theorem payload_Encode.tab20 : rtab .any (opsOf Tryd.f13 20) = payload_Encode.T20 := by kernel_rfl
theorem payload_Encode.bits20 : waitsOk payload_Encode.T20.2 payload_Encode.B20 = true := by kernel_rfl
def payload_Encode.T25 : Bool × List (List Nat × List Nat) := (true, [([], []), ([], []), ([], []), ([2], [2]), ([3], [3]), ([4], [4]), ([0, 1, 5, 5], [0, 1, 5]), ([], []), ([7], [7]), ([8], [8]), ([6, 9, 6], [6, 9]), ([10, 10, 0, 1, 2, 3, 4, 5, 6, 7, 8, 9, 10], [0, 10])])
def payload_Encode.B25 : List Nat := [0, 0, 0, 4, 12, 28, 63, 0, 128, 384, 1023, 2047]
theorem payload_Encode.tab25 : rtab .any (opsOf Tryd.f13 25) = payload_Encode.T25 := by kernel_rfl
theorem payload_Encode.bits25 : waitsOk payload_Encode.T25.2 payload_Encode.B25 = true := by kernel_rfl
set_option maxHeartbeats 8000000 in
set_option maxRecDepth 100000 in
theorem payload_Encode.calls (k : Nat) (a0_0 : Int) (A0_1 : Option Addr) (c0_1 : Nat) (l0_1 : List (S59)) (A0_2 : Option Addr) (c0_2 : Nat) (l0_2 : List (S61)) (r1 : ByteArray) (r2 : Int) (w : World) (hr0_1 : Kd.C k59 w A0_1 l0_1.length l0_1) (hc0_1 : l0_1.length ≤ c0_1) (hr0_2 : Kd.C k61 w A0_2 l0_2.length l0_2) (hc0_2 : l0_2.length ≤ c0_2) (hU : LaidU w) (h : payload_Encode.f k a0_0 l0_1 l0_2 = some (r1, r2)) :
  Calls Tryd.prog 13 #[.agg #[.int .i64 a0_0, .slice A0_1 l0_1.length c0_1, .slice A0_2 l0_2.length c0_2]] w fun e w' => e = .returned (.tuple #[.string r1, .int .i64 r2]) ∧ Below w.heap.size w w' := by
 have hu25 := Tryd.underlying25
 have hu59 := Tryd.underlying59
 have hu61 := Tryd.underlying61
 have HU := Aside0.mk hU
 clear hU
 have HR0_1 := Aside0.mk hr0_1
 have HC0_1 := Aside0.mk hc0_1
 clear hr0_1 hc0_1
 have HR0_2 := Aside0.mk hr0_2
 have HC0_2 := Aside0.mk hc0_2
 clear hr0_2 hc0_2
 have HB := Aside0.mk (Below.refl w.heap.size w)
 have H : ((payload_may.f k a0_0 l0_1 l0_2).bind fun t181 => (if t181 = true then ((payload_put.f k ([] : List Int) a0_0 8).bind fun t182 => ((payload_put.f k t182 (l0_1.length : Int) 1).bind fun t185 => (payload_Encode.l0 k t185 l0_1 (l0_1.length : Int) 0 a0_0 l0_1 l0_2))) else (some ((⟨#[]⟩ : ByteArray), 120)))) = some (r1, r2) := h
 clear h
 replace H := Option.bind_eq_some_iff.mp H
 obtain ⟨t181, A20, H⟩ := H
 replace H : (if t181 = true then ((payload_put.f k ([] : List Int) a0_0 8).bind fun t182 => ((payload_put.f k t182 (l0_1.length : Int) 1).bind fun t185 => (payload_Encode.l0 k t185 l0_1 (l0_1.length : Int) 0 a0_0 l0_1 l0_2))) else (some ((⟨#[]⟩ : ByteArray), 120))) = some (r1, r2) := H
 have A2 := Aside0.mk A20
 clear A20
 by_cases c3 : t181 = true
 ·subst c3
  have H1 : ((payload_put.f k ([] : List Int) a0_0 8).bind fun t182 => ((payload_put.f k t182 (l0_1.length : Int) 1).bind fun t185 => (payload_Encode.l0 k t185 l0_1 (l0_1.length : Int) 0 a0_0 l0_1 l0_2))) = some (r1, r2) := by rw [if_pos rfl] at H; exact H
  clear H
  have H := H1
  clear H1
  replace H := Option.bind_eq_some_iff.mp H
  obtain ⟨t182, A40, H⟩ := H
  replace H : ((payload_put.f k t182 (l0_1.length : Int) 1).bind fun t185 => (payload_Encode.l0 k t185 l0_1 (l0_1.length : Int) 0 a0_0 l0_1 l0_2)) = some (r1, r2) := H
  have A4 := Aside0.mk A40
  clear A40
  replace H := Option.bind_eq_some_iff.mp H
  obtain ⟨t185, A50, H⟩ := H
  replace H : (payload_Encode.l0 k t185 l0_1 (l0_1.length : Int) 0 a0_0 l0_1 l0_2) = some (r1, r2) := H
  have A5 := Aside0.mk A50
  clear A50
  have H' := Aside0.mk H
  clear H
  go_enter Tryd.func13, Tryd.ntmps13
  go_wp2_with (first | ((with_reducible refine gate_dst (N := 1) rfl ?_); refine box_event ?hg (N := 1) ?hd (cs := #[.int .i64 a0_0, .slice A0_1 l0_1.length c0_1, .slice A0_2 l0_2.length c0_2]) (t := 25) ?hr ?_; (case hd => rfl); (case hg => rfl); (case hr => first | (go_simp; done) | (go_simp; rfl)); intro gb180 hg w6 hbox hb; have BK180 := Aside0.mk (hbox); have GW180 := Aside0.mk (gs (w := w) hg (bl HB.out)); have GE180 := Aside0.mk (gs (w := w) hg (bl HB.out)); replace HB := Aside0.mk (below_step (bl HB.out) hb); clear hb hbox hg; obtain ⟨hcz7_0, hcz7_1, hcz7_2, hfz7_0, hfz7_1, hfz7_2⟩ := cz3 BK180.out) | ((with_reducible refine gate_callee (f := 30) rfl ?_); refine goesL_ (some 13) rfl rfl Tryd.func30 kr rfl #[.agg #[.int .i64 a0_0, .slice A0_1 l0_1.length c0_1, .slice A0_2 l0_2.length c0_2]] rfl ga ?_; (with_reducible refine (payload_may.calls k a0_0 _ _ l0_1 _ _ l0_2 true _ ?side1 ?side2 ?side3 ?side4 ?side5 A2.out).mono ?_); (case side1 => repeat (first | exact (Kd.C_below HR0_1.out HB.out) | (with_reducible refine Kd.C_alloc ?_ _) | (with_reducible refine Kd.C_drewN ?_ _) | (with_reducible refine Kd.C_drew ?_))); (case side2 => exact HC0_1.out); (case side3 => repeat (first | exact (Kd.C_below HR0_2.out HB.out) | (with_reducible refine Kd.C_alloc ?_ _) | (with_reducible refine Kd.C_drewN ?_ _) | (with_reducible refine Kd.C_drew ?_))); (case side4 => exact HC0_2.out); (case side5 => exact LaidU.below HU.out (bl HB.out)); rintro e w8 ⟨rfl, hb⟩; refine ⟨_, rfl, ?_⟩; replace BK180 := Aside0.mk (blk_below (pk BK180.out) hb); replace HB := Aside0.mk (below_step (bl HB.out) hb); (try clear hb); (try clear hb2); (try clear hk); (try clear hi); obtain ⟨hcz9_0, hcz9_1, hcz9_2, hfz9_0, hfz9_1, hfz9_2⟩ := cz3 BK180.out) | ((with_reducible refine gate_callee (f := 31) rfl ?_); refine goesL_ (some 17) rfl rfl Tryd.func31 kr rfl #[.slice none 0 0, .int .i64 a0_0, .int .i64 8] rfl ga ?_; (refine (payload_put.calls k (fun k_ => some k_ = (.slice none 0 0 : Value).ownBlock) (.slice none 0 0) ([] : List Int) a0_0 8 t182 w _ ?side1 ?side2 A4.out).mono ?_); (case side1 => exact bl HB.out); (case side2 => exact Kd.R_nil _ _ _ _ _); rintro e w10 ⟨v183, rfl, ho0, hb, hkp⟩; refine ⟨_, rfl, ?_⟩; replace BK180 := Aside0.mk (blk_kept (pk BK180.out) hkp (fun hs_ => (fun e_ => by simp [Value.ownBlock] at e_) hs_)); have HO184 := Aside0.mk (Kd.R_mono (ok' := fun k_ => True) ho0 (fun k_ hk_ => trivial)); replace HB := Aside0.mk (hb); (try clear hb); (try clear hkp); (try clear ho0); obtain ⟨hcz11_0, hcz11_1, hcz11_2, hfz11_0, hfz11_1, hfz11_2⟩ := cz3 BK180.out; obtain ⟨Ao12, co12, eo12⟩ := Kd.R_slice HO184.out; subst eo12) | ((with_reducible refine gate_callee (f := 31) rfl ?_); refine goesL_ (some 22) rfl rfl Tryd.func31 kr rfl #[.slice Ao12 t182.length co12, .int .i64 (l0_1.length : Int), .int .i64 1] rfl ga ?_; (with_reducible refine (payload_put.calls k (fun k_ => some k_ = (.slice Ao12 t182.length co12 : Value).ownBlock) (.slice Ao12 t182.length co12) t182 (l0_1.length : Int) 1 t185 w _ ?side1 ?side2 A5.out).mono ?_); (case side1 => exact bl HB.out); (case side2 => exact Kd.R_tight rfl HO184.out); rintro e w13 ⟨v186, rfl, ho0, hb, hkp⟩; refine ⟨_, rfl, ?_⟩; replace BK180 := Aside0.mk (blk_kept (pk BK180.out) hkp (fun hs_ => (fun e_ => (Kd.R_ne HO184.out BK180.out (by decide)) e_) hs_)); have HO187 := Aside0.mk (Kd.R_mono (ok' := fun k_ => True) ho0 (fun k_ hk_ => trivial)); replace HB := Aside0.mk (hb); clear HO184; (try clear hb); (try clear hkp); (try clear ho0); obtain ⟨hcz14_0, hcz14_1, hcz14_2, hfz14_0, hfz14_1, hfz14_2⟩ := cz3 BK180.out))
  go_loopg [4, 26] k (fun kq v4 v26 w' => ∃ (x4_1 : List Int) (x26_1 : Int), v26 = .int .i64 x26_1 ∧ Aside0 (payload_Encode.l0 kq x4_1 l0_1 (l0_1.length : Int) x26_1 a0_0 l0_1 l0_2 = some (r1, r2)) ∧ Aside0 (kq ≤ k) ∧ Aside0 (Kd.R (Kd.int .u8) 5 w' w.heap.size (fun _ => True) v4 x4_1) ∧ Aside0 (w'.heap[gb180]? = some (.cells #[.int .i64 a0_0, (.slice A0_1 l0_1.length c0_1), (.slice A0_2 l0_2.length c0_2)] 25 (0, 0))) ∧ Aside0 (Below w.heap.size w w'))
  case atStart => exact ⟨(t185), (0), hsr, H', ⟨Nat.le_refl _⟩, ⟨pR HO187.out⟩, ⟨pk BK180.out⟩, ⟨bl HB.out⟩⟩
  case round =>
   clear H'
   try clear c1
   try clear p2
   try clear c3
   try clear p6
   try clear c13
   try clear hcz14_0 hcz14_1 hcz14_2 hfz14_0 hfz14_1 hfz14_2
   try clear hcz11_0 hcz11_1 hcz11_2 hfz11_0 hfz11_1 hfz11_2
   try clear hcz9_0 hcz9_1 hcz9_2 hfz9_0 hfz9_1 hfz9_2
   try clear hcz7_0 hcz7_1 hcz7_2 hfz7_0 hfz7_1 hfz7_2
   obtain ⟨x4_1, x26_1, rfl, HA, HK1, HO_4, BK180, HB⟩ := hrel
   cases gk with
   | zero => exact absurd HA.out (by simp [payload_Encode.l0])
   | succ k1 =>
    have H := HA.out
    clear HA
    simp only [payload_Encode.l0] at H
    by_cases c15 : x26_1 < (l0_1.length : Int)
    ·rw [if_pos c15] at H
     have c15b0 : decide (x26_1 < (l0_1.length : Int)) = true := decide_eq_true c15
     clear c15
     by_cases c16 : 0 ≤ x26_1
     ·rw [if_pos c16] at H
      have c16b0 : decide (0 ≤ x26_1) = true := decide_eq_true c16
      clear c16
      by_cases c17 : x26_1 < (l0_1.length : Int)
      ·rw [if_pos c17] at H
       have c17b0 : decide (x26_1 < (l0_1.length : Int)) = true := decide_eq_true c17
       clear c17
       replace H := Option.bind_eq_some_iff.mp H
       obtain ⟨t190, A180, H⟩ := H
       replace H : (if t190.length + ((rd_T59 l0_1 x26_1).f0).size < 140737488355328 then ((payload_put.f k1 (t190 ++ bytesOf ((rd_T59 l0_1 x26_1).f0)) (((rd_T59 l0_1 x26_1).f1).length : Int) 1).bind fun t196 => (payload_Encode.l1 k1 t196 l0_1 (l0_1.length : Int) x26_1 ((rd_T59 l0_1 x26_1).f1) (((rd_T59 l0_1 x26_1).f1).length : Int) 0 a0_0 l0_1 l0_2)) else (none)) = some (r1, r2) := H
       have A18 := Aside0.mk A180
       clear A180
       by_cases c19 : t190.length + ((rd_T59 l0_1 x26_1).f0).size < 140737488355328
       ·rw [if_pos c19] at H
        have LMc19 := Aside0.mk c19
        clear c19
        obtain ⟨y193, hy193⟩ : ∃ y_ : List Int, y_ = (t190 ++ bytesOf ((rd_T59 l0_1 x26_1).f0)) := ⟨_, rfl⟩
        replace H : ((payload_put.f k1 y193 (((rd_T59 l0_1 x26_1).f1).length : Int) 1).bind fun t196 => (payload_Encode.l1 k1 t196 l0_1 (l0_1.length : Int) x26_1 ((rd_T59 l0_1 x26_1).f1) (((rd_T59 l0_1 x26_1).f1).length : Int) 0 a0_0 l0_1 l0_2)) = some (r1, r2) := by first | (rw [hy193]; with_reducible exact H) | (have H2_ := (Option.bind_some _ _).symm.trans H; rw [hy193]; with_reducible exact H2_) | (have H2_ := (Option.bind_some _ _).symm.trans H; with_reducible exact H2_) | with_reducible exact H | (rw [hy193]; exact H) | exact H
        have Ny193 := Aside0.mk hy193
        clear hy193
        replace H := Option.bind_eq_some_iff.mp H
        obtain ⟨t196, A200, H⟩ := H
        replace H : (payload_Encode.l1 k1 t196 l0_1 (l0_1.length : Int) x26_1 ((rd_T59 l0_1 x26_1).f1) (((rd_T59 l0_1 x26_1).f1).length : Int) 0 a0_0 l0_1 l0_2) = some (r1, r2) := H
        have A20 := Aside0.mk A200
        clear A200
        have H' := Aside0.mk H
        clear H
        have p188 : 0 ≤ (x26_1 : Int) := of_decide_eq_true ha
        have q188 : x26_1 < (l0_1.length : Int) := of_decide_eq_true ha
        obtain ⟨ad188, A188_1, c188_1, e188, hx188_0, hx188_1, hl188_1, hi188_1⟩ := at_T59 HR0_1.out x26_1 p188 q188
        cases e188
        replace hx188_0 := (HB.out.cell (World.block_lt_of_cell? w _ hx188_0)).trans hx188_0
        replace hx188_1 := (HB.out.cell (World.block_lt_of_cell? w _ hx188_1)).trans hx188_1
        have HR188_1 := Aside0.mk hi188_1
        have HC188_1 := Aside0.mk hl188_1
        clear hi188_1 hl188_1
        replace p188 := eq_true p188
        replace q188 := eq_true q188
        try go_wp2_with (first | ((with_reducible refine gate_dst (N := 6) rfl ?_); refine box_event ?hg (N := 6) ?hd (cs := #[.string (⟨#[]⟩ : ByteArray), .slice none 0 0]) (t := 59) ?hr ?_; (case hd => rfl); (case hg => rfl); (case hr => first | (go_simp; done) | (go_simp; rfl)); intro gb189 hg w21 hbox hb; replace HO_4 := Aside0.mk (Kd.R_below (pR HO_4.out) hb); have BK189 := Aside0.mk (hbox); have GW189 := Aside0.mk (gs (w := w) hg (bl HB.out)); have GE189 := Aside0.mk (gs (w := w) hg (bl HB.out)); replace HB := Aside0.mk (below_step (bl HB.out) hb); have NB180_189 := Aside0.mk ((gl (g := gb180) hg (pk BK180.out))); have NB189_180 := Aside0.mk ((gm (g := gb180) hg (pk BK180.out))); replace BK180 := Aside0.mk (blk_below (pk BK180.out) hb); clear hb hbox hg; have hnb22 := NB189_180.out; have hnc22 := NB180_189.out; obtain ⟨hcz23_0, hcz23_1, hfz23_0, hfz23_1⟩ := cz2 BK189.out))
        have n0_ : Aside0 (Kd.R (Kd.int .u8) 5 ((w21.setCell ⟨gb189, 0, none⟩ (.string ((rd_T59 l0_1 x26_1).f0))).setCell ⟨gb189, 1, none⟩ (.slice A188_1 ((rd_T59 l0_1 x26_1).f1).length c188_1)) w.heap.size (fun _ => True) u4 x4_1) := ⟨by (with_reducible repeat (first | apply Kd.R_alloc | apply Kd.R_drewN | apply Kd.R_drew)); exact Kd.R_mono (Kd.R_far (p := ⟨gb189, 1, none⟩) (Kd.R_far (p := ⟨gb189, 0, none⟩) (Kd.R_types HO_4.out BK189.out (by decide)) (fun _ hk => hk.2) (.string ((rd_T59 l0_1 x26_1).f0))) (fun _ hk => hk.2) (.slice A188_1 ((rd_T59 l0_1 x26_1).f1).length c188_1)) (fun _ hk => trivial)⟩
        have n1_ : Aside0 (((w21.setCell ⟨gb189, 0, none⟩ (.string ((rd_T59 l0_1 x26_1).f0))).setCell ⟨gb189, 1, none⟩ (.slice A188_1 ((rd_T59 l0_1 x26_1).f1).length c188_1)).heap[gb180]? = some (.cells #[.int .i64 a0_0, .slice (some ad188) l0_1.length c0_1, .slice A0_2 l0_2.length c0_2] 25 (0, 0))) := ⟨by refine pk ?_; refine blk_far ?_ NB180_189.out _; refine pk ?_; refine blk_far ?_ NB180_189.out _; exact pk BK180.out⟩
        have n2_ : Aside0 (((w21.setCell ⟨gb189, 0, none⟩ (.string ((rd_T59 l0_1 x26_1).f0))).setCell ⟨gb189, 1, none⟩ (.slice A188_1 ((rd_T59 l0_1 x26_1).f1).length c188_1)).heap[gb189]? = some (.cells #[.string ((rd_T59 l0_1 x26_1).f0), .slice A188_1 ((rd_T59 l0_1 x26_1).f1).length c188_1] 59 (0, 0))) := ⟨by refine pk ?_; refine blk_put (cs := #[.string ((rd_T59 l0_1 x26_1).f0), .slice none 0 0]) ?_ 1 _ rfl; refine pk ?_; refine blk_put (cs := #[.string (⟨#[]⟩ : ByteArray), .slice none 0 0]) ?_ 0 _ rfl; exact pk BK189.out⟩
        have n3_ : Aside0 (Below w.heap.size w ((w21.setCell ⟨gb189, 0, none⟩ (.string ((rd_T59 l0_1 x26_1).f0))).setCell ⟨gb189, 1, none⟩ (.slice A188_1 ((rd_T59 l0_1 x26_1).f1).length c188_1))) := ⟨bl HB.out⟩
        (try clear HO_4)
        (try clear BK180)
        (try clear BK189)
        (try clear HB)
        generalize ((w21.setCell ⟨gb189, 0, none⟩ (.string ((rd_T59 l0_1 x26_1).f0))).setCell ⟨gb189, 1, none⟩ (.slice A188_1 ((rd_T59 l0_1 x26_1).f1).length c188_1)) = w24 at n0_ n1_ n2_ n3_ ⊢
        have HO_4 := n0_
        have BK180 := n1_
        have BK189 := n2_
        have HB := n3_
        clear n0_ n1_ n2_ n3_
        replace HO_4 := Aside0.mk (Kd.R_drew HO_4.out)
        replace BK180 := Aside0.mk (blk_drew BK180.out)
        replace BK189 := Aside0.mk (blk_drew BK189.out)
        replace HB := Aside0.mk (below_drew1 HB.out)
        obtain ⟨Ao26, co26, eo26⟩ := Kd.R_slice HO_4.out
        (first | subst eo26 | (injection eo26 with f1_ f2_ f3_; have f4_ := f1_.symm; have f5_ := f3_.symm; clear f1_ f2_ f3_; subst f4_; subst f5_))
        refine start_ (n := 9) (S := fun w' => w'.cell? ⟨gb189, 0, none⟩ = some (.string ((rd_T59 l0_1 x26_1).f0)) ∧ w'.cell? ⟨gb189, 1, none⟩ = some (.slice A188_1 ((rd_T59 l0_1 x26_1).f1).length c188_1)) (ds := []) #[false, false, false, false, false, false, false, false, false] kr rfl rfl ⟨(blk_cell BK189.out 0).trans rfl, (blk_cell BK189.out 1).trans rfl⟩ (fun hHeld => ?_); refine with_tabW payload_Encode.tab8 payload_Encode.bits8 (fun HT_ HW_ => ?_)
        generalize w24.drew = w25 at HO_4 BK180 BK189 HB hHeld ⊢
        refine pure_ (i := 0) (N := some 30) (v := ?_) (a' := ?_) #[true, false, false, false, false, false, false, false, false] rfl rfl (any_of HT_.out kr) (fun _ _ _ h => h) (Or.inl ⟨by rfl, ?_⟩) ?_ ?_
        rotate_left
        ·exact wl
        rotate_left
        ·exact ap
        refine pure_ (i := 1) (N := some 31) (v := ?_) (a' := ?_) #[true, true, false, false, false, false, false, false, false] rfl rfl (any_of HT_.out kr) (fun _ _ _ h => h) (Or.inl ⟨by rfl, ?_⟩) ?_ ?_
        rotate_left
        ·exact wl
        rotate_left
        ·exact ap
        refine pure_ (i := 5) (N := some 35) (v := ?_) (a' := ?_) #[true, true, false, false, false, true, false, false, false] rfl rfl (any_of HT_.out kr) (fun _ _ _ h => h) (Or.inl ⟨by rfl, ?_⟩) ?_ ?_
        rotate_left
        ·exact wl
        rotate_left
        ·exact ap
        refine take_ (i := 2) (N := some 32) (v := ?_) (a' := ?_) #[true, true, true, false, false, true, false, false, false] rfl rfl (take_ofW HT_.out HW_.out kr) (fun _ _ _ h => h) (Or.inl ⟨by rfl, ?_⟩) hHeld ?_ ?_
        rotate_left
        ·rintro w' ⟨s0, s1⟩
         go_simp
         exact rl
        rotate_left
        ·exact ap
        refine pure_ (i := 3) (N := some 33) (v := ?_) (a' := ?_) #[true, true, true, true, false, true, false, false, false] rfl rfl (any_of HT_.out kr) (fun _ _ _ h => h) (Or.inl ⟨by rfl, ?_⟩) ?_ ?_
        rotate_left
        ·exact wl
        rotate_left
        ·exact ap
        refine take_ (i := 6) (N := some 36) (v := ?_) (a' := ?_) #[true, true, true, true, false, true, true, false, false] rfl rfl (take_ofW HT_.out HW_.out kr) (fun _ _ _ h => h) (Or.inl ⟨by rfl, ?_⟩) hHeld ?_ ?_
        rotate_left
        ·rintro w' ⟨s0, s1⟩
         go_simp
         exact rl
        rotate_left
        ·exact ap
        refine one_ (i := 4) (N := some 34) #[true, true, true, true, true, true, true, false, false] rfl rfl (one_of HT_.out kr) (by decide) (fun K hK => ?_)
        refine goes_ Tryd.func31 kr rfl #[.slice Ao26 x4_1.length co26, .int .i64 (((rd_T59 l0_1 x26_1).f0).size : Int), .int .i64 1] (by rfl) rfl rfl ga ?_
        with_reducible refine (payload_put.calls k1 (fun k_ => some k_ = (.slice Ao26 x4_1.length co26 : Value).ownBlock) (.slice Ao26 x4_1.length co26) x4_1 (((rd_T59 l0_1 x26_1).f0).size : Int) 1 t190 w _ ?side1 ?side2 A18.out).mono ?_
        (case side1 => exact bl HB.out)
        (case side2 => exact Kd.R_tight rfl HO_4.out)
        rintro e w27 ⟨v191, rfl, ho0, hb, hkp⟩
        refine ⟨_, rfl, ?_⟩
        replace BK180 := Aside0.mk (blk_kept (pk BK180.out) hkp (fun hs_ => (fun e_ => (Kd.R_ne HO_4.out BK180.out (by decide)) e_) hs_))
        replace BK189 := Aside0.mk (blk_kept (pk BK189.out) hkp (fun hs_ => (fun e_ => (Kd.R_ne HO_4.out BK189.out (by decide)) e_) hs_))
        have HO192 := Aside0.mk (Kd.R_mono (ok' := fun k_ => True) ho0 (fun k_ hk_ => trivial))
        replace HB := Aside0.mk (hb)
        clear HO_4
        (try clear hb)
        (try clear hkp)
        (try clear ho0)
        refine hK.out _ _ ⟨(blk_cell BK189.out 0).trans rfl, (blk_cell BK189.out 1).trans rfl⟩ (fun hHeld => ?_)
        clear hK K
        refine norm_ (a' := ?_) ?_ ?_
        rotate_left
        ·show Act.put _ (some 34) _ = _
         exact ap
        refine one_ (i := 7) (N := some 37) #[true, true, true, true, true, true, true, true, false] rfl rfl (one_of HT_.out kr) (by decide) (fun K hK => ?_)
        refine print_append_str2_step (w0 := w) w.heap.size (by rfl) (.tmp 34) _ 66 9 5 rfl Tryd.underlying66 Tryd.underlying9 info5 v191 t190 ((rd_T59 l0_1 x26_1).f0) rfl rfl ?aO ?aB ?aS ?aL ?_
        (case aB => exact (bl HB.out))
        (case aO => exact (Kd.own_of_R (pR HO192.out)))
        (case aS => exact (below_size (bl HB.out)))
        (case aL => have := LMc19.out; omega)
        intro v194 w28 ho0 hb hg hat0
        have ho := Kd.R_of_own (h1 := fun _ => rfl) (ok := (fun _ => True)) ho0 (fun _ _ => trivial)
        clear ho0
        clear hat0
        have hat := True.intro
        rw [← Ny193.out] at ho
        change Kd.R (Kd.int .u8) 5 w28 w.heap.size (fun _ => True) v194 y193 at ho
        replace BK180 := Aside0.mk (blk_grown (g := gb180) (o := .cells #[.int .i64 a0_0, .slice (some ad188) l0_1.length c0_1, .slice A0_2 l0_2.length c0_2] 25 (0, 0)) (pk BK180.out) hg (Kd.R_ne HO192.out BK180.out (by decide)))
        replace BK189 := Aside0.mk (blk_grown (g := gb189) (o := .cells #[.string ((rd_T59 l0_1 x26_1).f0), .slice A188_1 ((rd_T59 l0_1 x26_1).f1).length c188_1] 59 (0, 0)) (pk BK189.out) hg (Kd.R_ne HO192.out BK189.out (by decide)))
        replace HB := Aside0.mk (hb)
        have HO195 := Aside0.mk (ho)
        clear HO192
        clear ho hb hg hat
        refine hK.out _ _ ⟨(blk_cell BK189.out 0).trans rfl, (blk_cell BK189.out 1).trans rfl⟩ (fun hHeld => ?_)
        clear hK K
        refine norm_ (a' := ?_) ?_ ?_
        rotate_left
        ·show Act.put _ (some 37) _ = _
         exact ap
        refine pure_ (i := 8) (N := some 4) (v := ?_) (a' := ?_) #[true, true, true, true, true, true, true, true, true] rfl rfl (any_of HT_.out kr) (fun _ _ _ h => h) (Or.inl ⟨by rfl, ?_⟩) ?_ ?_
        rotate_left
        ·exact wl
        rotate_left
        ·exact ap
        refine done_ (done_of HT_.out kr) ?_
        obtain ⟨hcz29_0, hcz29_1, hfz29_0, hfz29_1⟩ := cz2 BK189.out
        obtain ⟨Ao30, co30, eo30⟩ := Kd.R_slice HO195.out
        subst eo30
        try go_wp2_with (first | ((with_reducible refine gate_callee (f := 31) rfl ?_); refine goesL_ (some 42) rfl rfl Tryd.func31 kr rfl #[.slice Ao30 y193.length co30, .int .i64 (((rd_T59 l0_1 x26_1).f1).length : Int), .int .i64 1] rfl ga ?_; (with_reducible refine (payload_put.calls k1 (fun k_ => some k_ = (.slice Ao30 y193.length co30 : Value).ownBlock) (.slice Ao30 y193.length co30) y193 (((rd_T59 l0_1 x26_1).f1).length : Int) 1 t196 w _ ?side1 ?side2 A20.out).mono ?_); (case side1 => exact bl HB.out); (case side2 => exact Kd.R_tight rfl HO195.out); rintro e w31 ⟨v197, rfl, ho0, hb, hkp⟩; refine ⟨_, rfl, ?_⟩; replace BK180 := Aside0.mk (blk_kept (pk BK180.out) hkp (fun hs_ => (fun e_ => (Kd.R_ne HO195.out BK180.out (by decide)) e_) hs_)); replace BK189 := Aside0.mk (blk_kept (pk BK189.out) hkp (fun hs_ => (fun e_ => (Kd.R_ne HO195.out BK189.out (by decide)) e_) hs_)); have HO198 := Aside0.mk (Kd.R_mono (ok' := fun k_ => True) ho0 (fun k_ hk_ => trivial)); replace HB := Aside0.mk (hb); clear HO195; (try clear hb); (try clear hkp); (try clear ho0); obtain ⟨hcz32_0, hcz32_1, hfz32_0, hfz32_1⟩ := cz2 BK189.out))
        go_loopg [4, 46] k1 (fun kq v4 v46 w' => ∃ (x4_2 : List Int) (x46_2 : Int), v46 = .int .i64 x46_2 ∧ Aside0 (payload_Encode.l1 kq x4_2 l0_1 (l0_1.length : Int) x26_1 ((rd_T59 l0_1 x26_1).f1) (((rd_T59 l0_1 x26_1).f1).length : Int) x46_2 a0_0 l0_1 l0_2 = some (r1, r2)) ∧ Aside0 (kq ≤ k1) ∧ Aside0 (Kd.R (Kd.int .u8) 5 w' w.heap.size (fun _ => True) v4 x4_2) ∧ Aside0 (w'.heap[gb180]? = some (.cells #[.int .i64 a0_0, (.slice (some ad188) l0_1.length c0_1), (.slice A0_2 l0_2.length c0_2)] 25 (0, 0))) ∧ Aside0 (w'.heap[gb189]? = some (.cells #[.string ((rd_T59 l0_1 x26_1).f0), (.slice A188_1 ((rd_T59 l0_1 x26_1).f1).length c188_1)] 59 (0, 0))) ∧ Aside0 (Below w.heap.size w w'))
        case atStart => exact ⟨(t196), (0), hsr, H', ⟨Nat.le_refl _⟩, ⟨pR HO198.out⟩, ⟨pk BK180.out⟩, ⟨pk BK189.out⟩, ⟨bl HB.out⟩⟩
        case round =>
         clear H'
         try clear c1
         try clear p1
         try clear q1
         try clear hx1
         try clear c2
         try clear p2
         try clear c3
         try clear p6
         try clear c13
         try clear c15
         try clear c15b0
         try clear c16
         try clear c16b0
         try clear c17
         try clear c17b0
         try clear c18
         try clear p18
         try clear q18
         try clear hx18
         try clear c19
         try clear c22
         try clear c30
         try clear c31
         try clear hcz32_0 hcz32_1 hfz32_0 hfz32_1
         try clear hcz29_0 hcz29_1 hfz29_0 hfz29_1
         try clear hcz23_0 hcz23_1 hfz23_0 hfz23_1
         try clear hcz14_0 hcz14_1 hcz14_2 hfz14_0 hfz14_1 hfz14_2
         try clear hcz11_0 hcz11_1 hcz11_2 hfz11_0 hfz11_1 hfz11_2
         try clear hcz9_0 hcz9_1 hcz9_2 hfz9_0 hfz9_1 hfz9_2
         try clear hcz7_0 hcz7_1 hcz7_2 hfz7_0 hfz7_1 hfz7_2
         try clear hx188_0
         try clear hx188_1
         try clear p188
         try clear p2
         try clear p6
         try clear q188
         obtain ⟨x4_2, x46_2, rfl, HA, HK2, HO_4, BK180, BK189, HB⟩ := hrel
         cases gk with
         | zero => exact absurd HA.out (by simp [payload_Encode.l1])
         | succ k2 =>
          have H := HA.out
          clear HA
          simp only [payload_Encode.l1] at H
          by_cases c33 : x46_2 < (((rd_T59 l0_1 x26_1).f1).length : Int)
          ·rw [if_pos c33] at H
           have c33b0 : decide (x46_2 < (((rd_T59 l0_1 x26_1).f1).length : Int)) = true := decide_eq_true c33
           clear c33
           by_cases c34 : 0 ≤ x46_2
           ·rw [if_pos c34] at H
            have c34b0 : decide (0 ≤ x46_2) = true := decide_eq_true c34
            clear c34
            by_cases c35 : x46_2 < (((rd_T59 l0_1 x26_1).f1).length : Int)
            ·rw [if_pos c35] at H
             have c35b0 : decide (x46_2 < (((rd_T59 l0_1 x26_1).f1).length : Int)) = true := decide_eq_true c35
             clear c35
             replace H := Option.bind_eq_some_iff.mp H
             obtain ⟨t200, A360, H⟩ := H
             replace H : (payload_Encode.l1 k2 t200 l0_1 (l0_1.length : Int) x26_1 ((rd_T59 l0_1 x26_1).f1) (((rd_T59 l0_1 x26_1).f1).length : Int) (wrap64 (x46_2 + 1)) a0_0 l0_1 l0_2) = some (r1, r2) := H
             have A36 := Aside0.mk A360
             clear A360
             have H' := Aside0.mk H
             clear H
             have p199 : 0 ≤ (x46_2 : Int) := of_decide_eq_true ha
             have q199 : x46_2 < (((rd_T59 l0_1 x26_1).f1).length : Int) := of_decide_eq_true ha
             obtain ⟨ad199, e199, hx199_0⟩ := Kd.at_int HR188_1.out x46_2 p199 q199
             cases e199
             replace hx199_0 := (HB.out.cell (World.block_lt_of_cell? w _ hx199_0)).trans hx199_0
             replace p199 := eq_true p199
             replace q199 := eq_true q199
             obtain ⟨Ao37, co37, eo37⟩ := Kd.R_slice HO_4.out
             subst eo37
             go_wp2_with (first | ((with_reducible refine gate_callee (f := 31) rfl ?_); refine goesL_ (some 53) rfl rfl Tryd.func31 kr rfl #[.slice Ao37 x4_2.length co37, .int .i64 (wrap64 ((rd ((rd_T59 l0_1 x26_1).f1) x46_2) + 32768)), .int .i64 2] rfl ga ?_; (with_reducible refine (payload_put.calls k2 (fun k_ => some k_ = (.slice Ao37 x4_2.length co37 : Value).ownBlock) (.slice Ao37 x4_2.length co37) x4_2 (wrap64 ((rd ((rd_T59 l0_1 x26_1).f1) x46_2) + 32768)) 2 t200 w _ ?side1 ?side2 A36.out).mono ?_); (case side1 => exact bl HB.out); (case side2 => exact Kd.R_tight rfl HO_4.out); rintro e w38 ⟨v201, rfl, ho0, hb, hkp⟩; refine ⟨_, rfl, ?_⟩; replace BK180 := Aside0.mk (blk_kept (pk BK180.out) hkp (fun hs_ => (fun e_ => (Kd.R_ne HO_4.out BK180.out (by decide)) e_) hs_)); replace BK189 := Aside0.mk (blk_kept (pk BK189.out) hkp (fun hs_ => (fun e_ => (Kd.R_ne HO_4.out BK189.out (by decide)) e_) hs_)); have HO202 := Aside0.mk (Kd.R_mono (ok' := fun k_ => True) ho0 (fun k_ hk_ => trivial)); replace HB := Aside0.mk (hb); clear HO_4; (try clear hb); (try clear hkp); (try clear ho0)))
             go_roundg k2
             case measure => have := HK1.out; have := HK2.out; omega
             case rel => exact ⟨(t200), (wrap64 (x46_2 + 1)), hsr, H', ⟨by have := HK1.out; have := HK2.out; omega⟩, ⟨pR HO202.out⟩, ⟨pk BK180.out⟩, ⟨pk BK189.out⟩, ⟨bl HB.out⟩⟩
            ·rw [if_neg c35] at H
             exact absurd H (by simp)
           ·rw [if_neg c34] at H
            exact absurd H (by simp)
          ·rw [if_neg c33] at H
           have c33b0 : decide (x46_2 < (((rd_T59 l0_1 x26_1).f1).length : Int)) = false := decide_eq_false c33
           clear c33
           have H' := Aside0.mk H
           clear H
           go_wp2
           go_roundg k2
           case measure => have := HK1.out; have := HK2.out; omega
           case rel => exact ⟨(x4_2), (wrap64 (x26_1 + 1)), hsr, H', ⟨by have := HK1.out; have := HK2.out; omega⟩, ⟨pR HO_4.out⟩, ⟨pk BK180.out⟩, ⟨bl HB.out⟩⟩
       ·rw [if_neg c19] at H
        exact absurd H (by simp)
      ·rw [if_neg c17] at H
       exact absurd H (by simp)
     ·rw [if_neg c16] at H
      exact absurd H (by simp)
    ·rw [if_neg c15] at H
     have c15b0 : decide (x26_1 < (l0_1.length : Int)) = false := decide_eq_false c15
     clear c15
     replace H := Option.bind_eq_some_iff.mp H
     obtain ⟨t203, A390, H⟩ := H
     replace H : (payload_Encode.l2 k1 t203 l0_2 (l0_2.length : Int) 0) = some (r1, r2) := H
     have A39 := Aside0.mk A390
     clear A390
     have H' := Aside0.mk H
     clear H
     obtain ⟨hcz40_0, hcz40_1, hcz40_2, hfz40_0, hfz40_1, hfz40_2⟩ := cz3 BK180.out
     obtain ⟨Ao41, co41, eo41⟩ := Kd.R_slice HO_4.out
     subst eo41
     go_wp2_with (first | ((with_reducible refine gate_callee (f := 31) rfl ?_); refine goesL_ (some 60) rfl rfl Tryd.func31 kr rfl #[.slice Ao41 x4_1.length co41, .int .i64 (l0_2.length : Int), .int .i64 1] rfl ga ?_; (with_reducible refine (payload_put.calls k1 (fun k_ => some k_ = (.slice Ao41 x4_1.length co41 : Value).ownBlock) (.slice Ao41 x4_1.length co41) x4_1 (l0_2.length : Int) 1 t203 w _ ?side1 ?side2 A39.out).mono ?_); (case side1 => exact bl HB.out); (case side2 => exact Kd.R_tight rfl HO_4.out); rintro e w42 ⟨v204, rfl, ho0, hb, hkp⟩; refine ⟨_, rfl, ?_⟩; replace BK180 := Aside0.mk (blk_kept (pk BK180.out) hkp (fun hs_ => (fun e_ => (Kd.R_ne HO_4.out BK180.out (by decide)) e_) hs_)); have HO205 := Aside0.mk (Kd.R_mono (ok' := fun k_ => True) ho0 (fun k_ hk_ => trivial)); replace HB := Aside0.mk (hb); clear HO_4; (try clear hb); (try clear hkp); (try clear ho0); obtain ⟨hcz43_0, hcz43_1, hcz43_2, hfz43_0, hfz43_1, hfz43_2⟩ := cz3 BK180.out))
     go_loopg [4, 64] k1 (fun kq v4 v64 w' => ∃ (x4_2 : List Int) (x64_2 : Int), v64 = .int .i64 x64_2 ∧ Aside0 (payload_Encode.l2 kq x4_2 l0_2 (l0_2.length : Int) x64_2 = some (r1, r2)) ∧ Aside0 (kq ≤ k1) ∧ Aside0 (Kd.R (Kd.int .u8) 5 w' w.heap.size (fun _ => True) v4 x4_2) ∧ Aside0 (w'.heap[gb180]? = some (.cells #[.int .i64 a0_0, (.slice A0_1 l0_1.length c0_1), (.slice A0_2 l0_2.length c0_2)] 25 (0, 0))) ∧ Aside0 (Below w.heap.size w w'))
     case atStart => exact ⟨(t203), (0), hsr, H', ⟨Nat.le_refl _⟩, ⟨pR HO205.out⟩, ⟨pk BK180.out⟩, ⟨bl HB.out⟩⟩
     case round =>
      clear H'
      try clear c1
      try clear p1
      try clear q1
      try clear hx1
      try clear c2
      try clear p2
      try clear c3
      try clear p6
      try clear c13
      try clear c15
      try clear c15b0
      try clear c16
      try clear c16b0
      try clear c17
      try clear c17b0
      try clear c18
      try clear p18
      try clear q18
      try clear hx18
      try clear c19
      try clear p19
      try clear q19
      try clear hx19
      try clear c22
      try clear c30
      try clear c31
      try clear c33
      try clear c33b0
      try clear c34
      try clear c34b0
      try clear c35
      try clear c35b0
      try clear hcz43_0 hcz43_1 hcz43_2 hfz43_0 hfz43_1 hfz43_2
      try clear hcz40_0 hcz40_1 hcz40_2 hfz40_0 hfz40_1 hfz40_2
      try clear hcz32_0 hcz32_1 hfz32_0 hfz32_1
      try clear hcz29_0 hcz29_1 hfz29_0 hfz29_1
      try clear hcz23_0 hcz23_1 hfz23_0 hfz23_1
      try clear hcz14_0 hcz14_1 hcz14_2 hfz14_0 hfz14_1 hfz14_2
      try clear hcz11_0 hcz11_1 hcz11_2 hfz11_0 hfz11_1 hfz11_2
      try clear hcz9_0 hcz9_1 hcz9_2 hfz9_0 hfz9_1 hfz9_2
      try clear hcz7_0 hcz7_1 hcz7_2 hfz7_0 hfz7_1 hfz7_2
      try clear hx188_0
      try clear hx188_1
      try clear hx199_0
      try clear p1
      try clear p18
      try clear p188
      try clear p199
      try clear p2
      try clear p6
      try clear q1
      try clear q18
      try clear q188
      try clear q199
      obtain ⟨x4_2, x64_2, rfl, HA, HK2, HO_4, BK180, HB⟩ := hrel
      cases gk with
      | zero => exact absurd HA.out (by simp [payload_Encode.l2])
      | succ k2 =>
       have H := HA.out
       clear HA
       simp only [payload_Encode.l2] at H
       by_cases c44 : x64_2 < (l0_2.length : Int)
       ·rw [if_pos c44] at H
        have c44b0 : decide (x64_2 < (l0_2.length : Int)) = true := decide_eq_true c44
        clear c44
        by_cases c45 : 0 ≤ x64_2
        ·rw [if_pos c45] at H
         have c45b0 : decide (0 ≤ x64_2) = true := decide_eq_true c45
         clear c45
         by_cases c46 : x64_2 < (l0_2.length : Int)
         ·rw [if_pos c46] at H
          have c46b0 : decide (x64_2 < (l0_2.length : Int)) = true := decide_eq_true c46
          clear c46
          replace H := Option.bind_eq_some_iff.mp H
          obtain ⟨t208, A470, H⟩ := H
          replace H : (if t208.length + ((rd_T61 l0_2 x64_2).f0).size < 140737488355328 then ((payload_put.f k2 (t208 ++ bytesOf ((rd_T61 l0_2 x64_2).f0)) ((rd_T61 l0_2 x64_2).f1.f0) 1).bind fun t214 => (if ((rd_T61 l0_2 x64_2).f1.f0) = 2 then ((payload_width.f ((rd_T61 l0_2 x64_2).f1.f0)).bind fun t217 => ((payload_put.f k2 t214 (((rd_T61 l0_2 x64_2).f1.f2).size : Int) t217).bind fun t218 => (if t218.length + ((rd_T61 l0_2 x64_2).f1.f2).size < 140737488355328 then (payload_Encode.l2 k2 (t218 ++ bytesOf ((rd_T61 l0_2 x64_2).f1.f2)) l0_2 (l0_2.length : Int) (wrap64 (x64_2 + 1))) else (none)))) else ((payload_width.f ((rd_T61 l0_2 x64_2).f1.f0)).bind fun t224 => ((payload_put.f k2 t214 ((rd_T61 l0_2 x64_2).f1.f1) t224).bind fun t225 => (if t225.length + ((rd_T61 l0_2 x64_2).f1.f2).size < 140737488355328 then (payload_Encode.l2 k2 (t225 ++ bytesOf ((rd_T61 l0_2 x64_2).f1.f2)) l0_2 (l0_2.length : Int) (wrap64 (x64_2 + 1))) else (none)))))) else (none)) = some (r1, r2) := H
          have A47 := Aside0.mk A470
          clear A470
          by_cases c48 : t208.length + ((rd_T61 l0_2 x64_2).f0).size < 140737488355328
          ·rw [if_pos c48] at H
           have LMc48 := Aside0.mk c48
           clear c48
           obtain ⟨y211, hy211⟩ : ∃ y_ : List Int, y_ = (t208 ++ bytesOf ((rd_T61 l0_2 x64_2).f0)) := ⟨_, rfl⟩
           replace H : ((payload_put.f k2 y211 ((rd_T61 l0_2 x64_2).f1.f0) 1).bind fun t214 => (if ((rd_T61 l0_2 x64_2).f1.f0) = 2 then ((payload_width.f ((rd_T61 l0_2 x64_2).f1.f0)).bind fun t217 => ((payload_put.f k2 t214 (((rd_T61 l0_2 x64_2).f1.f2).size : Int) t217).bind fun t218 => (if t218.length + ((rd_T61 l0_2 x64_2).f1.f2).size < 140737488355328 then (payload_Encode.l2 k2 (t218 ++ bytesOf ((rd_T61 l0_2 x64_2).f1.f2)) l0_2 (l0_2.length : Int) (wrap64 (x64_2 + 1))) else (none)))) else ((payload_width.f ((rd_T61 l0_2 x64_2).f1.f0)).bind fun t224 => ((payload_put.f k2 t214 ((rd_T61 l0_2 x64_2).f1.f1) t224).bind fun t225 => (if t225.length + ((rd_T61 l0_2 x64_2).f1.f2).size < 140737488355328 then (payload_Encode.l2 k2 (t225 ++ bytesOf ((rd_T61 l0_2 x64_2).f1.f2)) l0_2 (l0_2.length : Int) (wrap64 (x64_2 + 1))) else (none)))))) = some (r1, r2) := by first | (rw [hy211]; with_reducible exact H) | (have H2_ := (Option.bind_some _ _).symm.trans H; rw [hy211]; with_reducible exact H2_) | (have H2_ := (Option.bind_some _ _).symm.trans H; with_reducible exact H2_) | with_reducible exact H | (rw [hy211]; exact H) | exact H
           have Ny211 := Aside0.mk hy211
           clear hy211
           replace H := Option.bind_eq_some_iff.mp H
           obtain ⟨t214, A490, H⟩ := H
           replace H : (if ((rd_T61 l0_2 x64_2).f1.f0) = 2 then ((payload_width.f ((rd_T61 l0_2 x64_2).f1.f0)).bind fun t217 => ((payload_put.f k2 t214 (((rd_T61 l0_2 x64_2).f1.f2).size : Int) t217).bind fun t218 => (if t218.length + ((rd_T61 l0_2 x64_2).f1.f2).size < 140737488355328 then (payload_Encode.l2 k2 (t218 ++ bytesOf ((rd_T61 l0_2 x64_2).f1.f2)) l0_2 (l0_2.length : Int) (wrap64 (x64_2 + 1))) else (none)))) else ((payload_width.f ((rd_T61 l0_2 x64_2).f1.f0)).bind fun t224 => ((payload_put.f k2 t214 ((rd_T61 l0_2 x64_2).f1.f1) t224).bind fun t225 => (if t225.length + ((rd_T61 l0_2 x64_2).f1.f2).size < 140737488355328 then (payload_Encode.l2 k2 (t225 ++ bytesOf ((rd_T61 l0_2 x64_2).f1.f2)) l0_2 (l0_2.length : Int) (wrap64 (x64_2 + 1))) else (none))))) = some (r1, r2) := H
           have A49 := Aside0.mk A490
           clear A490
           by_cases c50 : ((rd_T61 l0_2 x64_2).f1.f0) = 2
           ·rw [if_pos c50] at H
            have c50b0 : (((rd_T61 l0_2 x64_2).f1.f0) == 2) = true := beq_iff_eq.mpr c50
            have c50b1 : (((rd_T61 l0_2 x64_2).f1.f0) != 2) = false := bne_eq_false_iff_eq.mpr c50
            clear c50
            replace H := Option.bind_eq_some_iff.mp H
            obtain ⟨t217, A510, H⟩ := H
            replace H : ((payload_put.f k2 t214 (((rd_T61 l0_2 x64_2).f1.f2).size : Int) t217).bind fun t218 => (if t218.length + ((rd_T61 l0_2 x64_2).f1.f2).size < 140737488355328 then (payload_Encode.l2 k2 (t218 ++ bytesOf ((rd_T61 l0_2 x64_2).f1.f2)) l0_2 (l0_2.length : Int) (wrap64 (x64_2 + 1))) else (none))) = some (r1, r2) := H
            have A51 := Aside0.mk A510
            clear A510
            replace H := Option.bind_eq_some_iff.mp H
            obtain ⟨t218, A520, H⟩ := H
            replace H : (if t218.length + ((rd_T61 l0_2 x64_2).f1.f2).size < 140737488355328 then (payload_Encode.l2 k2 (t218 ++ bytesOf ((rd_T61 l0_2 x64_2).f1.f2)) l0_2 (l0_2.length : Int) (wrap64 (x64_2 + 1))) else (none)) = some (r1, r2) := H
            have A52 := Aside0.mk A520
            clear A520
            by_cases c53 : t218.length + ((rd_T61 l0_2 x64_2).f1.f2).size < 140737488355328
            ·rw [if_pos c53] at H
             have LMc53 := Aside0.mk c53
             clear c53
             obtain ⟨y221, hy221⟩ : ∃ y_ : List Int, y_ = (t218 ++ bytesOf ((rd_T61 l0_2 x64_2).f1.f2)) := ⟨_, rfl⟩
             replace H : (payload_Encode.l2 k2 y221 l0_2 (l0_2.length : Int) (wrap64 (x64_2 + 1))) = some (r1, r2) := by first | (rw [hy221]; with_reducible exact H) | (have H2_ := (Option.bind_some _ _).symm.trans H; rw [hy221]; with_reducible exact H2_) | (have H2_ := (Option.bind_some _ _).symm.trans H; with_reducible exact H2_) | with_reducible exact H | (rw [hy221]; exact H) | exact H
             have Ny221 := Aside0.mk hy221
             clear hy221
             have H' := Aside0.mk H
             clear H
             have p206 : 0 ≤ (x64_2 : Int) := of_decide_eq_true ha
             have q206 : x64_2 < (l0_2.length : Int) := of_decide_eq_true ha
             obtain ⟨ad206, e206, hx206_0, hx206_1, hx206_2, hx206_3⟩ := at_T61 HR0_2.out x64_2 p206 q206
             cases e206
             replace hx206_0 := (HB.out.cell (World.block_lt_of_cell? w _ hx206_0)).trans hx206_0
             replace hx206_1 := (HB.out.cell (World.block_lt_of_cell? w _ hx206_1)).trans hx206_1
             replace hx206_2 := (HB.out.cell (World.block_lt_of_cell? w _ hx206_2)).trans hx206_2
             replace hx206_3 := (HB.out.cell (World.block_lt_of_cell? w _ hx206_3)).trans hx206_3
             replace p206 := eq_true p206
             replace q206 := eq_true q206
             try go_wp2_with (first | ((with_reducible refine gate_dst (N := 10) rfl ?_); refine box_event ?hg (N := 10) ?hd (cs := #[.string (⟨#[]⟩ : ByteArray), .int .i64 0, .int .i64 0, .string (⟨#[]⟩ : ByteArray)]) (t := 61) ?hr ?_; (case hd => rfl); (case hg => rfl); (case hr => first | (go_simp; done) | (go_simp; rfl)); intro gb207 hg w54 hbox hb; replace HO_4 := Aside0.mk (Kd.R_below (pR HO_4.out) hb); have BK207 := Aside0.mk (hbox); have GW207 := Aside0.mk (gs (w := w) hg (bl HB.out)); have GE207 := Aside0.mk (gs (w := w) hg (bl HB.out)); replace HB := Aside0.mk (below_step (bl HB.out) hb); have NB180_207 := Aside0.mk ((gl (g := gb180) hg (pk BK180.out))); have NB207_180 := Aside0.mk ((gm (g := gb180) hg (pk BK180.out))); replace BK180 := Aside0.mk (blk_below (pk BK180.out) hb); clear hb hbox hg; have hnb55 := NB207_180.out; have hnc55 := NB180_207.out; obtain ⟨hcz56_0, hcz56_1, hcz56_2, hcz56_3, hfz56_0, hfz56_1, hfz56_2, hfz56_3⟩ := cz4 BK207.out))
             have n0_ : Aside0 (Kd.R (Kd.int .u8) 5 ((((w54.setCell ⟨gb207, 0, none⟩ (.string ((rd_T61 l0_2 x64_2).f0))).setCell ⟨gb207, 1, none⟩ (.int .i64 ((rd_T61 l0_2 x64_2).f1.f0))).setCell ⟨gb207, 2, none⟩ (.int .i64 ((rd_T61 l0_2 x64_2).f1.f1))).setCell ⟨gb207, 3, none⟩ (.string ((rd_T61 l0_2 x64_2).f1.f2))) w.heap.size (fun _ => True) u4 x4_2) := ⟨by (with_reducible repeat (first | apply Kd.R_alloc | apply Kd.R_drewN | apply Kd.R_drew)); exact Kd.R_mono (Kd.R_far (p := ⟨gb207, 3, none⟩) (Kd.R_far (p := ⟨gb207, 2, none⟩) (Kd.R_far (p := ⟨gb207, 1, none⟩) (Kd.R_far (p := ⟨gb207, 0, none⟩) (Kd.R_types HO_4.out BK207.out (by decide)) (fun _ hk => hk.2) (.string ((rd_T61 l0_2 x64_2).f0))) (fun _ hk => hk.2) (.int .i64 ((rd_T61 l0_2 x64_2).f1.f0))) (fun _ hk => hk.2) (.int .i64 ((rd_T61 l0_2 x64_2).f1.f1))) (fun _ hk => hk.2) (.string ((rd_T61 l0_2 x64_2).f1.f2))) (fun _ hk => trivial)⟩
             have n1_ : Aside0 (((((w54.setCell ⟨gb207, 0, none⟩ (.string ((rd_T61 l0_2 x64_2).f0))).setCell ⟨gb207, 1, none⟩ (.int .i64 ((rd_T61 l0_2 x64_2).f1.f0))).setCell ⟨gb207, 2, none⟩ (.int .i64 ((rd_T61 l0_2 x64_2).f1.f1))).setCell ⟨gb207, 3, none⟩ (.string ((rd_T61 l0_2 x64_2).f1.f2))).heap[gb180]? = some (.cells #[.int .i64 a0_0, .slice A0_1 l0_1.length c0_1, .slice (some ad206) l0_2.length c0_2] 25 (0, 0))) := ⟨by refine pk ?_; refine blk_far ?_ NB180_207.out _; refine pk ?_; refine blk_far ?_ NB180_207.out _; refine pk ?_; refine blk_far ?_ NB180_207.out _; refine pk ?_; refine blk_far ?_ NB180_207.out _; exact pk BK180.out⟩
             have n2_ : Aside0 (((((w54.setCell ⟨gb207, 0, none⟩ (.string ((rd_T61 l0_2 x64_2).f0))).setCell ⟨gb207, 1, none⟩ (.int .i64 ((rd_T61 l0_2 x64_2).f1.f0))).setCell ⟨gb207, 2, none⟩ (.int .i64 ((rd_T61 l0_2 x64_2).f1.f1))).setCell ⟨gb207, 3, none⟩ (.string ((rd_T61 l0_2 x64_2).f1.f2))).heap[gb207]? = some (.cells #[.string ((rd_T61 l0_2 x64_2).f0), .int .i64 ((rd_T61 l0_2 x64_2).f1.f0), .int .i64 ((rd_T61 l0_2 x64_2).f1.f1), .string ((rd_T61 l0_2 x64_2).f1.f2)] 61 (0, 0))) := ⟨by refine pk ?_; refine blk_put (cs := #[.string ((rd_T61 l0_2 x64_2).f0), .int .i64 ((rd_T61 l0_2 x64_2).f1.f0), .int .i64 ((rd_T61 l0_2 x64_2).f1.f1), .string (⟨#[]⟩ : ByteArray)]) ?_ 3 _ rfl; refine pk ?_; refine blk_put (cs := #[.string ((rd_T61 l0_2 x64_2).f0), .int .i64 ((rd_T61 l0_2 x64_2).f1.f0), .int .i64 0, .string (⟨#[]⟩ : ByteArray)]) ?_ 2 _ rfl; refine pk ?_; refine blk_put (cs := #[.string ((rd_T61 l0_2 x64_2).f0), .int .i64 0, .int .i64 0, .string (⟨#[]⟩ : ByteArray)]) ?_ 1 _ rfl; refine pk ?_; refine blk_put (cs := #[.string (⟨#[]⟩ : ByteArray), .int .i64 0, .int .i64 0, .string (⟨#[]⟩ : ByteArray)]) ?_ 0 _ rfl; exact pk BK207.out⟩
             have n3_ : Aside0 (Below w.heap.size w ((((w54.setCell ⟨gb207, 0, none⟩ (.string ((rd_T61 l0_2 x64_2).f0))).setCell ⟨gb207, 1, none⟩ (.int .i64 ((rd_T61 l0_2 x64_2).f1.f0))).setCell ⟨gb207, 2, none⟩ (.int .i64 ((rd_T61 l0_2 x64_2).f1.f1))).setCell ⟨gb207, 3, none⟩ (.string ((rd_T61 l0_2 x64_2).f1.f2)))) := ⟨bl HB.out⟩
             (try clear HO_4)
             (try clear BK180)
             (try clear BK207)
             (try clear HB)
             generalize ((((w54.setCell ⟨gb207, 0, none⟩ (.string ((rd_T61 l0_2 x64_2).f0))).setCell ⟨gb207, 1, none⟩ (.int .i64 ((rd_T61 l0_2 x64_2).f1.f0))).setCell ⟨gb207, 2, none⟩ (.int .i64 ((rd_T61 l0_2 x64_2).f1.f1))).setCell ⟨gb207, 3, none⟩ (.string ((rd_T61 l0_2 x64_2).f1.f2))) = w57 at n0_ n1_ n2_ n3_ ⊢
             have HO_4 := n0_
             have BK180 := n1_
             have BK207 := n2_
             have HB := n3_
             clear n0_ n1_ n2_ n3_
             replace HO_4 := Aside0.mk (Kd.R_drew HO_4.out)
             replace BK180 := Aside0.mk (blk_drew BK180.out)
             replace BK207 := Aside0.mk (blk_drew BK207.out)
             replace HB := Aside0.mk (below_drew1 HB.out)
             obtain ⟨Ao59, co59, eo59⟩ := Kd.R_slice HO_4.out
             (first | subst eo59 | (injection eo59 with f1_ f2_ f3_; have f4_ := f1_.symm; have f5_ := f3_.symm; clear f1_ f2_ f3_; subst f4_; subst f5_))
             refine start_ (n := 9) (S := fun w' => w'.cell? ⟨gb207, 0, none⟩ = some (.string ((rd_T61 l0_2 x64_2).f0)) ∧ w'.cell? ⟨gb207, 1, none⟩ = some (.int .i64 ((rd_T61 l0_2 x64_2).f1.f0)) ∧ w'.cell? ⟨gb207, 2, none⟩ = some (.int .i64 ((rd_T61 l0_2 x64_2).f1.f1)) ∧ w'.cell? ⟨gb207, 3, none⟩ = some (.string ((rd_T61 l0_2 x64_2).f1.f2))) (ds := []) #[false, false, false, false, false, false, false, false, false] kr rfl rfl ⟨(blk_cell BK207.out 0).trans rfl, (blk_cell BK207.out 1).trans rfl, (blk_cell BK207.out 2).trans rfl, (blk_cell BK207.out 3).trans rfl⟩ (fun hHeld => ?_); refine with_tabW payload_Encode.tab20 payload_Encode.bits20 (fun HT_ HW_ => ?_)
             generalize w57.drew = w58 at HO_4 BK180 BK207 HB hHeld ⊢
             refine pure_ (i := 0) (N := some 68) (v := ?_) (a' := ?_) #[true, false, false, false, false, false, false, false, false] rfl rfl (any_of HT_.out kr) (fun _ _ _ h => h) (Or.inl ⟨by rfl, ?_⟩) ?_ ?_
             rotate_left
             ·exact wl
             rotate_left
             ·exact ap
             refine pure_ (i := 1) (N := some 69) (v := ?_) (a' := ?_) #[true, true, false, false, false, false, false, false, false] rfl rfl (any_of HT_.out kr) (fun _ _ _ h => h) (Or.inl ⟨by rfl, ?_⟩) ?_ ?_
             rotate_left
             ·exact wl
             rotate_left
             ·exact ap
             refine pure_ (i := 5) (N := some 73) (v := ?_) (a' := ?_) #[true, true, false, false, false, true, false, false, false] rfl rfl (any_of HT_.out kr) (fun _ _ _ h => h) (Or.inl ⟨by rfl, ?_⟩) ?_ ?_
             rotate_left
             ·exact wl
             rotate_left
             ·exact ap
             refine take_ (i := 2) (N := some 70) (v := ?_) (a' := ?_) #[true, true, true, false, false, true, false, false, false] rfl rfl (take_ofW HT_.out HW_.out kr) (fun _ _ _ h => h) (Or.inl ⟨by rfl, ?_⟩) hHeld ?_ ?_
             rotate_left
             ·rintro w' ⟨s0, s1, s2, s3⟩
              go_simp
              exact rl
             rotate_left
             ·exact ap
             refine pure_ (i := 3) (N := some 71) (v := ?_) (a' := ?_) #[true, true, true, true, false, true, false, false, false] rfl rfl (any_of HT_.out kr) (fun _ _ _ h => h) (Or.inl ⟨by rfl, ?_⟩) ?_ ?_
             rotate_left
             ·exact wl
             rotate_left
             ·exact ap
             refine take_ (i := 6) (N := some 74) (v := ?_) (a' := ?_) #[true, true, true, true, false, true, true, false, false] rfl rfl (take_ofW HT_.out HW_.out kr) (fun _ _ _ h => h) (Or.inl ⟨by rfl, ?_⟩) hHeld ?_ ?_
             rotate_left
             ·rintro w' ⟨s0, s1, s2, s3⟩
              go_simp
              exact rl
             rotate_left
             ·exact ap
             refine one_ (i := 4) (N := some 72) #[true, true, true, true, true, true, true, false, false] rfl rfl (one_of HT_.out kr) (by decide) (fun K hK => ?_)
             refine goes_ Tryd.func31 kr rfl #[.slice Ao59 x4_2.length co59, .int .i64 (((rd_T61 l0_2 x64_2).f0).size : Int), .int .i64 1] (by rfl) rfl rfl ga ?_
             with_reducible refine (payload_put.calls k2 (fun k_ => some k_ = (.slice Ao59 x4_2.length co59 : Value).ownBlock) (.slice Ao59 x4_2.length co59) x4_2 (((rd_T61 l0_2 x64_2).f0).size : Int) 1 t208 w _ ?side1 ?side2 A47.out).mono ?_
             (case side1 => exact bl HB.out)
             (case side2 => exact Kd.R_tight rfl HO_4.out)
             rintro e w60 ⟨v209, rfl, ho0, hb, hkp⟩
             refine ⟨_, rfl, ?_⟩
             replace BK180 := Aside0.mk (blk_kept (pk BK180.out) hkp (fun hs_ => (fun e_ => (Kd.R_ne HO_4.out BK180.out (by decide)) e_) hs_))
             replace BK207 := Aside0.mk (blk_kept (pk BK207.out) hkp (fun hs_ => (fun e_ => (Kd.R_ne HO_4.out BK207.out (by decide)) e_) hs_))
             have HO210 := Aside0.mk (Kd.R_mono (ok' := fun k_ => True) ho0 (fun k_ hk_ => trivial))
             replace HB := Aside0.mk (hb)
             clear HO_4
             (try clear hb)
             (try clear hkp)
             (try clear ho0)
             refine hK.out _ _ ⟨(blk_cell BK207.out 0).trans rfl, (blk_cell BK207.out 1).trans rfl, (blk_cell BK207.out 2).trans rfl, (blk_cell BK207.out 3).trans rfl⟩ (fun hHeld => ?_)
             clear hK K
             refine norm_ (a' := ?_) ?_ ?_
             rotate_left
             ·show Act.put _ (some 72) _ = _
              exact ap
             refine one_ (i := 7) (N := some 75) #[true, true, true, true, true, true, true, true, false] rfl rfl (one_of HT_.out kr) (by decide) (fun K hK => ?_)
             refine print_append_str2_step (w0 := w) w.heap.size (by rfl) (.tmp 72) _ 66 9 5 rfl Tryd.underlying66 Tryd.underlying9 info5 v209 t208 ((rd_T61 l0_2 x64_2).f0) rfl rfl ?aO ?aB ?aS ?aL ?_
             (case aB => exact (bl HB.out))
             (case aO => exact (Kd.own_of_R (pR HO210.out)))
             (case aS => exact (below_size (bl HB.out)))
             (case aL => have := LMc48.out; omega)
             intro v212 w61 ho0 hb hg hat0
             have ho := Kd.R_of_own (h1 := fun _ => rfl) (ok := (fun _ => True)) ho0 (fun _ _ => trivial)
             clear ho0
             clear hat0
             have hat := True.intro
             rw [← Ny211.out] at ho
             change Kd.R (Kd.int .u8) 5 w61 w.heap.size (fun _ => True) v212 y211 at ho
             replace BK180 := Aside0.mk (blk_grown (g := gb180) (o := .cells #[.int .i64 a0_0, .slice A0_1 l0_1.length c0_1, .slice (some ad206) l0_2.length c0_2] 25 (0, 0)) (pk BK180.out) hg (Kd.R_ne HO210.out BK180.out (by decide)))
             replace BK207 := Aside0.mk (blk_grown (g := gb207) (o := .cells #[.string ((rd_T61 l0_2 x64_2).f0), .int .i64 ((rd_T61 l0_2 x64_2).f1.f0), .int .i64 ((rd_T61 l0_2 x64_2).f1.f1), .string ((rd_T61 l0_2 x64_2).f1.f2)] 61 (0, 0)) (pk BK207.out) hg (Kd.R_ne HO210.out BK207.out (by decide)))
             replace HB := Aside0.mk (hb)
             have HO213 := Aside0.mk (ho)
             clear HO210
             clear ho hb hg hat
             refine hK.out _ _ ⟨(blk_cell BK207.out 0).trans rfl, (blk_cell BK207.out 1).trans rfl, (blk_cell BK207.out 2).trans rfl, (blk_cell BK207.out 3).trans rfl⟩ (fun hHeld => ?_)
             clear hK K
             refine norm_ (a' := ?_) ?_ ?_
             rotate_left
             ·show Act.put _ (some 75) _ = _
              exact ap
             refine pure_ (i := 8) (N := some 4) (v := ?_) (a' := ?_) #[true, true, true, true, true, true, true, true, true] rfl rfl (any_of HT_.out kr) (fun _ _ _ h => h) (Or.inl ⟨by rfl, ?_⟩) ?_ ?_
             rotate_left
             ·exact wl
             rotate_left
             ·exact ap
             refine done_ (done_of HT_.out kr) ?_
             obtain ⟨hcz62_0, hcz62_1, hcz62_2, hcz62_3, hfz62_0, hfz62_1, hfz62_2, hfz62_3⟩ := cz4 BK207.out
             obtain ⟨Ao63, co63, eo63⟩ := Kd.R_slice HO213.out
             subst eo63
             try go_wp2_with (first | ((with_reducible refine gate_callee (f := 31) rfl ?_); refine goesL_ (some 80) rfl rfl Tryd.func31 kr rfl #[.slice Ao63 y211.length co63, .int .i64 ((rd_T61 l0_2 x64_2).f1.f0), .int .i64 1] rfl ga ?_; (with_reducible refine (payload_put.calls k2 (fun k_ => some k_ = (.slice Ao63 y211.length co63 : Value).ownBlock) (.slice Ao63 y211.length co63) y211 ((rd_T61 l0_2 x64_2).f1.f0) 1 t214 w _ ?side1 ?side2 A49.out).mono ?_); (case side1 => exact bl HB.out); (case side2 => exact Kd.R_tight rfl HO213.out); rintro e w64 ⟨v215, rfl, ho0, hb, hkp⟩; refine ⟨_, rfl, ?_⟩; replace BK180 := Aside0.mk (blk_kept (pk BK180.out) hkp (fun hs_ => (fun e_ => (Kd.R_ne HO213.out BK180.out (by decide)) e_) hs_)); replace BK207 := Aside0.mk (blk_kept (pk BK207.out) hkp (fun hs_ => (fun e_ => (Kd.R_ne HO213.out BK207.out (by decide)) e_) hs_)); have HO216 := Aside0.mk (Kd.R_mono (ok' := fun k_ => True) ho0 (fun k_ hk_ => trivial)); replace HB := Aside0.mk (hb); clear HO213; (try clear hb); (try clear hkp); (try clear ho0); obtain ⟨hcz65_0, hcz65_1, hcz65_2, hcz65_3, hfz65_0, hfz65_1, hfz65_2, hfz65_3⟩ := cz4 BK207.out))
             replace HO216 := Aside0.mk (Kd.R_drew HO216.out)
             replace BK180 := Aside0.mk (blk_drew BK180.out)
             replace BK207 := Aside0.mk (blk_drew BK207.out)
             replace HB := Aside0.mk (below_drew1 HB.out)
             refine start_ (n := 12) (S := fun w' => w'.cell? ⟨gb207, 0, none⟩ = some (.string ((rd_T61 l0_2 x64_2).f0)) ∧ w'.cell? ⟨gb207, 1, none⟩ = some (.int .i64 ((rd_T61 l0_2 x64_2).f1.f0)) ∧ w'.cell? ⟨gb207, 2, none⟩ = some (.int .i64 ((rd_T61 l0_2 x64_2).f1.f1)) ∧ w'.cell? ⟨gb207, 3, none⟩ = some (.string ((rd_T61 l0_2 x64_2).f1.f2))) (ds := []) #[false, false, false, false, false, false, false, false, false, false, false, false] kr rfl rfl ⟨(blk_cell BK207.out 0).trans rfl, (blk_cell BK207.out 1).trans rfl, (blk_cell BK207.out 2).trans rfl, (blk_cell BK207.out 3).trans rfl⟩ (fun hHeld => ?_); refine with_tabW payload_Encode.tab25 payload_Encode.bits25 (fun HT_ HW_ => ?_)
             generalize w64.drew = w66 at HO216 BK180 BK207 HB hHeld ⊢
             refine pure_ (i := 0) (N := some 92) (v := ?_) (a' := ?_) #[true, false, false, false, false, false, false, false, false, false, false, false] rfl rfl (any_of HT_.out kr) (fun _ _ _ h => h) (Or.inl ⟨by rfl, ?_⟩) ?_ ?_
             rotate_left
             ·exact wl
             rotate_left
             ·exact ap
             refine pure_ (i := 1) (N := some 93) (v := ?_) (a' := ?_) #[true, true, false, false, false, false, false, false, false, false, false, false] rfl rfl (any_of HT_.out kr) (fun _ _ _ h => h) (Or.inl ⟨by rfl, ?_⟩) ?_ ?_
             rotate_left
             ·exact wl
             rotate_left
             ·exact ap
             refine pure_ (i := 2) (N := some 94) (v := ?_) (a' := ?_) #[true, true, true, false, false, false, false, false, false, false, false, false] rfl rfl (any_of HT_.out kr) (fun _ _ _ h => h) (Or.inl ⟨by rfl, ?_⟩) ?_ ?_
             rotate_left
             ·exact wl
             rotate_left
             ·exact ap
             refine pure_ (i := 3) (N := some 95) (v := ?_) (a' := ?_) #[true, true, true, true, false, false, false, false, false, false, false, false] rfl rfl (any_of HT_.out kr) (fun _ _ _ h => h) (Or.inl ⟨by rfl, ?_⟩) ?_ ?_
             rotate_left
             ·exact wl
             rotate_left
             ·exact ap
             refine pure_ (i := 7) (N := some 99) (v := ?_) (a' := ?_) #[true, true, true, true, false, false, false, true, false, false, false, false] rfl rfl (any_of HT_.out kr) (fun _ _ _ h => h) (Or.inl ⟨by rfl, ?_⟩) ?_ ?_
             rotate_left
             ·exact wl
             rotate_left
             ·exact ap
             refine pure_ (i := 8) (N := some 100) (v := ?_) (a' := ?_) #[true, true, true, true, false, false, false, true, true, false, false, false] rfl rfl (any_of HT_.out kr) (fun _ _ _ h => h) (Or.inl ⟨by rfl, ?_⟩) ?_ ?_
             rotate_left
             ·exact wl
             rotate_left
             ·exact ap
             refine take_ (i := 4) (N := some 96) (v := ?_) (a' := ?_) #[true, true, true, true, true, false, false, true, true, false, false, false] rfl rfl (take_ofW HT_.out HW_.out kr) (fun _ _ _ h => h) (Or.inl ⟨by rfl, ?_⟩) hHeld ?_ ?_
             rotate_left
             ·rintro w' ⟨s0, s1, s2, s3⟩
              go_simp
              exact rl
             rotate_left
             ·exact ap
             refine take_ (i := 9) (N := some 101) (v := ?_) (a' := ?_) #[true, true, true, true, true, false, false, true, true, true, false, false] rfl rfl (take_ofW HT_.out HW_.out kr) (fun _ _ _ h => h) (Or.inl ⟨by rfl, ?_⟩) hHeld ?_ ?_
             rotate_left
             ·rintro w' ⟨s0, s1, s2, s3⟩
              go_simp
              exact rl
             rotate_left
             ·exact ap
             refine one_ (i := 5) (N := some 97) #[true, true, true, true, true, true, false, true, true, true, false, false] rfl rfl (one_of HT_.out kr) (by decide) (fun K hK => ?_)
             refine goes_ Tryd.func32 kr rfl #[.int .i64 ((rd_T61 l0_2 x64_2).f1.f0)] (by rfl) rfl rfl ga ?_
             with_reducible refine (payload_width.calls ((rd_T61 l0_2 x64_2).f1.f0) t217 _ A51.out).mono ?_
             rintro e w' ⟨rfl, ⟨nd, rfl⟩⟩
             refine ⟨_, rfl, ?_⟩
             obtain ⟨Ao67, co67, eo67⟩ := Kd.R_slice HO216.out
             (first | subst eo67 | (injection eo67 with f1_ f2_ f3_; have f4_ := f1_.symm; have f5_ := f3_.symm; clear f1_ f2_ f3_; subst f4_; subst f5_))
             refine hK.out _ _ ⟨(blk_cell BK207.out 0).trans rfl, (blk_cell BK207.out 1).trans rfl, (blk_cell BK207.out 2).trans rfl, (blk_cell BK207.out 3).trans rfl⟩ (fun hHeld => ?_)
             clear hK K
             refine norm_ (a' := ?_) ?_ ?_
             rotate_left
             ·show Act.put _ (some 97) _ = _
              exact ap
             refine one_ (i := 6) (N := some 98) #[true, true, true, true, true, true, true, true, true, true, false, false] rfl rfl (one_of HT_.out kr) (by decide) (fun K hK => ?_)
             refine goes_ Tryd.func31 kr rfl #[.slice Ao67 t214.length co67, .int .i64 (((rd_T61 l0_2 x64_2).f1.f2).size : Int), .int .i64 t217] (by rfl) rfl rfl ga ?_
             with_reducible refine (payload_put.calls k2 (fun k_ => some k_ = (.slice Ao67 t214.length co67 : Value).ownBlock) (.slice Ao67 t214.length co67) t214 (((rd_T61 l0_2 x64_2).f1.f2).size : Int) t217 t218 w _ ?side1 ?side2 A52.out).mono ?_
             (case side1 => exact bl HB.out)
             (case side2 => exact Kd.R_tight rfl HO216.out)
             rintro e w68 ⟨v219, rfl, ho0, hb, hkp⟩
             refine ⟨_, rfl, ?_⟩
             replace BK180 := Aside0.mk (blk_kept (pk BK180.out) hkp (fun hs_ => (fun e_ => (Kd.R_ne HO216.out BK180.out (by decide)) e_) hs_))
             replace BK207 := Aside0.mk (blk_kept (pk BK207.out) hkp (fun hs_ => (fun e_ => (Kd.R_ne HO216.out BK207.out (by decide)) e_) hs_))
             have HO220 := Aside0.mk (Kd.R_mono (ok' := fun k_ => True) ho0 (fun k_ hk_ => trivial))
             replace HB := Aside0.mk (hb)
             clear HO216
             (try clear hb)
             (try clear hkp)
             (try clear ho0)
             refine hK.out _ _ ⟨(blk_cell BK207.out 0).trans rfl, (blk_cell BK207.out 1).trans rfl, (blk_cell BK207.out 2).trans rfl, (blk_cell BK207.out 3).trans rfl⟩ (fun hHeld => ?_)
             clear hK K
             refine norm_ (a' := ?_) ?_ ?_
             rotate_left
             ·show Act.put _ (some 98) _ = _
              exact ap
             refine one_ (i := 10) (N := some 102) #[true, true, true, true, true, true, true, true, true, true, true, false] rfl rfl (one_of HT_.out kr) (by decide) (fun K hK => ?_)
             refine print_append_str2_step (w0 := w) w.heap.size (by rfl) (.tmp 98) _ 66 9 5 rfl Tryd.underlying66 Tryd.underlying9 info5 v219 t218 ((rd_T61 l0_2 x64_2).f1.f2) rfl rfl ?aO ?aB ?aS ?aL ?_
             (case aB => exact (bl HB.out))
             (case aO => exact (Kd.own_of_R (pR HO220.out)))
             (case aS => exact (below_size (bl HB.out)))
             (case aL => have := LMc53.out; omega)
             intro v222 w69 ho0 hb hg hat0
             have ho := Kd.R_of_own (h1 := fun _ => rfl) (ok := (fun _ => True)) ho0 (fun _ _ => trivial)
             clear ho0
             clear hat0
             have hat := True.intro
             rw [← Ny221.out] at ho
             change Kd.R (Kd.int .u8) 5 w69 w.heap.size (fun _ => True) v222 y221 at ho
             replace BK180 := Aside0.mk (blk_grown (g := gb180) (o := .cells #[.int .i64 a0_0, .slice A0_1 l0_1.length c0_1, .slice (some ad206) l0_2.length c0_2] 25 (0, 0)) (pk BK180.out) hg (Kd.R_ne HO220.out BK180.out (by decide)))
             replace BK207 := Aside0.mk (blk_grown (g := gb207) (o := .cells #[.string ((rd_T61 l0_2 x64_2).f0), .int .i64 ((rd_T61 l0_2 x64_2).f1.f0), .int .i64 ((rd_T61 l0_2 x64_2).f1.f1), .string ((rd_T61 l0_2 x64_2).f1.f2)] 61 (0, 0)) (pk BK207.out) hg (Kd.R_ne HO220.out BK207.out (by decide)))
             replace HB := Aside0.mk (hb)
             have HO223 := Aside0.mk (ho)
             clear HO220
             clear ho hb hg hat
             refine hK.out _ _ ⟨(blk_cell BK207.out 0).trans rfl, (blk_cell BK207.out 1).trans rfl, (blk_cell BK207.out 2).trans rfl, (blk_cell BK207.out 3).trans rfl⟩ (fun hHeld => ?_)
             clear hK K
             refine norm_ (a' := ?_) ?_ ?_
             rotate_left
             ·show Act.put _ (some 102) _ = _
              exact ap
             refine pure_ (i := 11) (N := some 4) (v := ?_) (a' := ?_) #[true, true, true, true, true, true, true, true, true, true, true, true] rfl rfl (any_of HT_.out kr) (fun _ _ _ h => h) (Or.inl ⟨by rfl, ?_⟩) ?_ ?_
             rotate_left
             ·exact wl
             rotate_left
             ·exact ap
             refine done_ (done_of HT_.out kr) ?_
             try go_wp2
             go_roundg k2
             case measure => have := HK1.out; have := HK2.out; omega
             case rel => exact ⟨(y221), (wrap64 (x64_2 + 1)), hsr, H', ⟨by have := HK1.out; have := HK2.out; omega⟩, ⟨pR HO223.out⟩, ⟨pk BK180.out⟩, ⟨bl HB.out⟩⟩
            ·rw [if_neg c53] at H
             exact absurd H (by simp)
           ·rw [if_neg c50] at H
            have c50b0 : (((rd_T61 l0_2 x64_2).f1.f0) == 2) = false := beq_eq_false_iff_ne.mpr c50
            have c50b1 : (((rd_T61 l0_2 x64_2).f1.f0) != 2) = true := bne_iff_ne.mpr c50
            replace H := Option.bind_eq_some_iff.mp H
            obtain ⟨t224, A700, H⟩ := H
            replace H : ((payload_put.f k2 t214 ((rd_T61 l0_2 x64_2).f1.f1) t224).bind fun t225 => (if t225.length + ((rd_T61 l0_2 x64_2).f1.f2).size < 140737488355328 then (payload_Encode.l2 k2 (t225 ++ bytesOf ((rd_T61 l0_2 x64_2).f1.f2)) l0_2 (l0_2.length : Int) (wrap64 (x64_2 + 1))) else (none))) = some (r1, r2) := H
            have A70 := Aside0.mk A700
            clear A700
            replace H := Option.bind_eq_some_iff.mp H
            obtain ⟨t225, A710, H⟩ := H
            replace H : (if t225.length + ((rd_T61 l0_2 x64_2).f1.f2).size < 140737488355328 then (payload_Encode.l2 k2 (t225 ++ bytesOf ((rd_T61 l0_2 x64_2).f1.f2)) l0_2 (l0_2.length : Int) (wrap64 (x64_2 + 1))) else (none)) = some (r1, r2) := H
            have A71 := Aside0.mk A710
            clear A710
            by_cases c72 : t225.length + ((rd_T61 l0_2 x64_2).f1.f2).size < 140737488355328
            ·rw [if_pos c72] at H
             have LMc72 := Aside0.mk c72
             clear c72
             obtain ⟨y228, hy228⟩ : ∃ y_ : List Int, y_ = (t225 ++ bytesOf ((rd_T61 l0_2 x64_2).f1.f2)) := ⟨_, rfl⟩
             replace H : (payload_Encode.l2 k2 y228 l0_2 (l0_2.length : Int) (wrap64 (x64_2 + 1))) = some (r1, r2) := by first | (rw [hy228]; with_reducible exact H) | (have H2_ := (Option.bind_some _ _).symm.trans H; rw [hy228]; with_reducible exact H2_) | (have H2_ := (Option.bind_some _ _).symm.trans H; with_reducible exact H2_) | with_reducible exact H | (rw [hy228]; exact H) | exact H
             have Ny228 := Aside0.mk hy228
             clear hy228
             have H' := Aside0.mk H
             clear H
             have p206 : 0 ≤ (x64_2 : Int) := of_decide_eq_true ha
             have q206 : x64_2 < (l0_2.length : Int) := of_decide_eq_true ha
             obtain ⟨ad206, e206, hx206_0, hx206_1, hx206_2, hx206_3⟩ := at_T61 HR0_2.out x64_2 p206 q206
             cases e206
             replace hx206_0 := (HB.out.cell (World.block_lt_of_cell? w _ hx206_0)).trans hx206_0
             replace hx206_1 := (HB.out.cell (World.block_lt_of_cell? w _ hx206_1)).trans hx206_1
             replace hx206_2 := (HB.out.cell (World.block_lt_of_cell? w _ hx206_2)).trans hx206_2
             replace hx206_3 := (HB.out.cell (World.block_lt_of_cell? w _ hx206_3)).trans hx206_3
             replace p206 := eq_true p206
             replace q206 := eq_true q206
             try go_wp2_with (first | ((with_reducible refine gate_dst (N := 10) rfl ?_); refine box_event ?hg (N := 10) ?hd (cs := #[.string (⟨#[]⟩ : ByteArray), .int .i64 0, .int .i64 0, .string (⟨#[]⟩ : ByteArray)]) (t := 61) ?hr ?_; (case hd => rfl); (case hg => rfl); (case hr => first | (go_simp; done) | (go_simp; rfl)); intro gb207 hg w73 hbox hb; replace HO_4 := Aside0.mk (Kd.R_below (pR HO_4.out) hb); have BK207 := Aside0.mk (hbox); have GW207 := Aside0.mk (gs (w := w) hg (bl HB.out)); have GE207 := Aside0.mk (gs (w := w) hg (bl HB.out)); replace HB := Aside0.mk (below_step (bl HB.out) hb); have NB180_207 := Aside0.mk ((gl (g := gb180) hg (pk BK180.out))); have NB207_180 := Aside0.mk ((gm (g := gb180) hg (pk BK180.out))); replace BK180 := Aside0.mk (blk_below (pk BK180.out) hb); clear hb hbox hg; have hnb74 := NB207_180.out; have hnc74 := NB180_207.out; obtain ⟨hcz75_0, hcz75_1, hcz75_2, hcz75_3, hfz75_0, hfz75_1, hfz75_2, hfz75_3⟩ := cz4 BK207.out))
             have n0_ : Aside0 (Kd.R (Kd.int .u8) 5 ((((w73.setCell ⟨gb207, 0, none⟩ (.string ((rd_T61 l0_2 x64_2).f0))).setCell ⟨gb207, 1, none⟩ (.int .i64 ((rd_T61 l0_2 x64_2).f1.f0))).setCell ⟨gb207, 2, none⟩ (.int .i64 ((rd_T61 l0_2 x64_2).f1.f1))).setCell ⟨gb207, 3, none⟩ (.string ((rd_T61 l0_2 x64_2).f1.f2))) w.heap.size (fun _ => True) u4 x4_2) := ⟨by (with_reducible repeat (first | apply Kd.R_alloc | apply Kd.R_drewN | apply Kd.R_drew)); exact Kd.R_mono (Kd.R_far (p := ⟨gb207, 3, none⟩) (Kd.R_far (p := ⟨gb207, 2, none⟩) (Kd.R_far (p := ⟨gb207, 1, none⟩) (Kd.R_far (p := ⟨gb207, 0, none⟩) (Kd.R_types HO_4.out BK207.out (by decide)) (fun _ hk => hk.2) (.string ((rd_T61 l0_2 x64_2).f0))) (fun _ hk => hk.2) (.int .i64 ((rd_T61 l0_2 x64_2).f1.f0))) (fun _ hk => hk.2) (.int .i64 ((rd_T61 l0_2 x64_2).f1.f1))) (fun _ hk => hk.2) (.string ((rd_T61 l0_2 x64_2).f1.f2))) (fun _ hk => trivial)⟩
             have n1_ : Aside0 (((((w73.setCell ⟨gb207, 0, none⟩ (.string ((rd_T61 l0_2 x64_2).f0))).setCell ⟨gb207, 1, none⟩ (.int .i64 ((rd_T61 l0_2 x64_2).f1.f0))).setCell ⟨gb207, 2, none⟩ (.int .i64 ((rd_T61 l0_2 x64_2).f1.f1))).setCell ⟨gb207, 3, none⟩ (.string ((rd_T61 l0_2 x64_2).f1.f2))).heap[gb180]? = some (.cells #[.int .i64 a0_0, .slice A0_1 l0_1.length c0_1, .slice (some ad206) l0_2.length c0_2] 25 (0, 0))) := ⟨by refine pk ?_; refine blk_far ?_ NB180_207.out _; refine pk ?_; refine blk_far ?_ NB180_207.out _; refine pk ?_; refine blk_far ?_ NB180_207.out _; refine pk ?_; refine blk_far ?_ NB180_207.out _; exact pk BK180.out⟩
             have n2_ : Aside0 (((((w73.setCell ⟨gb207, 0, none⟩ (.string ((rd_T61 l0_2 x64_2).f0))).setCell ⟨gb207, 1, none⟩ (.int .i64 ((rd_T61 l0_2 x64_2).f1.f0))).setCell ⟨gb207, 2, none⟩ (.int .i64 ((rd_T61 l0_2 x64_2).f1.f1))).setCell ⟨gb207, 3, none⟩ (.string ((rd_T61 l0_2 x64_2).f1.f2))).heap[gb207]? = some (.cells #[.string ((rd_T61 l0_2 x64_2).f0), .int .i64 ((rd_T61 l0_2 x64_2).f1.f0), .int .i64 ((rd_T61 l0_2 x64_2).f1.f1), .string ((rd_T61 l0_2 x64_2).f1.f2)] 61 (0, 0))) := ⟨by refine pk ?_; refine blk_put (cs := #[.string ((rd_T61 l0_2 x64_2).f0), .int .i64 ((rd_T61 l0_2 x64_2).f1.f0), .int .i64 ((rd_T61 l0_2 x64_2).f1.f1), .string (⟨#[]⟩ : ByteArray)]) ?_ 3 _ rfl; refine pk ?_; refine blk_put (cs := #[.string ((rd_T61 l0_2 x64_2).f0), .int .i64 ((rd_T61 l0_2 x64_2).f1.f0), .int .i64 0, .string (⟨#[]⟩ : ByteArray)]) ?_ 2 _ rfl; refine pk ?_; refine blk_put (cs := #[.string ((rd_T61 l0_2 x64_2).f0), .int .i64 0, .int .i64 0, .string (⟨#[]⟩ : ByteArray)]) ?_ 1 _ rfl; refine pk ?_; refine blk_put (cs := #[.string (⟨#[]⟩ : ByteArray), .int .i64 0, .int .i64 0, .string (⟨#[]⟩ : ByteArray)]) ?_ 0 _ rfl; exact pk BK207.out⟩
             have n3_ : Aside0 (Below w.heap.size w ((((w73.setCell ⟨gb207, 0, none⟩ (.string ((rd_T61 l0_2 x64_2).f0))).setCell ⟨gb207, 1, none⟩ (.int .i64 ((rd_T61 l0_2 x64_2).f1.f0))).setCell ⟨gb207, 2, none⟩ (.int .i64 ((rd_T61 l0_2 x64_2).f1.f1))).setCell ⟨gb207, 3, none⟩ (.string ((rd_T61 l0_2 x64_2).f1.f2)))) := ⟨bl HB.out⟩
             (try clear HO_4)
             (try clear BK180)
             (try clear BK207)
             (try clear HB)
             generalize ((((w73.setCell ⟨gb207, 0, none⟩ (.string ((rd_T61 l0_2 x64_2).f0))).setCell ⟨gb207, 1, none⟩ (.int .i64 ((rd_T61 l0_2 x64_2).f1.f0))).setCell ⟨gb207, 2, none⟩ (.int .i64 ((rd_T61 l0_2 x64_2).f1.f1))).setCell ⟨gb207, 3, none⟩ (.string ((rd_T61 l0_2 x64_2).f1.f2))) = w76 at n0_ n1_ n2_ n3_ ⊢
             have HO_4 := n0_
             have BK180 := n1_
             have BK207 := n2_
             have HB := n3_
             clear n0_ n1_ n2_ n3_
             replace HO_4 := Aside0.mk (Kd.R_drew HO_4.out)
             replace BK180 := Aside0.mk (blk_drew BK180.out)
             replace BK207 := Aside0.mk (blk_drew BK207.out)
             replace HB := Aside0.mk (below_drew1 HB.out)
             obtain ⟨Ao78, co78, eo78⟩ := Kd.R_slice HO_4.out
             (first | subst eo78 | (injection eo78 with f1_ f2_ f3_; have f4_ := f1_.symm; have f5_ := f3_.symm; clear f1_ f2_ f3_; subst f4_; subst f5_))
             refine start_ (n := 9) (S := fun w' => w'.cell? ⟨gb207, 0, none⟩ = some (.string ((rd_T61 l0_2 x64_2).f0)) ∧ w'.cell? ⟨gb207, 1, none⟩ = some (.int .i64 ((rd_T61 l0_2 x64_2).f1.f0)) ∧ w'.cell? ⟨gb207, 2, none⟩ = some (.int .i64 ((rd_T61 l0_2 x64_2).f1.f1)) ∧ w'.cell? ⟨gb207, 3, none⟩ = some (.string ((rd_T61 l0_2 x64_2).f1.f2))) (ds := []) #[false, false, false, false, false, false, false, false, false] kr rfl rfl ⟨(blk_cell BK207.out 0).trans rfl, (blk_cell BK207.out 1).trans rfl, (blk_cell BK207.out 2).trans rfl, (blk_cell BK207.out 3).trans rfl⟩ (fun hHeld => ?_); refine with_tabW payload_Encode.tab20 payload_Encode.bits20 (fun HT_ HW_ => ?_)
             generalize w76.drew = w77 at HO_4 BK180 BK207 HB hHeld ⊢
             refine pure_ (i := 0) (N := some 68) (v := ?_) (a' := ?_) #[true, false, false, false, false, false, false, false, false] rfl rfl (any_of HT_.out kr) (fun _ _ _ h => h) (Or.inl ⟨by rfl, ?_⟩) ?_ ?_
             rotate_left
             ·exact wl
             rotate_left
             ·exact ap
             refine pure_ (i := 1) (N := some 69) (v := ?_) (a' := ?_) #[true, true, false, false, false, false, false, false, false] rfl rfl (any_of HT_.out kr) (fun _ _ _ h => h) (Or.inl ⟨by rfl, ?_⟩) ?_ ?_
             rotate_left
             ·exact wl
             rotate_left
             ·exact ap
             refine pure_ (i := 5) (N := some 73) (v := ?_) (a' := ?_) #[true, true, false, false, false, true, false, false, false] rfl rfl (any_of HT_.out kr) (fun _ _ _ h => h) (Or.inl ⟨by rfl, ?_⟩) ?_ ?_
             rotate_left
             ·exact wl
             rotate_left
             ·exact ap
             refine take_ (i := 2) (N := some 70) (v := ?_) (a' := ?_) #[true, true, true, false, false, true, false, false, false] rfl rfl (take_ofW HT_.out HW_.out kr) (fun _ _ _ h => h) (Or.inl ⟨by rfl, ?_⟩) hHeld ?_ ?_
             rotate_left
             ·rintro w' ⟨s0, s1, s2, s3⟩
              go_simp
              exact rl
             rotate_left
             ·exact ap
             refine pure_ (i := 3) (N := some 71) (v := ?_) (a' := ?_) #[true, true, true, true, false, true, false, false, false] rfl rfl (any_of HT_.out kr) (fun _ _ _ h => h) (Or.inl ⟨by rfl, ?_⟩) ?_ ?_
             rotate_left
             ·exact wl
             rotate_left
             ·exact ap
             refine take_ (i := 6) (N := some 74) (v := ?_) (a' := ?_) #[true, true, true, true, false, true, true, false, false] rfl rfl (take_ofW HT_.out HW_.out kr) (fun _ _ _ h => h) (Or.inl ⟨by rfl, ?_⟩) hHeld ?_ ?_
             rotate_left
             ·rintro w' ⟨s0, s1, s2, s3⟩
              go_simp
              exact rl
             rotate_left
             ·exact ap
             refine one_ (i := 4) (N := some 72) #[true, true, true, true, true, true, true, false, false] rfl rfl (one_of HT_.out kr) (by decide) (fun K hK => ?_)
             refine goes_ Tryd.func31 kr rfl #[.slice Ao78 x4_2.length co78, .int .i64 (((rd_T61 l0_2 x64_2).f0).size : Int), .int .i64 1] (by rfl) rfl rfl ga ?_
             with_reducible refine (payload_put.calls k2 (fun k_ => some k_ = (.slice Ao78 x4_2.length co78 : Value).ownBlock) (.slice Ao78 x4_2.length co78) x4_2 (((rd_T61 l0_2 x64_2).f0).size : Int) 1 t208 w _ ?side1 ?side2 A47.out).mono ?_
             (case side1 => exact bl HB.out)
             (case side2 => exact Kd.R_tight rfl HO_4.out)
             rintro e w79 ⟨v209, rfl, ho0, hb, hkp⟩
             refine ⟨_, rfl, ?_⟩
             replace BK180 := Aside0.mk (blk_kept (pk BK180.out) hkp (fun hs_ => (fun e_ => (Kd.R_ne HO_4.out BK180.out (by decide)) e_) hs_))
             replace BK207 := Aside0.mk (blk_kept (pk BK207.out) hkp (fun hs_ => (fun e_ => (Kd.R_ne HO_4.out BK207.out (by decide)) e_) hs_))
             have HO210 := Aside0.mk (Kd.R_mono (ok' := fun k_ => True) ho0 (fun k_ hk_ => trivial))
             replace HB := Aside0.mk (hb)
             clear HO_4
             (try clear hb)
             (try clear hkp)
             (try clear ho0)
             refine hK.out _ _ ⟨(blk_cell BK207.out 0).trans rfl, (blk_cell BK207.out 1).trans rfl, (blk_cell BK207.out 2).trans rfl, (blk_cell BK207.out 3).trans rfl⟩ (fun hHeld => ?_)
             clear hK K
             refine norm_ (a' := ?_) ?_ ?_
             rotate_left
             ·show Act.put _ (some 72) _ = _
              exact ap
             refine one_ (i := 7) (N := some 75) #[true, true, true, true, true, true, true, true, false] rfl rfl (one_of HT_.out kr) (by decide) (fun K hK => ?_)
             refine print_append_str2_step (w0 := w) w.heap.size (by rfl) (.tmp 72) _ 66 9 5 rfl Tryd.underlying66 Tryd.underlying9 info5 v209 t208 ((rd_T61 l0_2 x64_2).f0) rfl rfl ?aO ?aB ?aS ?aL ?_
             (case aB => exact (bl HB.out))
             (case aO => exact (Kd.own_of_R (pR HO210.out)))
             (case aS => exact (below_size (bl HB.out)))
             (case aL => have := LMc48.out; omega)
             intro v212 w80 ho0 hb hg hat0
             have ho := Kd.R_of_own (h1 := fun _ => rfl) (ok := (fun _ => True)) ho0 (fun _ _ => trivial)
             clear ho0
             clear hat0
             have hat := True.intro
             rw [← Ny211.out] at ho
             change Kd.R (Kd.int .u8) 5 w80 w.heap.size (fun _ => True) v212 y211 at ho
             replace BK180 := Aside0.mk (blk_grown (g := gb180) (o := .cells #[.int .i64 a0_0, .slice A0_1 l0_1.length c0_1, .slice (some ad206) l0_2.length c0_2] 25 (0, 0)) (pk BK180.out) hg (Kd.R_ne HO210.out BK180.out (by decide)))
             replace BK207 := Aside0.mk (blk_grown (g := gb207) (o := .cells #[.string ((rd_T61 l0_2 x64_2).f0), .int .i64 ((rd_T61 l0_2 x64_2).f1.f0), .int .i64 ((rd_T61 l0_2 x64_2).f1.f1), .string ((rd_T61 l0_2 x64_2).f1.f2)] 61 (0, 0)) (pk BK207.out) hg (Kd.R_ne HO210.out BK207.out (by decide)))
             replace HB := Aside0.mk (hb)
             have HO213 := Aside0.mk (ho)
             clear HO210
             clear ho hb hg hat
             refine hK.out _ _ ⟨(blk_cell BK207.out 0).trans rfl, (blk_cell BK207.out 1).trans rfl, (blk_cell BK207.out 2).trans rfl, (blk_cell BK207.out 3).trans rfl⟩ (fun hHeld => ?_)
             clear hK K
             refine norm_ (a' := ?_) ?_ ?_
             rotate_left
             ·show Act.put _ (some 75) _ = _
              exact ap
             refine pure_ (i := 8) (N := some 4) (v := ?_) (a' := ?_) #[true, true, true, true, true, true, true, true, true] rfl rfl (any_of HT_.out kr) (fun _ _ _ h => h) (Or.inl ⟨by rfl, ?_⟩) ?_ ?_
             rotate_left
             ·exact wl
             rotate_left
             ·exact ap
             refine done_ (done_of HT_.out kr) ?_
             obtain ⟨hcz81_0, hcz81_1, hcz81_2, hcz81_3, hfz81_0, hfz81_1, hfz81_2, hfz81_3⟩ := cz4 BK207.out
             obtain ⟨Ao82, co82, eo82⟩ := Kd.R_slice HO213.out
             subst eo82
             try go_wp2_with (first | ((with_reducible refine gate_callee (f := 31) rfl ?_); refine goesL_ (some 80) rfl rfl Tryd.func31 kr rfl #[.slice Ao82 y211.length co82, .int .i64 ((rd_T61 l0_2 x64_2).f1.f0), .int .i64 1] rfl ga ?_; (with_reducible refine (payload_put.calls k2 (fun k_ => some k_ = (.slice Ao82 y211.length co82 : Value).ownBlock) (.slice Ao82 y211.length co82) y211 ((rd_T61 l0_2 x64_2).f1.f0) 1 t214 w _ ?side1 ?side2 A49.out).mono ?_); (case side1 => exact bl HB.out); (case side2 => exact Kd.R_tight rfl HO213.out); rintro e w83 ⟨v215, rfl, ho0, hb, hkp⟩; refine ⟨_, rfl, ?_⟩; replace BK180 := Aside0.mk (blk_kept (pk BK180.out) hkp (fun hs_ => (fun e_ => (Kd.R_ne HO213.out BK180.out (by decide)) e_) hs_)); replace BK207 := Aside0.mk (blk_kept (pk BK207.out) hkp (fun hs_ => (fun e_ => (Kd.R_ne HO213.out BK207.out (by decide)) e_) hs_)); have HO216 := Aside0.mk (Kd.R_mono (ok' := fun k_ => True) ho0 (fun k_ hk_ => trivial)); replace HB := Aside0.mk (hb); clear HO213; (try clear hb); (try clear hkp); (try clear ho0); obtain ⟨hcz84_0, hcz84_1, hcz84_2, hcz84_3, hfz84_0, hfz84_1, hfz84_2, hfz84_3⟩ := cz4 BK207.out))
             replace HO216 := Aside0.mk (Kd.R_drew HO216.out)
             replace BK180 := Aside0.mk (blk_drew BK180.out)
             replace BK207 := Aside0.mk (blk_drew BK207.out)
             replace HB := Aside0.mk (below_drew1 HB.out)
             refine start_ (n := 12) (S := fun w' => w'.cell? ⟨gb207, 0, none⟩ = some (.string ((rd_T61 l0_2 x64_2).f0)) ∧ w'.cell? ⟨gb207, 1, none⟩ = some (.int .i64 ((rd_T61 l0_2 x64_2).f1.f0)) ∧ w'.cell? ⟨gb207, 2, none⟩ = some (.int .i64 ((rd_T61 l0_2 x64_2).f1.f1)) ∧ w'.cell? ⟨gb207, 3, none⟩ = some (.string ((rd_T61 l0_2 x64_2).f1.f2))) (ds := []) #[false, false, false, false, false, false, false, false, false, false, false, false] kr rfl rfl ⟨(blk_cell BK207.out 0).trans rfl, (blk_cell BK207.out 1).trans rfl, (blk_cell BK207.out 2).trans rfl, (blk_cell BK207.out 3).trans rfl⟩ (fun hHeld => ?_); refine with_tabW payload_Encode.tab25 payload_Encode.bits25 (fun HT_ HW_ => ?_)
             generalize w83.drew = w85 at HO216 BK180 BK207 HB hHeld ⊢
             refine pure_ (i := 0) (N := some 92) (v := ?_) (a' := ?_) #[true, false, false, false, false, false, false, false, false, false, false, false] rfl rfl (any_of HT_.out kr) (fun _ _ _ h => h) (Or.inl ⟨by rfl, ?_⟩) ?_ ?_
             rotate_left
             ·exact wl
             rotate_left
             ·exact ap
             refine pure_ (i := 1) (N := some 93) (v := ?_) (a' := ?_) #[true, true, false, false, false, false, false, false, false, false, false, false] rfl rfl (any_of HT_.out kr) (fun _ _ _ h => h) (Or.inl ⟨by rfl, ?_⟩) ?_ ?_
             rotate_left
             ·exact wl
             rotate_left
             ·exact ap
             refine pure_ (i := 2) (N := some 94) (v := ?_) (a' := ?_) #[true, true, true, false, false, false, false, false, false, false, false, false] rfl rfl (any_of HT_.out kr) (fun _ _ _ h => h) (Or.inl ⟨by rfl, ?_⟩) ?_ ?_
             rotate_left
             ·exact wl
             rotate_left
             ·exact ap
             refine pure_ (i := 3) (N := some 95) (v := ?_) (a' := ?_) #[true, true, true, true, false, false, false, false, false, false, false, false] rfl rfl (any_of HT_.out kr) (fun _ _ _ h => h) (Or.inl ⟨by rfl, ?_⟩) ?_ ?_
             rotate_left
             ·exact wl
             rotate_left
             ·exact ap
             refine pure_ (i := 7) (N := some 99) (v := ?_) (a' := ?_) #[true, true, true, true, false, false, false, true, false, false, false, false] rfl rfl (any_of HT_.out kr) (fun _ _ _ h => h) (Or.inl ⟨by rfl, ?_⟩) ?_ ?_
             rotate_left
             ·exact wl
             rotate_left
             ·exact ap
             refine pure_ (i := 8) (N := some 100) (v := ?_) (a' := ?_) #[true, true, true, true, false, false, false, true, true, false, false, false] rfl rfl (any_of HT_.out kr) (fun _ _ _ h => h) (Or.inl ⟨by rfl, ?_⟩) ?_ ?_
             rotate_left
             ·exact wl
             rotate_left
             ·exact ap
             refine take_ (i := 4) (N := some 96) (v := ?_) (a' := ?_) #[true, true, true, true, true, false, false, true, true, false, false, false] rfl rfl (take_ofW HT_.out HW_.out kr) (fun _ _ _ h => h) (Or.inl ⟨by rfl, ?_⟩) hHeld ?_ ?_
             rotate_left
             ·rintro w' ⟨s0, s1, s2, s3⟩
              go_simp
              exact rl
             rotate_left
             ·exact ap
             refine take_ (i := 9) (N := some 101) (v := ?_) (a' := ?_) #[true, true, true, true, true, false, false, true, true, true, false, false] rfl rfl (take_ofW HT_.out HW_.out kr) (fun _ _ _ h => h) (Or.inl ⟨by rfl, ?_⟩) hHeld ?_ ?_
             rotate_left
             ·rintro w' ⟨s0, s1, s2, s3⟩
              go_simp
              exact rl
             rotate_left
             ·exact ap
             refine one_ (i := 5) (N := some 97) #[true, true, true, true, true, true, false, true, true, true, false, false] rfl rfl (one_of HT_.out kr) (by decide) (fun K hK => ?_)
             refine goes_ Tryd.func32 kr rfl #[.int .i64 ((rd_T61 l0_2 x64_2).f1.f0)] (by rfl) rfl rfl ga ?_
             with_reducible refine (payload_width.calls ((rd_T61 l0_2 x64_2).f1.f0) t224 _ A70.out).mono ?_
             rintro e w' ⟨rfl, ⟨nd, rfl⟩⟩
             refine ⟨_, rfl, ?_⟩
             obtain ⟨Ao86, co86, eo86⟩ := Kd.R_slice HO216.out
             (first | subst eo86 | (injection eo86 with f1_ f2_ f3_; have f4_ := f1_.symm; have f5_ := f3_.symm; clear f1_ f2_ f3_; subst f4_; subst f5_))
             refine hK.out _ _ ⟨(blk_cell BK207.out 0).trans rfl, (blk_cell BK207.out 1).trans rfl, (blk_cell BK207.out 2).trans rfl, (blk_cell BK207.out 3).trans rfl⟩ (fun hHeld => ?_)
             clear hK K
             refine norm_ (a' := ?_) ?_ ?_
             rotate_left
             ·show Act.put _ (some 97) _ = _
              exact ap
             refine one_ (i := 6) (N := some 98) #[true, true, true, true, true, true, true, true, true, true, false, false] rfl rfl (one_of HT_.out kr) (by decide) (fun K hK => ?_)
             refine goes_ Tryd.func31 kr rfl #[.slice Ao86 t214.length co86, .int .i64 ((rd_T61 l0_2 x64_2).f1.f1), .int .i64 t224] (by rfl) rfl rfl ga ?_
             with_reducible refine (payload_put.calls k2 (fun k_ => some k_ = (.slice Ao86 t214.length co86 : Value).ownBlock) (.slice Ao86 t214.length co86) t214 ((rd_T61 l0_2 x64_2).f1.f1) t224 t225 w _ ?side1 ?side2 A71.out).mono ?_
             (case side1 => exact bl HB.out)
             (case side2 => exact Kd.R_tight rfl HO216.out)
             rintro e w87 ⟨v226, rfl, ho0, hb, hkp⟩
             refine ⟨_, rfl, ?_⟩
             replace BK180 := Aside0.mk (blk_kept (pk BK180.out) hkp (fun hs_ => (fun e_ => (Kd.R_ne HO216.out BK180.out (by decide)) e_) hs_))
             replace BK207 := Aside0.mk (blk_kept (pk BK207.out) hkp (fun hs_ => (fun e_ => (Kd.R_ne HO216.out BK207.out (by decide)) e_) hs_))
             have HO227 := Aside0.mk (Kd.R_mono (ok' := fun k_ => True) ho0 (fun k_ hk_ => trivial))
             replace HB := Aside0.mk (hb)
             clear HO216
             (try clear hb)
             (try clear hkp)
             (try clear ho0)
             refine hK.out _ _ ⟨(blk_cell BK207.out 0).trans rfl, (blk_cell BK207.out 1).trans rfl, (blk_cell BK207.out 2).trans rfl, (blk_cell BK207.out 3).trans rfl⟩ (fun hHeld => ?_)
             clear hK K
             refine norm_ (a' := ?_) ?_ ?_
             rotate_left
             ·show Act.put _ (some 98) _ = _
              exact ap
             refine one_ (i := 10) (N := some 102) #[true, true, true, true, true, true, true, true, true, true, true, false] rfl rfl (one_of HT_.out kr) (by decide) (fun K hK => ?_)
             refine print_append_str2_step (w0 := w) w.heap.size (by rfl) (.tmp 98) _ 66 9 5 rfl Tryd.underlying66 Tryd.underlying9 info5 v226 t225 ((rd_T61 l0_2 x64_2).f1.f2) rfl rfl ?aO ?aB ?aS ?aL ?_
             (case aB => exact (bl HB.out))
             (case aO => exact (Kd.own_of_R (pR HO227.out)))
             (case aS => exact (below_size (bl HB.out)))
             (case aL => have := LMc72.out; omega)
             intro v229 w88 ho0 hb hg hat0
             have ho := Kd.R_of_own (h1 := fun _ => rfl) (ok := (fun _ => True)) ho0 (fun _ _ => trivial)
             clear ho0
             clear hat0
             have hat := True.intro
             rw [← Ny228.out] at ho
             change Kd.R (Kd.int .u8) 5 w88 w.heap.size (fun _ => True) v229 y228 at ho
             replace BK180 := Aside0.mk (blk_grown (g := gb180) (o := .cells #[.int .i64 a0_0, .slice A0_1 l0_1.length c0_1, .slice (some ad206) l0_2.length c0_2] 25 (0, 0)) (pk BK180.out) hg (Kd.R_ne HO227.out BK180.out (by decide)))
             replace BK207 := Aside0.mk (blk_grown (g := gb207) (o := .cells #[.string ((rd_T61 l0_2 x64_2).f0), .int .i64 ((rd_T61 l0_2 x64_2).f1.f0), .int .i64 ((rd_T61 l0_2 x64_2).f1.f1), .string ((rd_T61 l0_2 x64_2).f1.f2)] 61 (0, 0)) (pk BK207.out) hg (Kd.R_ne HO227.out BK207.out (by decide)))
             replace HB := Aside0.mk (hb)
             have HO230 := Aside0.mk (ho)
             clear HO227
             clear ho hb hg hat
             refine hK.out _ _ ⟨(blk_cell BK207.out 0).trans rfl, (blk_cell BK207.out 1).trans rfl, (blk_cell BK207.out 2).trans rfl, (blk_cell BK207.out 3).trans rfl⟩ (fun hHeld => ?_)
             clear hK K
             refine norm_ (a' := ?_) ?_ ?_
             rotate_left
             ·show Act.put _ (some 102) _ = _
              exact ap
             refine pure_ (i := 11) (N := some 4) (v := ?_) (a' := ?_) #[true, true, true, true, true, true, true, true, true, true, true, true] rfl rfl (any_of HT_.out kr) (fun _ _ _ h => h) (Or.inl ⟨by rfl, ?_⟩) ?_ ?_
             rotate_left
             ·exact wl
             rotate_left
             ·exact ap
             refine done_ (done_of HT_.out kr) ?_
             try go_wp2
             go_roundg k2
             case measure => have := HK1.out; have := HK2.out; omega
             case rel => exact ⟨(y228), (wrap64 (x64_2 + 1)), hsr, H', ⟨by have := HK1.out; have := HK2.out; omega⟩, ⟨pR HO230.out⟩, ⟨pk BK180.out⟩, ⟨bl HB.out⟩⟩
            ·rw [if_neg c72] at H
             exact absurd H (by simp)
          ·rw [if_neg c48] at H
           exact absurd H (by simp)
         ·rw [if_neg c46] at H
          exact absurd H (by simp)
        ·rw [if_neg c45] at H
         exact absurd H (by simp)
       ·rw [if_neg c44] at H
        have c44b0 : decide (x64_2 < (l0_2.length : Int)) = false := decide_eq_false c44
        clear c44
        simp only [Option.some.injEq, Prod.mk.injEq] at H
        obtain ⟨rfl, rfl⟩ := H
        have hcv89 := own_string (P := Tryd.prog) Tryd.underlying66 Tryd.underlying5 Tryd.underlying9 (Kd.own_of_R HO_4.out)
        go_wp2
        go_ret2
        exact ⟨er0, bl HB.out⟩
 ·replace c3 := Bool.eq_false_iff.mpr c3
  subst c3
  have H1 : (some ((⟨#[]⟩ : ByteArray), 120)) = some (r1, r2) := by rw [if_neg (show ¬ (false = true) by decide)] at H; exact H
  clear H
  have H := H1
  clear H1
  simp only [Option.some.injEq, Prod.mk.injEq] at H
  obtain ⟨rfl, rfl⟩ := H
  go_enter Tryd.func13, Tryd.ntmps13
  go_wp2_with (first | ((with_reducible refine gate_dst (N := 1) rfl ?_); refine box_event ?hg (N := 1) ?hd (cs := #[.int .i64 a0_0, .slice A0_1 l0_1.length c0_1, .slice A0_2 l0_2.length c0_2]) (t := 25) ?hr ?_; (case hd => rfl); (case hg => rfl); (case hr => first | (go_simp; done) | (go_simp; rfl)); intro gb180 hg w90 hbox hb; have BK180 := Aside0.mk (hbox); have GW180 := Aside0.mk (gs (w := w) hg (bl HB.out)); have GE180 := Aside0.mk (gs (w := w) hg (bl HB.out)); replace HB := Aside0.mk (below_step (bl HB.out) hb); clear hb hbox hg; obtain ⟨hcz91_0, hcz91_1, hcz91_2, hfz91_0, hfz91_1, hfz91_2⟩ := cz3 BK180.out) | ((with_reducible refine gate_callee (f := 30) rfl ?_); refine goesL_ (some 13) rfl rfl Tryd.func30 kr rfl #[.agg #[.int .i64 a0_0, .slice A0_1 l0_1.length c0_1, .slice A0_2 l0_2.length c0_2]] rfl ga ?_; (with_reducible refine (payload_may.calls k a0_0 _ _ l0_1 _ _ l0_2 false _ ?side1 ?side2 ?side3 ?side4 ?side5 A2.out).mono ?_); (case side1 => repeat (first | exact (Kd.C_below HR0_1.out HB.out) | (with_reducible refine Kd.C_alloc ?_ _) | (with_reducible refine Kd.C_drewN ?_ _) | (with_reducible refine Kd.C_drew ?_))); (case side2 => exact HC0_1.out); (case side3 => repeat (first | exact (Kd.C_below HR0_2.out HB.out) | (with_reducible refine Kd.C_alloc ?_ _) | (with_reducible refine Kd.C_drewN ?_ _) | (with_reducible refine Kd.C_drew ?_))); (case side4 => exact HC0_2.out); (case side5 => exact LaidU.below HU.out (bl HB.out)); rintro e w92 ⟨rfl, hb⟩; refine ⟨_, rfl, ?_⟩; replace BK180 := Aside0.mk (blk_below (pk BK180.out) hb); replace HB := Aside0.mk (below_step (bl HB.out) hb); (try clear hb); (try clear hb2); (try clear hk); (try clear hi)))
  go_ret2
  exact ⟨er0, bl HB.out⟩

end Go.Proofs.YtbeljekpknpadaaDoor.PPayU
