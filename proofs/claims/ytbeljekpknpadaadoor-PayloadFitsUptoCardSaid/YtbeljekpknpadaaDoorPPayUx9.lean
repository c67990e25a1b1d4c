-- Written by a program of this session on top of the print: some functions by hand.
import Derived.Test.YtbeljekpknpadaaDoorPPayUx0
import Derived.Test.YtbeljekpknpadaaDoorPPayUx6
import Derived.Test.YtbeljekpknpadaaDoorPPayUx8
namespace Go.Proofs.YtbeljekpknpadaaDoor.PPayU
open Go.RowKit Go.Proofs.YtbeljekpknpadaaDoorW.PrintWords Go.Proofs.YtbeljekpknpadaaDoorW.PrintLast Go.Proofs.YtbeljekpknpadaaDoorW.PrintMore
attribute [local go_sem] max2_int min2_int max_two min_two max_three min_three max_four min_four   -- for this text's walks alone
set_option linter.unusedVariables false
set_option linter.unusedSimpArgs false

/-! ### lodestarlaw05_awake: function 12 -/
def lodestarlaw05_awake.f (k : Nat)  : Option (Bool) := (payload_Encode.f k 1 (([(⟨(⟨#[118]⟩ : ByteArray), (([1, (-1)] : List Int))⟩ : S59)] : List (S59))) (([(⟨(⟨#[111, 112, 101, 110]⟩ : ByteArray), (⟨3, 1, (⟨#[]⟩ : ByteArray)⟩ : S33)⟩ : S61)] : List (S61)))).bind fun bt241 => ((payload_Encode.f k 1 ([] : List (S59)) ([] : List (S61))).bind fun bt243 => (if bt241.1.toList = ([1, 0, 0, 0, 0, 0, 0, 0, 1, 1, 118, 2, 1, 128, 255, 127, 1, 4, 111, 112, 101, 110, 3, 1] : List UInt8) then (if bt241.2 = 0 then (some (bt243.2 == 120)) else (some false)) else (some false)))
theorem lodestarlaw05_awake.mono : ∀ k, LeO (lodestarlaw05_awake.f k ) (lodestarlaw05_awake.f (k + 1) ) := by
 intro  k
 unfold lodestarlaw05_awake.f
 repeat' first
   | (with_reducible exact payload_Encode.mono _ _ _ _)
   | (with_reducible exact LeO.refl _)
   | (with_reducible exact LeO.none _)
   | (with_reducible refine LeO.ite ?_ ?_)
   | (with_reducible refine LeO.bind ?_ (fun _ => ?_))
   | exact payload_Encode.mono _ _ _ _
   | exact LeO.none _
   | refine LeO.ite ?_ ?_
   | refine LeO.bind ?_ (fun _ => ?_)
set_option maxHeartbeats 8000000 in
set_option maxRecDepth 100000 in
theorem lodestarlaw05_awake.calls (k : Nat)  (r : Bool) (w : World) (hU : LaidU w) (h : lodestarlaw05_awake.f k  = some r) :
  Calls Tryd.prog 12 #[] w fun e w' => e = .returned (.bool r) ∧ Below w.heap.size w w' := by
 have hu59 := Tryd.underlying59
 have hu33 := Tryd.underlying33
 have hu61 := Tryd.underlying61
 have hu25 := Tryd.underlying25
 have HU := Aside0.mk hU
 clear hU
 have HB := Aside0.mk (Below.refl w.heap.size w)
 have H : ((payload_Encode.f k 1 (([(⟨(⟨#[118]⟩ : ByteArray), (([1, (-1)] : List Int))⟩ : S59)] : List (S59))) (([(⟨(⟨#[111, 112, 101, 110]⟩ : ByteArray), (⟨3, 1, (⟨#[]⟩ : ByteArray)⟩ : S33)⟩ : S61)] : List (S61)))).bind fun bt241 => ((payload_Encode.f k 1 ([] : List (S59)) ([] : List (S61))).bind fun bt243 => (if bt241.1.toList = ([1, 0, 0, 0, 0, 0, 0, 0, 1, 1, 118, 2, 1, 128, 255, 127, 1, 4, 111, 112, 101, 110, 3, 1] : List UInt8) then (if bt241.2 = 0 then (some (bt243.2 == 120)) else (some false)) else (some false)))) = some r := h
 clear h
 obtain ⟨y231, hy231⟩ : ∃ y_ : List Int, y_ = (([1, (-1)] : List Int)) := ⟨_, rfl⟩
 replace H : ((payload_Encode.f k 1 (([(⟨(⟨#[118]⟩ : ByteArray), y231⟩ : S59)] : List (S59))) (([(⟨(⟨#[111, 112, 101, 110]⟩ : ByteArray), (⟨3, 1, (⟨#[]⟩ : ByteArray)⟩ : S33)⟩ : S61)] : List (S61)))).bind fun bt241 => ((payload_Encode.f k 1 ([] : List (S59)) ([] : List (S61))).bind fun bt243 => (if bt241.1.toList = ([1, 0, 0, 0, 0, 0, 0, 0, 1, 1, 118, 2, 1, 128, 255, 127, 1, 4, 111, 112, 101, 110, 3, 1] : List UInt8) then (if bt241.2 = 0 then (some (bt243.2 == 120)) else (some false)) else (some false)))) = some r := by first | (rw [hy231]; with_reducible exact H) | (have H2_ := (Option.bind_some _ _).symm.trans H; rw [hy231]; with_reducible exact H2_) | (have H2_ := (Option.bind_some _ _).symm.trans H; with_reducible exact H2_) | with_reducible exact H | (rw [hy231]; exact H) | exact H
 have Ny231 := Aside0.mk hy231
 clear hy231
 obtain ⟨y234, hy234⟩ : ∃ y_ : List (S59), y_ = (([(⟨(⟨#[118]⟩ : ByteArray), y231⟩ : S59)] : List (S59))) := ⟨_, rfl⟩
 replace H : ((payload_Encode.f k 1 y234 (([(⟨(⟨#[111, 112, 101, 110]⟩ : ByteArray), (⟨3, 1, (⟨#[]⟩ : ByteArray)⟩ : S33)⟩ : S61)] : List (S61)))).bind fun bt241 => ((payload_Encode.f k 1 ([] : List (S59)) ([] : List (S61))).bind fun bt243 => (if bt241.1.toList = ([1, 0, 0, 0, 0, 0, 0, 0, 1, 1, 118, 2, 1, 128, 255, 127, 1, 4, 111, 112, 101, 110, 3, 1] : List UInt8) then (if bt241.2 = 0 then (some (bt243.2 == 120)) else (some false)) else (some false)))) = some r := by first | (rw [hy234]; with_reducible exact H) | (have H2_ := (Option.bind_some _ _).symm.trans H; rw [hy234]; with_reducible exact H2_) | (have H2_ := (Option.bind_some _ _).symm.trans H; with_reducible exact H2_) | with_reducible exact H | (rw [hy234]; exact H) | exact H
 have Ny234 := Aside0.mk hy234
 clear hy234
 obtain ⟨y237, hy237⟩ : ∃ y_ : List (S61), y_ = (([(⟨(⟨#[111, 112, 101, 110]⟩ : ByteArray), (⟨3, 1, (⟨#[]⟩ : ByteArray)⟩ : S33)⟩ : S61)] : List (S61))) := ⟨_, rfl⟩
 replace H : ((payload_Encode.f k 1 y234 y237).bind fun bt241 => ((payload_Encode.f k 1 ([] : List (S59)) ([] : List (S61))).bind fun bt243 => (if bt241.1.toList = ([1, 0, 0, 0, 0, 0, 0, 0, 1, 1, 118, 2, 1, 128, 255, 127, 1, 4, 111, 112, 101, 110, 3, 1] : List UInt8) then (if bt241.2 = 0 then (some (bt243.2 == 120)) else (some false)) else (some false)))) = some r := by first | (rw [hy237]; with_reducible exact H) | (have H2_ := (Option.bind_some _ _).symm.trans H; rw [hy237]; with_reducible exact H2_) | (have H2_ := (Option.bind_some _ _).symm.trans H; with_reducible exact H2_) | with_reducible exact H | (rw [hy237]; exact H) | exact H
 have Ny237 := Aside0.mk hy237
 clear hy237
 replace H := Option.bind_eq_some_iff.mp H
 obtain ⟨⟨t241, t242⟩, A10, H⟩ := H
 replace H : ((payload_Encode.f k 1 ([] : List (S59)) ([] : List (S61))).bind fun bt243 => (if t241.toList = ([1, 0, 0, 0, 0, 0, 0, 0, 1, 1, 118, 2, 1, 128, 255, 127, 1, 4, 111, 112, 101, 110, 3, 1] : List UInt8) then (if t242 = 0 then (some (bt243.2 == 120)) else (some false)) else (some false))) = some r := H
 have A1 := Aside0.mk A10
 clear A10
 replace H := Option.bind_eq_some_iff.mp H
 obtain ⟨⟨t243, t244⟩, A20, H⟩ := H
 replace H : (if t241.toList = ([1, 0, 0, 0, 0, 0, 0, 0, 1, 1, 118, 2, 1, 128, 255, 127, 1, 4, 111, 112, 101, 110, 3, 1] : List UInt8) then (if t242 = 0 then (some (t244 == 120)) else (some false)) else (some false)) = some r := H
 have A2 := Aside0.mk A20
 clear A20
 by_cases c3 : t241.toList = ([1, 0, 0, 0, 0, 0, 0, 0, 1, 1, 118, 2, 1, 128, 255, 127, 1, 4, 111, 112, 101, 110, 3, 1] : List UInt8)
 ·rw [if_pos c3] at H
  have c3b0 : (t241.toList == ([1, 0, 0, 0, 0, 0, 0, 0, 1, 1, 118, 2, 1, 128, 255, 127, 1, 4, 111, 112, 101, 110, 3, 1] : List UInt8)) = true := beq_iff_eq.mpr c3
  have c3b1 : (t241.toList != ([1, 0, 0, 0, 0, 0, 0, 0, 1, 1, 118, 2, 1, 128, 255, 127, 1, 4, 111, 112, 101, 110, 3, 1] : List UInt8)) = false := bne_eq_false_iff_eq.mpr c3
  clear c3
  by_cases c4 : t242 = 0
  ·rw [if_pos c4] at H
   have c4b0 : (t242 == 0) = true := beq_iff_eq.mpr c4
   have c4b1 : (t242 != 0) = false := bne_eq_false_iff_eq.mpr c4
   clear c4
   obtain rfl := Option.some.inj H
   go_enter Tryd.func12, Tryd.ntmps12
   go_wp2_with (first | ((with_reducible refine gate_dst (N := 6) rfl ?_); refine Kd.R_lit (Kd.int .i64) _ 3 ?hg (N := 6) ?hd (xs := ([1, (-1)] : List Int)) (inner := [.int .i64 1, .int .i64 (-1)]) (ok := fun _ => True) (okp := fun _ => True) ?hr ?hp (fun _ hk => hk) trivial (Below.refl _ _) (Nat.le_refl _) (by simp) ?_; (case hd => rfl); (case hg => rfl); (case hr => first | (go_simp; done) | (go_simp; rfl)); (case hp => exact (Reps.one (show Kd.M (Kd.int .i64) _ _ _ 1 [.int .i64 1] from rfl) (Reps.one (show Kd.M (Kd.int .i64) _ _ _ (-1) [.int .i64 (-1)] from rfl) (Reps.none _ _)))); intro v232 w5 ho6 hb hg_ hnew_; clear hg_ hnew_; (first | rw [← Ny231.out] at ho6 | (simp only [Int.reduceToNat] at ho6; rw [← Ny231.out] at ho6)); have HO233 := Aside0.mk (Kd.R_lower ho6 (below_size (bl HB.out))); replace HB := Aside0.mk (below_step (bl HB.out) hb); clear hb ho6; obtain ⟨Ao7, co7, eo7⟩ := Kd.R_slice HO233.out; subst eo7) | ((with_reducible refine gate_dst (N := 8) rfl ?_); refine Kd.N_lit k59 _ 59 ?hg (N' := 8) ?hd (xs := ([(⟨(⟨#[118]⟩ : ByteArray), y231⟩ : S59)] : List (S59))) (inner := [.string (⟨#[118]⟩ : ByteArray), .slice Ao7 y231.length co7]) (ok := (fun _ => True)) (okp := (fun _ => True)) ?hr ?hp (fun _ hk => hk) ((show ∀ k_, w5.heap.size ≤ k_ → (fun _ => True) k_ from fun k_ hk => trivial) _ (Nat.le_refl _)) (Below.refl _ _) (Nat.le_refl _) (by simp) ?_; (case hd => rfl); (case hg => rfl); (case hr => first | (go_simp; done) | (go_simp; rfl)); (case hp => exact (Reps.c2 (show Kd.FK k59 _ _ (⟨(⟨#[118]⟩ : ByteArray), y231⟩ : S59) [.string (⟨#[118]⟩ : ByteArray), .slice Ao7 y231.length co7] from (k59_mkF _ _ (⟨(⟨#[118]⟩ : ByteArray), y231⟩ : S59) (Kd.R_reads' (Kd.R_mono (ok' := (fun _ => True)) (HO233.out) (fun k_ hk => trivial))).2.1 (Kd.R_F (Kd.R_mono (ok' := (fun _ => True)) (HO233.out) (fun k_ hk => trivial))))) (Reps.none _ _))); intro v235 w8 ho9 hb hg_ hnew_; clear hg_ hnew_; (first | rw [← Ny234.out] at ho9 | (simp only [Int.reduceToNat] at ho9; rw [← Ny234.out] at ho9)); have HO236 := Aside0.mk (Kd.N_lower ho9 (below_size (bl HB.out))); replace HB := Aside0.mk (below_step (bl HB.out) hb); clear HO233; clear hb ho9) | ((with_reducible refine gate_dst (N := 11) rfl ?_); refine Kd.R_lit k61 _ 61 ?hg (N := 11) ?hd (xs := ([(⟨(⟨#[111, 112, 101, 110]⟩ : ByteArray), (⟨3, 1, (⟨#[]⟩ : ByteArray)⟩ : S33)⟩ : S61)] : List (S61))) (inner := [.string (⟨#[111, 112, 101, 110]⟩ : ByteArray), .int .i64 3, .int .i64 1, .string (⟨#[]⟩ : ByteArray)]) (ok := fun _ => True) (okp := fun _ => True) ?hr ?hp (fun _ hk => hk) trivial (Below.refl _ _) (Nat.le_refl _) (by simp) ?_; (case hd => rfl); (case hg => rfl); (case hr => first | (go_simp; done) | (go_simp; rfl)); (case hp => exact (Reps.c4 (show Kd.M k61 _ _ _ (⟨(⟨#[111, 112, 101, 110]⟩ : ByteArray), (⟨3, 1, (⟨#[]⟩ : ByteArray)⟩ : S33)⟩ : S61) [.string (⟨#[111, 112, 101, 110]⟩ : ByteArray), .int .i64 3, .int .i64 1, .string (⟨#[]⟩ : ByteArray)] from (k61_mkM _ _ _ (⟨(⟨#[111, 112, 101, 110]⟩ : ByteArray), (⟨3, 1, (⟨#[]⟩ : ByteArray)⟩ : S33)⟩ : S61) )) (Reps.none _ _))); intro v238 w10 ho11 hb hg_ hnew_; clear hg_ hnew_; (first | rw [← Ny237.out] at ho11 | (simp only [Int.reduceToNat] at ho11; rw [← Ny237.out] at ho11)); replace HO236 := Aside0.mk (Kd.N_elder' (pN HO236.out) (Kd.R_base ho11) hb); have HO239 := Aside0.mk (Kd.R_lower ho11 (below_size (bl HB.out))); replace HB := Aside0.mk (below_step (bl HB.out) hb); clear hb ho11; obtain ⟨Ao12, co12, eo12⟩ := Kd.R_slice HO239.out; subst eo12; obtain ⟨Ao13, co13, eo13⟩ := Kd.N_slice HO236.out; subst eo13) | ((with_reducible refine gate_dst (N := 1) rfl ?_); refine box_event ?hg (N := 1) ?hd (cs := #[.int .i64 0, .slice none 0 0, .slice none 0 0]) (t := 25) ?hr ?_; (case hd => rfl); (case hg => rfl); (case hr => first | (go_simp; done) | (go_simp; rfl)); intro gb240 hg w14 hbox hb; replace HO236 := Aside0.mk (Kd.N_below (Kd.N_elderB (pN HO236.out) gb240 (Nat.le_of_eq hg.symm)) hb); replace HO239 := Aside0.mk (Kd.R_below (pR HO239.out) hb); have BK240 := Aside0.mk (hbox); have GW240 := Aside0.mk (gs (w := w) hg (bl HB.out)); have GE240 := Aside0.mk (gs (w := w) hg (bl HB.out)); replace HB := Aside0.mk (below_step (bl HB.out) hb); clear hb hbox hg; obtain ⟨hcz15_0, hcz15_1, hcz15_2, hfz15_0, hfz15_1, hfz15_2⟩ := cz3 BK240.out) | ((with_reducible refine gate_callee (f := 13) rfl ?_); refine goesL_ (some 15) rfl rfl Tryd.func13 kr rfl #[.agg #[.int .i64 1, .slice Ao13 y234.length co13, .slice Ao12 y237.length co12]] rfl ga ?_; (with_reducible refine (payload_Encode.calls k 1 _ _ y234 _ _ y237 t241 t242 _ ?side1 ?side2 ?side3 ?side4 ?side5 A1.out).mono ?_); (case side1 => refine (Kd.N_reads' (e := 59) (base := w.heap.size) (ok := fun k_ => ((True ∧ some k_ ≠ (.slice Ao12 y237.length co12 : Value).ownBlock) ∧ k_ ≠ gb240)) (n := y234.length) (c := co13) ?_).2.2; exact (by (with_reducible repeat (first | apply Kd.N_alloc | apply Kd.N_drewN | apply Kd.N_drew)); exact (Kd.N_mono (Kd.N_far (p := ⟨gb240, 2, none⟩) (Kd.N_far (p := ⟨gb240, 1, none⟩) (Kd.N_far (p := ⟨gb240, 0, none⟩) (Kd.N_mono HO236.out (fun k_ hk => (⟨hk, hk.2⟩ : _ ∧ k_ ≠ gb240))) (fun _ hk => hk.2) (.int .i64 1)) (fun _ hk => hk.2) (.slice Ao13 y234.length co13)) (fun _ hk => hk.2) (.slice Ao12 y237.length co12)) (fun _ h_ => h_.1)))); (case side2 => exact (Kd.N_reads' HO236.out).2.1); (case side3 => refine (Kd.R_reads' (e := 61) (base := w.heap.size) (ok := fun k_ => True) (n := y237.length) (c := co12) ?_).2.2; exact (by (with_reducible repeat (first | apply Kd.R_alloc | apply Kd.R_drewN | apply Kd.R_drew)); exact (Kd.R_mono (Kd.R_far (p := ⟨gb240, 2, none⟩) (Kd.R_far (p := ⟨gb240, 1, none⟩) (Kd.R_far (p := ⟨gb240, 0, none⟩) (Kd.R_types HO239.out BK240.out (by decide)) (fun _ hk => hk.2) (.int .i64 1)) (fun _ hk => hk.2) (.slice Ao13 y234.length co13)) (fun _ hk => hk.2) (.slice Ao12 y237.length co12)) (fun _ h_ => h_.1)))); (case side4 => exact (Kd.R_reads' HO239.out).2.1); (case side5 => exact LaidU.below HU.out (bl HB.out)); rintro e w16 ⟨rfl, hb⟩; refine ⟨_, rfl, ?_⟩; replace HO236 := Aside0.mk (Kd.N_below (by (with_reducible repeat (first | apply Kd.N_alloc | apply Kd.N_drewN | apply Kd.N_drew)); exact (Kd.N_mono (Kd.N_far (p := ⟨gb240, 2, none⟩) (Kd.N_far (p := ⟨gb240, 1, none⟩) (Kd.N_far (p := ⟨gb240, 0, none⟩) (Kd.N_mono HO236.out (fun k_ hk => (⟨hk, hk.2⟩ : _ ∧ k_ ≠ gb240))) (fun _ hk => hk.2) (.int .i64 1)) (fun _ hk => hk.2) (.slice Ao13 y234.length co13)) (fun _ hk => hk.2) (.slice Ao12 y237.length co12)) (fun _ h_ => h_.1))) hb); replace HO239 := Aside0.mk (Kd.R_below (by (with_reducible repeat (first | apply Kd.R_alloc | apply Kd.R_drewN | apply Kd.R_drew)); exact (Kd.R_mono (Kd.R_far (p := ⟨gb240, 2, none⟩) (Kd.R_far (p := ⟨gb240, 1, none⟩) (Kd.R_far (p := ⟨gb240, 0, none⟩) (Kd.R_types HO239.out BK240.out (by decide)) (fun _ hk => hk.2) (.int .i64 1)) (fun _ hk => hk.2) (.slice Ao13 y234.length co13)) (fun _ hk => hk.2) (.slice Ao12 y237.length co12)) (fun _ h_ => h_.1))) hb); replace BK240 := Aside0.mk (blk_below (g := gb240) (o := .cells #[.int .i64 1, .slice Ao13 y234.length co13, .slice Ao12 y237.length co12] 25 (0, 0)) (by refine pk ?_; refine blk_put (cs := #[.int .i64 1, .slice Ao13 y234.length co13, .slice none 0 0]) ?_ 2 _ rfl; refine pk ?_; refine blk_put (cs := #[.int .i64 1, .slice none 0 0, .slice none 0 0]) ?_ 1 _ rfl; refine pk ?_; refine blk_put (cs := #[.int .i64 0, .slice none 0 0, .slice none 0 0]) ?_ 0 _ rfl; exact pk BK240.out) hb); replace HB := Aside0.mk (below_step (bl HB.out) hb); (try clear hb); (try clear hb2); (try clear hk); (try clear hi)) | ((with_reducible refine gate_callee (f := 13) rfl ?_); refine goesL_ (some 20) rfl rfl Tryd.func13 kr rfl #[.agg #[.int .i64 1, .slice none 0 0, .slice none 0 0]] rfl ga ?_; (refine (payload_Encode.calls k 1 _ _ ([] : List (S59)) _ _ ([] : List (S61)) t243 t244 _ ?side1 ?side2 ?side3 ?side4 ?side5 A2.out).mono ?_); (case side1 => exact Kd.C_nil _ _); (case side2 => exact Nat.le_refl _); (case side3 => exact Kd.C_nil _ _); (case side4 => exact Nat.le_refl _); (case side5 => exact LaidU.below HU.out (bl HB.out)); rintro e w17 ⟨rfl, hb⟩; refine ⟨_, rfl, ?_⟩; replace HO236 := Aside0.mk (Kd.N_below (pN HO236.out) hb); replace HO239 := Aside0.mk (Kd.R_below (pR HO239.out) hb); replace BK240 := Aside0.mk (blk_below (pk BK240.out) hb); replace HB := Aside0.mk (below_step (bl HB.out) hb); (try clear hb); (try clear hb2); (try clear hk); (try clear hi)))
   go_ret
   exact ⟨er0, bl HB.out⟩
  ·rw [if_neg c4] at H
   have c4b0 : (t242 == 0) = false := beq_eq_false_iff_ne.mpr c4
   have c4b1 : (t242 != 0) = true := bne_iff_ne.mpr c4
   obtain rfl := Option.some.inj H
   go_enter Tryd.func12, Tryd.ntmps12
   go_wp2_with (first | ((with_reducible refine gate_dst (N := 6) rfl ?_); refine Kd.R_lit (Kd.int .i64) _ 3 ?hg (N := 6) ?hd (xs := ([1, (-1)] : List Int)) (inner := [.int .i64 1, .int .i64 (-1)]) (ok := fun _ => True) (okp := fun _ => True) ?hr ?hp (fun _ hk => hk) trivial (Below.refl _ _) (Nat.le_refl _) (by simp) ?_; (case hd => rfl); (case hg => rfl); (case hr => first | (go_simp; done) | (go_simp; rfl)); (case hp => exact (Reps.one (show Kd.M (Kd.int .i64) _ _ _ 1 [.int .i64 1] from rfl) (Reps.one (show Kd.M (Kd.int .i64) _ _ _ (-1) [.int .i64 (-1)] from rfl) (Reps.none _ _)))); intro v232 w18 ho19 hb hg_ hnew_; clear hg_ hnew_; (first | rw [← Ny231.out] at ho19 | (simp only [Int.reduceToNat] at ho19; rw [← Ny231.out] at ho19)); have HO233 := Aside0.mk (Kd.R_lower ho19 (below_size (bl HB.out))); replace HB := Aside0.mk (below_step (bl HB.out) hb); clear hb ho19; obtain ⟨Ao20, co20, eo20⟩ := Kd.R_slice HO233.out; subst eo20) | ((with_reducible refine gate_dst (N := 8) rfl ?_); refine Kd.N_lit k59 _ 59 ?hg (N' := 8) ?hd (xs := ([(⟨(⟨#[118]⟩ : ByteArray), y231⟩ : S59)] : List (S59))) (inner := [.string (⟨#[118]⟩ : ByteArray), .slice Ao20 y231.length co20]) (ok := (fun _ => True)) (okp := (fun _ => True)) ?hr ?hp (fun _ hk => hk) ((show ∀ k_, w18.heap.size ≤ k_ → (fun _ => True) k_ from fun k_ hk => trivial) _ (Nat.le_refl _)) (Below.refl _ _) (Nat.le_refl _) (by simp) ?_; (case hd => rfl); (case hg => rfl); (case hr => first | (go_simp; done) | (go_simp; rfl)); (case hp => exact (Reps.c2 (show Kd.FK k59 _ _ (⟨(⟨#[118]⟩ : ByteArray), y231⟩ : S59) [.string (⟨#[118]⟩ : ByteArray), .slice Ao20 y231.length co20] from (k59_mkF _ _ (⟨(⟨#[118]⟩ : ByteArray), y231⟩ : S59) (Kd.R_reads' (Kd.R_mono (ok' := (fun _ => True)) (HO233.out) (fun k_ hk => trivial))).2.1 (Kd.R_F (Kd.R_mono (ok' := (fun _ => True)) (HO233.out) (fun k_ hk => trivial))))) (Reps.none _ _))); intro v235 w21 ho22 hb hg_ hnew_; clear hg_ hnew_; (first | rw [← Ny234.out] at ho22 | (simp only [Int.reduceToNat] at ho22; rw [← Ny234.out] at ho22)); have HO236 := Aside0.mk (Kd.N_lower ho22 (below_size (bl HB.out))); replace HB := Aside0.mk (below_step (bl HB.out) hb); clear HO233; clear hb ho22) | ((with_reducible refine gate_dst (N := 11) rfl ?_); refine Kd.R_lit k61 _ 61 ?hg (N := 11) ?hd (xs := ([(⟨(⟨#[111, 112, 101, 110]⟩ : ByteArray), (⟨3, 1, (⟨#[]⟩ : ByteArray)⟩ : S33)⟩ : S61)] : List (S61))) (inner := [.string (⟨#[111, 112, 101, 110]⟩ : ByteArray), .int .i64 3, .int .i64 1, .string (⟨#[]⟩ : ByteArray)]) (ok := fun _ => True) (okp := fun _ => True) ?hr ?hp (fun _ hk => hk) trivial (Below.refl _ _) (Nat.le_refl _) (by simp) ?_; (case hd => rfl); (case hg => rfl); (case hr => first | (go_simp; done) | (go_simp; rfl)); (case hp => exact (Reps.c4 (show Kd.M k61 _ _ _ (⟨(⟨#[111, 112, 101, 110]⟩ : ByteArray), (⟨3, 1, (⟨#[]⟩ : ByteArray)⟩ : S33)⟩ : S61) [.string (⟨#[111, 112, 101, 110]⟩ : ByteArray), .int .i64 3, .int .i64 1, .string (⟨#[]⟩ : ByteArray)] from (k61_mkM _ _ _ (⟨(⟨#[111, 112, 101, 110]⟩ : ByteArray), (⟨3, 1, (⟨#[]⟩ : ByteArray)⟩ : S33)⟩ : S61) )) (Reps.none _ _))); intro v238 w23 ho24 hb hg_ hnew_; clear hg_ hnew_; (first | rw [← Ny237.out] at ho24 | (simp only [Int.reduceToNat] at ho24; rw [← Ny237.out] at ho24)); replace HO236 := Aside0.mk (Kd.N_elder' (pN HO236.out) (Kd.R_base ho24) hb); have HO239 := Aside0.mk (Kd.R_lower ho24 (below_size (bl HB.out))); replace HB := Aside0.mk (below_step (bl HB.out) hb); clear hb ho24; obtain ⟨Ao25, co25, eo25⟩ := Kd.R_slice HO239.out; subst eo25; obtain ⟨Ao26, co26, eo26⟩ := Kd.N_slice HO236.out; subst eo26) | ((with_reducible refine gate_dst (N := 1) rfl ?_); refine box_event ?hg (N := 1) ?hd (cs := #[.int .i64 0, .slice none 0 0, .slice none 0 0]) (t := 25) ?hr ?_; (case hd => rfl); (case hg => rfl); (case hr => first | (go_simp; done) | (go_simp; rfl)); intro gb240 hg w27 hbox hb; replace HO236 := Aside0.mk (Kd.N_below (Kd.N_elderB (pN HO236.out) gb240 (Nat.le_of_eq hg.symm)) hb); replace HO239 := Aside0.mk (Kd.R_below (pR HO239.out) hb); have BK240 := Aside0.mk (hbox); have GW240 := Aside0.mk (gs (w := w) hg (bl HB.out)); have GE240 := Aside0.mk (gs (w := w) hg (bl HB.out)); replace HB := Aside0.mk (below_step (bl HB.out) hb); clear hb hbox hg; obtain ⟨hcz28_0, hcz28_1, hcz28_2, hfz28_0, hfz28_1, hfz28_2⟩ := cz3 BK240.out) | ((with_reducible refine gate_callee (f := 13) rfl ?_); refine goesL_ (some 15) rfl rfl Tryd.func13 kr rfl #[.agg #[.int .i64 1, .slice Ao26 y234.length co26, .slice Ao25 y237.length co25]] rfl ga ?_; (with_reducible refine (payload_Encode.calls k 1 _ _ y234 _ _ y237 t241 t242 _ ?side1 ?side2 ?side3 ?side4 ?side5 A1.out).mono ?_); (case side1 => refine (Kd.N_reads' (e := 59) (base := w.heap.size) (ok := fun k_ => ((True ∧ some k_ ≠ (.slice Ao25 y237.length co25 : Value).ownBlock) ∧ k_ ≠ gb240)) (n := y234.length) (c := co26) ?_).2.2; exact (by (with_reducible repeat (first | apply Kd.N_alloc | apply Kd.N_drewN | apply Kd.N_drew)); exact (Kd.N_mono (Kd.N_far (p := ⟨gb240, 2, none⟩) (Kd.N_far (p := ⟨gb240, 1, none⟩) (Kd.N_far (p := ⟨gb240, 0, none⟩) (Kd.N_mono HO236.out (fun k_ hk => (⟨hk, hk.2⟩ : _ ∧ k_ ≠ gb240))) (fun _ hk => hk.2) (.int .i64 1)) (fun _ hk => hk.2) (.slice Ao26 y234.length co26)) (fun _ hk => hk.2) (.slice Ao25 y237.length co25)) (fun _ h_ => h_.1)))); (case side2 => exact (Kd.N_reads' HO236.out).2.1); (case side3 => refine (Kd.R_reads' (e := 61) (base := w.heap.size) (ok := fun k_ => True) (n := y237.length) (c := co25) ?_).2.2; exact (by (with_reducible repeat (first | apply Kd.R_alloc | apply Kd.R_drewN | apply Kd.R_drew)); exact (Kd.R_mono (Kd.R_far (p := ⟨gb240, 2, none⟩) (Kd.R_far (p := ⟨gb240, 1, none⟩) (Kd.R_far (p := ⟨gb240, 0, none⟩) (Kd.R_types HO239.out BK240.out (by decide)) (fun _ hk => hk.2) (.int .i64 1)) (fun _ hk => hk.2) (.slice Ao26 y234.length co26)) (fun _ hk => hk.2) (.slice Ao25 y237.length co25)) (fun _ h_ => h_.1)))); (case side4 => exact (Kd.R_reads' HO239.out).2.1); (case side5 => exact LaidU.below HU.out (bl HB.out)); rintro e w29 ⟨rfl, hb⟩; refine ⟨_, rfl, ?_⟩; replace HO236 := Aside0.mk (Kd.N_below (by (with_reducible repeat (first | apply Kd.N_alloc | apply Kd.N_drewN | apply Kd.N_drew)); exact (Kd.N_mono (Kd.N_far (p := ⟨gb240, 2, none⟩) (Kd.N_far (p := ⟨gb240, 1, none⟩) (Kd.N_far (p := ⟨gb240, 0, none⟩) (Kd.N_mono HO236.out (fun k_ hk => (⟨hk, hk.2⟩ : _ ∧ k_ ≠ gb240))) (fun _ hk => hk.2) (.int .i64 1)) (fun _ hk => hk.2) (.slice Ao26 y234.length co26)) (fun _ hk => hk.2) (.slice Ao25 y237.length co25)) (fun _ h_ => h_.1))) hb); replace HO239 := Aside0.mk (Kd.R_below (by (with_reducible repeat (first | apply Kd.R_alloc | apply Kd.R_drewN | apply Kd.R_drew)); exact (Kd.R_mono (Kd.R_far (p := ⟨gb240, 2, none⟩) (Kd.R_far (p := ⟨gb240, 1, none⟩) (Kd.R_far (p := ⟨gb240, 0, none⟩) (Kd.R_types HO239.out BK240.out (by decide)) (fun _ hk => hk.2) (.int .i64 1)) (fun _ hk => hk.2) (.slice Ao26 y234.length co26)) (fun _ hk => hk.2) (.slice Ao25 y237.length co25)) (fun _ h_ => h_.1))) hb); replace BK240 := Aside0.mk (blk_below (g := gb240) (o := .cells #[.int .i64 1, .slice Ao26 y234.length co26, .slice Ao25 y237.length co25] 25 (0, 0)) (by refine pk ?_; refine blk_put (cs := #[.int .i64 1, .slice Ao26 y234.length co26, .slice none 0 0]) ?_ 2 _ rfl; refine pk ?_; refine blk_put (cs := #[.int .i64 1, .slice none 0 0, .slice none 0 0]) ?_ 1 _ rfl; refine pk ?_; refine blk_put (cs := #[.int .i64 0, .slice none 0 0, .slice none 0 0]) ?_ 0 _ rfl; exact pk BK240.out) hb); replace HB := Aside0.mk (below_step (bl HB.out) hb); (try clear hb); (try clear hb2); (try clear hk); (try clear hi)) | ((with_reducible refine gate_callee (f := 13) rfl ?_); refine goesL_ (some 20) rfl rfl Tryd.func13 kr rfl #[.agg #[.int .i64 1, .slice none 0 0, .slice none 0 0]] rfl ga ?_; (refine (payload_Encode.calls k 1 _ _ ([] : List (S59)) _ _ ([] : List (S61)) t243 t244 _ ?side1 ?side2 ?side3 ?side4 ?side5 A2.out).mono ?_); (case side1 => exact Kd.C_nil _ _); (case side2 => exact Nat.le_refl _); (case side3 => exact Kd.C_nil _ _); (case side4 => exact Nat.le_refl _); (case side5 => exact LaidU.below HU.out (bl HB.out)); rintro e w30 ⟨rfl, hb⟩; refine ⟨_, rfl, ?_⟩; replace HO236 := Aside0.mk (Kd.N_below (pN HO236.out) hb); replace HO239 := Aside0.mk (Kd.R_below (pR HO239.out) hb); replace BK240 := Aside0.mk (blk_below (pk BK240.out) hb); replace HB := Aside0.mk (below_step (bl HB.out) hb); (try clear hb); (try clear hb2); (try clear hk); (try clear hi)))
   go_ret
   exact ⟨er0, bl HB.out⟩
 ·rw [if_neg c3] at H
  have c3b0 : (t241.toList == ([1, 0, 0, 0, 0, 0, 0, 0, 1, 1, 118, 2, 1, 128, 255, 127, 1, 4, 111, 112, 101, 110, 3, 1] : List UInt8)) = false := beq_eq_false_iff_ne.mpr c3
  have c3b1 : (t241.toList != ([1, 0, 0, 0, 0, 0, 0, 0, 1, 1, 118, 2, 1, 128, 255, 127, 1, 4, 111, 112, 101, 110, 3, 1] : List UInt8)) = true := bne_iff_ne.mpr c3
  obtain rfl := Option.some.inj H
  go_enter Tryd.func12, Tryd.ntmps12
  go_wp2_with (first | ((with_reducible refine gate_dst (N := 6) rfl ?_); refine Kd.R_lit (Kd.int .i64) _ 3 ?hg (N := 6) ?hd (xs := ([1, (-1)] : List Int)) (inner := [.int .i64 1, .int .i64 (-1)]) (ok := fun _ => True) (okp := fun _ => True) ?hr ?hp (fun _ hk => hk) trivial (Below.refl _ _) (Nat.le_refl _) (by simp) ?_; (case hd => rfl); (case hg => rfl); (case hr => first | (go_simp; done) | (go_simp; rfl)); (case hp => exact (Reps.one (show Kd.M (Kd.int .i64) _ _ _ 1 [.int .i64 1] from rfl) (Reps.one (show Kd.M (Kd.int .i64) _ _ _ (-1) [.int .i64 (-1)] from rfl) (Reps.none _ _)))); intro v232 w31 ho32 hb hg_ hnew_; clear hg_ hnew_; (first | rw [← Ny231.out] at ho32 | (simp only [Int.reduceToNat] at ho32; rw [← Ny231.out] at ho32)); have HO233 := Aside0.mk (Kd.R_lower ho32 (below_size (bl HB.out))); replace HB := Aside0.mk (below_step (bl HB.out) hb); clear hb ho32; obtain ⟨Ao33, co33, eo33⟩ := Kd.R_slice HO233.out; subst eo33) | ((with_reducible refine gate_dst (N := 8) rfl ?_); refine Kd.N_lit k59 _ 59 ?hg (N' := 8) ?hd (xs := ([(⟨(⟨#[118]⟩ : ByteArray), y231⟩ : S59)] : List (S59))) (inner := [.string (⟨#[118]⟩ : ByteArray), .slice Ao33 y231.length co33]) (ok := (fun _ => True)) (okp := (fun _ => True)) ?hr ?hp (fun _ hk => hk) ((show ∀ k_, w31.heap.size ≤ k_ → (fun _ => True) k_ from fun k_ hk => trivial) _ (Nat.le_refl _)) (Below.refl _ _) (Nat.le_refl _) (by simp) ?_; (case hd => rfl); (case hg => rfl); (case hr => first | (go_simp; done) | (go_simp; rfl)); (case hp => exact (Reps.c2 (show Kd.FK k59 _ _ (⟨(⟨#[118]⟩ : ByteArray), y231⟩ : S59) [.string (⟨#[118]⟩ : ByteArray), .slice Ao33 y231.length co33] from (k59_mkF _ _ (⟨(⟨#[118]⟩ : ByteArray), y231⟩ : S59) (Kd.R_reads' (Kd.R_mono (ok' := (fun _ => True)) (HO233.out) (fun k_ hk => trivial))).2.1 (Kd.R_F (Kd.R_mono (ok' := (fun _ => True)) (HO233.out) (fun k_ hk => trivial))))) (Reps.none _ _))); intro v235 w34 ho35 hb hg_ hnew_; clear hg_ hnew_; (first | rw [← Ny234.out] at ho35 | (simp only [Int.reduceToNat] at ho35; rw [← Ny234.out] at ho35)); have HO236 := Aside0.mk (Kd.N_lower ho35 (below_size (bl HB.out))); replace HB := Aside0.mk (below_step (bl HB.out) hb); clear HO233; clear hb ho35) | ((with_reducible refine gate_dst (N := 11) rfl ?_); refine Kd.R_lit k61 _ 61 ?hg (N := 11) ?hd (xs := ([(⟨(⟨#[111, 112, 101, 110]⟩ : ByteArray), (⟨3, 1, (⟨#[]⟩ : ByteArray)⟩ : S33)⟩ : S61)] : List (S61))) (inner := [.string (⟨#[111, 112, 101, 110]⟩ : ByteArray), .int .i64 3, .int .i64 1, .string (⟨#[]⟩ : ByteArray)]) (ok := fun _ => True) (okp := fun _ => True) ?hr ?hp (fun _ hk => hk) trivial (Below.refl _ _) (Nat.le_refl _) (by simp) ?_; (case hd => rfl); (case hg => rfl); (case hr => first | (go_simp; done) | (go_simp; rfl)); (case hp => exact (Reps.c4 (show Kd.M k61 _ _ _ (⟨(⟨#[111, 112, 101, 110]⟩ : ByteArray), (⟨3, 1, (⟨#[]⟩ : ByteArray)⟩ : S33)⟩ : S61) [.string (⟨#[111, 112, 101, 110]⟩ : ByteArray), .int .i64 3, .int .i64 1, .string (⟨#[]⟩ : ByteArray)] from (k61_mkM _ _ _ (⟨(⟨#[111, 112, 101, 110]⟩ : ByteArray), (⟨3, 1, (⟨#[]⟩ : ByteArray)⟩ : S33)⟩ : S61) )) (Reps.none _ _))); intro v238 w36 ho37 hb hg_ hnew_; clear hg_ hnew_; (first | rw [← Ny237.out] at ho37 | (simp only [Int.reduceToNat] at ho37; rw [← Ny237.out] at ho37)); replace HO236 := Aside0.mk (Kd.N_elder' (pN HO236.out) (Kd.R_base ho37) hb); have HO239 := Aside0.mk (Kd.R_lower ho37 (below_size (bl HB.out))); replace HB := Aside0.mk (below_step (bl HB.out) hb); clear hb ho37; obtain ⟨Ao38, co38, eo38⟩ := Kd.R_slice HO239.out; subst eo38; obtain ⟨Ao39, co39, eo39⟩ := Kd.N_slice HO236.out; subst eo39) | ((with_reducible refine gate_dst (N := 1) rfl ?_); refine box_event ?hg (N := 1) ?hd (cs := #[.int .i64 0, .slice none 0 0, .slice none 0 0]) (t := 25) ?hr ?_; (case hd => rfl); (case hg => rfl); (case hr => first | (go_simp; done) | (go_simp; rfl)); intro gb240 hg w40 hbox hb; replace HO236 := Aside0.mk (Kd.N_below (Kd.N_elderB (pN HO236.out) gb240 (Nat.le_of_eq hg.symm)) hb); replace HO239 := Aside0.mk (Kd.R_below (pR HO239.out) hb); have BK240 := Aside0.mk (hbox); have GW240 := Aside0.mk (gs (w := w) hg (bl HB.out)); have GE240 := Aside0.mk (gs (w := w) hg (bl HB.out)); replace HB := Aside0.mk (below_step (bl HB.out) hb); clear hb hbox hg; obtain ⟨hcz41_0, hcz41_1, hcz41_2, hfz41_0, hfz41_1, hfz41_2⟩ := cz3 BK240.out) | ((with_reducible refine gate_callee (f := 13) rfl ?_); refine goesL_ (some 15) rfl rfl Tryd.func13 kr rfl #[.agg #[.int .i64 1, .slice Ao39 y234.length co39, .slice Ao38 y237.length co38]] rfl ga ?_; (with_reducible refine (payload_Encode.calls k 1 _ _ y234 _ _ y237 t241 t242 _ ?side1 ?side2 ?side3 ?side4 ?side5 A1.out).mono ?_); (case side1 => refine (Kd.N_reads' (e := 59) (base := w.heap.size) (ok := fun k_ => ((True ∧ some k_ ≠ (.slice Ao38 y237.length co38 : Value).ownBlock) ∧ k_ ≠ gb240)) (n := y234.length) (c := co39) ?_).2.2; exact (by (with_reducible repeat (first | apply Kd.N_alloc | apply Kd.N_drewN | apply Kd.N_drew)); exact (Kd.N_mono (Kd.N_far (p := ⟨gb240, 2, none⟩) (Kd.N_far (p := ⟨gb240, 1, none⟩) (Kd.N_far (p := ⟨gb240, 0, none⟩) (Kd.N_mono HO236.out (fun k_ hk => (⟨hk, hk.2⟩ : _ ∧ k_ ≠ gb240))) (fun _ hk => hk.2) (.int .i64 1)) (fun _ hk => hk.2) (.slice Ao39 y234.length co39)) (fun _ hk => hk.2) (.slice Ao38 y237.length co38)) (fun _ h_ => h_.1)))); (case side2 => exact (Kd.N_reads' HO236.out).2.1); (case side3 => refine (Kd.R_reads' (e := 61) (base := w.heap.size) (ok := fun k_ => True) (n := y237.length) (c := co38) ?_).2.2; exact (by (with_reducible repeat (first | apply Kd.R_alloc | apply Kd.R_drewN | apply Kd.R_drew)); exact (Kd.R_mono (Kd.R_far (p := ⟨gb240, 2, none⟩) (Kd.R_far (p := ⟨gb240, 1, none⟩) (Kd.R_far (p := ⟨gb240, 0, none⟩) (Kd.R_types HO239.out BK240.out (by decide)) (fun _ hk => hk.2) (.int .i64 1)) (fun _ hk => hk.2) (.slice Ao39 y234.length co39)) (fun _ hk => hk.2) (.slice Ao38 y237.length co38)) (fun _ h_ => h_.1)))); (case side4 => exact (Kd.R_reads' HO239.out).2.1); (case side5 => exact LaidU.below HU.out (bl HB.out)); rintro e w42 ⟨rfl, hb⟩; refine ⟨_, rfl, ?_⟩; replace HO236 := Aside0.mk (Kd.N_below (by (with_reducible repeat (first | apply Kd.N_alloc | apply Kd.N_drewN | apply Kd.N_drew)); exact (Kd.N_mono (Kd.N_far (p := ⟨gb240, 2, none⟩) (Kd.N_far (p := ⟨gb240, 1, none⟩) (Kd.N_far (p := ⟨gb240, 0, none⟩) (Kd.N_mono HO236.out (fun k_ hk => (⟨hk, hk.2⟩ : _ ∧ k_ ≠ gb240))) (fun _ hk => hk.2) (.int .i64 1)) (fun _ hk => hk.2) (.slice Ao39 y234.length co39)) (fun _ hk => hk.2) (.slice Ao38 y237.length co38)) (fun _ h_ => h_.1))) hb); replace HO239 := Aside0.mk (Kd.R_below (by (with_reducible repeat (first | apply Kd.R_alloc | apply Kd.R_drewN | apply Kd.R_drew)); exact (Kd.R_mono (Kd.R_far (p := ⟨gb240, 2, none⟩) (Kd.R_far (p := ⟨gb240, 1, none⟩) (Kd.R_far (p := ⟨gb240, 0, none⟩) (Kd.R_types HO239.out BK240.out (by decide)) (fun _ hk => hk.2) (.int .i64 1)) (fun _ hk => hk.2) (.slice Ao39 y234.length co39)) (fun _ hk => hk.2) (.slice Ao38 y237.length co38)) (fun _ h_ => h_.1))) hb); replace BK240 := Aside0.mk (blk_below (g := gb240) (o := .cells #[.int .i64 1, .slice Ao39 y234.length co39, .slice Ao38 y237.length co38] 25 (0, 0)) (by refine pk ?_; refine blk_put (cs := #[.int .i64 1, .slice Ao39 y234.length co39, .slice none 0 0]) ?_ 2 _ rfl; refine pk ?_; refine blk_put (cs := #[.int .i64 1, .slice none 0 0, .slice none 0 0]) ?_ 1 _ rfl; refine pk ?_; refine blk_put (cs := #[.int .i64 0, .slice none 0 0, .slice none 0 0]) ?_ 0 _ rfl; exact pk BK240.out) hb); replace HB := Aside0.mk (below_step (bl HB.out) hb); (try clear hb); (try clear hb2); (try clear hk); (try clear hi)) | ((with_reducible refine gate_callee (f := 13) rfl ?_); refine goesL_ (some 20) rfl rfl Tryd.func13 kr rfl #[.agg #[.int .i64 1, .slice none 0 0, .slice none 0 0]] rfl ga ?_; (refine (payload_Encode.calls k 1 _ _ ([] : List (S59)) _ _ ([] : List (S61)) t243 t244 _ ?side1 ?side2 ?side3 ?side4 ?side5 A2.out).mono ?_); (case side1 => exact Kd.C_nil _ _); (case side2 => exact Nat.le_refl _); (case side3 => exact Kd.C_nil _ _); (case side4 => exact Nat.le_refl _); (case side5 => exact LaidU.below HU.out (bl HB.out)); rintro e w43 ⟨rfl, hb⟩; refine ⟨_, rfl, ?_⟩; replace HO236 := Aside0.mk (Kd.N_below (pN HO236.out) hb); replace HO239 := Aside0.mk (Kd.R_below (pR HO239.out) hb); replace BK240 := Aside0.mk (blk_below (pk BK240.out) hb); replace HB := Aside0.mk (below_step (bl HB.out) hb); (try clear hb); (try clear hb2); (try clear hk); (try clear hi)))
  go_ret
  exact ⟨er0, bl HB.out⟩

/-! ### payload_CheckSchema_1: function 48 -/
def payload_CheckSchema_1.f (a0_0 : ByteArray) (a0_1 : Int) (a0_2 : Int) : Option (ByteArray) := some a0_0
set_option maxHeartbeats 8000000 in
set_option maxRecDepth 100000 in
theorem payload_CheckSchema_1.calls (a0_0 : ByteArray) (a0_1 : Int) (a0_2 : Int) (r : ByteArray) (w : World) (h : payload_CheckSchema_1.f a0_0 a0_1 a0_2 = some r) :
  Calls Tryd.prog 48 #[.agg #[.string a0_0, .int .i64 a0_1, .int .i64 a0_2]] w fun e w' => e = .returned (.string r) ∧ Below w.heap.size w w' := by
 have hu89 := Tryd.underlying89
 have HB := Aside0.mk (Below.refl w.heap.size w)
 have H : (some a0_0) = some r := h
 clear h
 obtain rfl := Option.some.inj H
 go_enter Tryd.func48, Tryd.ntmps48
 go_wp2_with (first | ((with_reducible refine gate_dst (N := 1) rfl ?_); refine box_event ?hg (N := 1) ?hd (cs := #[.string a0_0, .int .i64 a0_1, .int .i64 a0_2]) (t := 89) ?hr ?_; (case hd => rfl); (case hg => rfl); (case hr => first | (go_simp; done) | (go_simp; rfl)); intro gb245 hg w2 hbox hb; have BK245 := Aside0.mk (hbox); have GW245 := Aside0.mk (gs (w := w) hg (bl HB.out)); have GE245 := Aside0.mk (gs (w := w) hg (bl HB.out)); replace HB := Aside0.mk (below_step (bl HB.out) hb); clear hb hbox hg; obtain ⟨hcz3_0, hcz3_1, hcz3_2, hfz3_0, hfz3_1, hfz3_2⟩ := cz3 BK245.out))
 go_ret
 exact ⟨er0, bl HB.out⟩

/-! ### api_VecSpec_47: function 47 -/
def api_VecSpec_47.l0 : Nat → List ByteArray → List (S89) → Int → Int → Option (List ByteArray)
 | 0, _, _, _, _ => none
 | k + 1, x5, x8, x9, x10 => if x10 < x9 then (if 0 ≤ x10 then (if x10 < (x8.length : Int) then ((payload_CheckSchema_1.f ((rd_T89 x8 x10).f0) ((rd_T89 x8 x10).f1) ((rd_T89 x8 x10).f2)).bind fun t248 => (if x5.length < 8796093022208 then (api_VecSpec_47.l0 k (x5 ++ [t248]) x8 x9 (wrap64 (x10 + 1))) else (none))) else (none)) else (none)) else (some x5)
def api_VecSpec_47.f (k : Nat) (l0 : List (S89)) (a1 : Nat) : Option (List ByteArray) := if a1 = 48 then (api_VecSpec_47.l0 k ([] : List ByteArray) l0 (l0.length : Int) 0) else (none)
theorem api_VecSpec_47.mono_l : ∀ k, (∀ y0 y1 y2 y3, LeO (api_VecSpec_47.l0 k y0 y1 y2 y3) (api_VecSpec_47.l0 (k + 1) y0 y1 y2 y3))
 | 0 => fun _ _ _ _ r h => by simp [api_VecSpec_47.l0] at h
 | k + 1 => by
  have ih0 := api_VecSpec_47.mono_l k
  ·intro y0 y1 y2 y3
   unfold api_VecSpec_47.l0
   repeat' first
   | (with_reducible exact ih0 _ _ _ _)
   | (with_reducible exact LeO.refl _)
   | (with_reducible exact LeO.none _)
   | (with_reducible refine LeO.ite ?_ ?_)
   | (with_reducible refine LeO.bind ?_ (fun _ => ?_))
   | exact ih0 _ _ _ _
   | exact LeO.none _
   | refine LeO.ite ?_ ?_
   | refine LeO.bind ?_ (fun _ => ?_)
theorem api_VecSpec_47.mono : ∀ a0 a1 k, LeO (api_VecSpec_47.f k a0 a1) (api_VecSpec_47.f (k + 1) a0 a1) := by
 intro a0 a1 k
 have ih0 := api_VecSpec_47.mono_l k
 unfold api_VecSpec_47.f
 repeat' first
   | (with_reducible exact ih0 _ _ _ _)
   | (with_reducible exact LeO.refl _)
   | (with_reducible exact LeO.none _)
   | (with_reducible refine LeO.ite ?_ ?_)
   | (with_reducible refine LeO.bind ?_ (fun _ => ?_))
   | exact ih0 _ _ _ _
   | exact LeO.none _
   | refine LeO.ite ?_ ?_
   | refine LeO.bind ?_ (fun _ => ?_)
set_option maxHeartbeats 8000000 in
set_option maxRecDepth 100000 in
theorem api_VecSpec_47.calls (k : Nat) (A0 : Option Addr) (c0 : Nat) (l0 : List (S89)) (a1 : Nat) (r : List ByteArray) (w : World) (hr0 : Kd.C k89 w A0 l0.length l0) (hc0 : l0.length ≤ c0) (h : api_VecSpec_47.f k l0 a1 = some r) :
  Calls Tryd.prog 47 #[.slice A0 l0.length c0, .func (.func a1) #[] #[]] w fun e w' => ∃ v0_ : Value, e = .returned (v0_) ∧ Kd.R Kd.string 9 w' w.heap.size (fun _ => True) v0_ r ∧ Below w.heap.size w w' := by
 have hu89 := Tryd.underlying89
 have HR0 := Aside0.mk hr0
 have HC0 := Aside0.mk hc0
 clear hr0 hc0
 have HB := Aside0.mk (Below.refl w.heap.size w)
 have H : (if a1 = 48 then (api_VecSpec_47.l0 k ([] : List ByteArray) l0 (l0.length : Int) 0) else (none)) = some r := h
 clear h
 by_cases c3 : a1 = 48
 ·rw [if_pos c3] at H
  subst c3
  have H' := Aside0.mk H
  clear H
  go_enter Tryd.func47, Tryd.ntmps47
  go_wp2
  go_loopg [5, 10] k (fun kq v5 v10 w' => ∃ (x5_1 : List ByteArray) (x10_1 : Int), v10 = .int .i64 x10_1 ∧ Aside0 (api_VecSpec_47.l0 kq x5_1 l0 (l0.length : Int) x10_1 = some r) ∧ Aside0 (kq ≤ k) ∧ Aside0 (Kd.R Kd.string 9 w' w.heap.size (fun _ => True) v5 x5_1) ∧ Aside0 (Below w.heap.size w w'))
  case atStart => exact ⟨(([] : List ByteArray)), (0), hsr, H', ⟨Nat.le_refl _⟩, ⟨by first | exact Kd.R_nil _ _ _ _ _ | exact Kd.N_nil _ _ _ _ _ | exact Kd.V_nil _ _ _ _ _ | exact Kd.Q_nil _ _ _ _ _ | exact Kd.S_nil _ _ _ _ _⟩, ⟨bl HB.out⟩⟩
  case round =>
   clear H'
   try clear p2
   try clear c3
   obtain ⟨x5_1, x10_1, rfl, HA, HK1, HO_5, HB⟩ := hrel
   cases gk with
   | zero => exact absurd HA.out (by simp [api_VecSpec_47.l0])
   | succ k1 =>
    have H := HA.out
    clear HA
    simp only [api_VecSpec_47.l0] at H
    by_cases c4 : x10_1 < (l0.length : Int)
    ·rw [if_pos c4] at H
     have c4b0 : decide (x10_1 < (l0.length : Int)) = true := decide_eq_true c4
     clear c4
     by_cases c5 : 0 ≤ x10_1
     ·rw [if_pos c5] at H
      have c5b0 : decide (0 ≤ x10_1) = true := decide_eq_true c5
      clear c5
      by_cases c6 : x10_1 < (l0.length : Int)
      ·rw [if_pos c6] at H
       have c6b0 : decide (x10_1 < (l0.length : Int)) = true := decide_eq_true c6
       clear c6
       replace H := Option.bind_eq_some_iff.mp H
       obtain ⟨t248, A70, H⟩ := H
       replace H : (if x5_1.length < 8796093022208 then (api_VecSpec_47.l0 k1 (x5_1 ++ [t248]) l0 (l0.length : Int) (wrap64 (x10_1 + 1))) else (none)) = some r := H
       have A7 := Aside0.mk A70
       clear A70
       by_cases c8 : x5_1.length < 8796093022208
       ·rw [if_pos c8] at H
        have LMc8 := Aside0.mk c8
        clear c8
        obtain ⟨y249, hy249⟩ : ∃ y_ : List ByteArray, y_ = (x5_1 ++ [t248]) := ⟨_, rfl⟩
        replace H : (api_VecSpec_47.l0 k1 y249 l0 (l0.length : Int) (wrap64 (x10_1 + 1))) = some r := by first | (rw [hy249]; with_reducible exact H) | (have H2_ := (Option.bind_some _ _).symm.trans H; rw [hy249]; with_reducible exact H2_) | (have H2_ := (Option.bind_some _ _).symm.trans H; with_reducible exact H2_) | with_reducible exact H | (rw [hy249]; exact H) | exact H
        have Ny249 := Aside0.mk hy249
        clear hy249
        have H' := Aside0.mk H
        clear H
        have p246 : 0 ≤ (x10_1 : Int) := of_decide_eq_true ha
        have q246 : x10_1 < (l0.length : Int) := of_decide_eq_true ha
        obtain ⟨ad246, e246, hx246_0, hx246_1, hx246_2⟩ := at_T89 HR0.out x10_1 p246 q246
        cases e246
        replace hx246_0 := (HB.out.cell (World.block_lt_of_cell? w _ hx246_0)).trans hx246_0
        replace hx246_1 := (HB.out.cell (World.block_lt_of_cell? w _ hx246_1)).trans hx246_1
        replace hx246_2 := (HB.out.cell (World.block_lt_of_cell? w _ hx246_2)).trans hx246_2
        replace p246 := eq_true p246
        replace q246 := eq_true q246
        go_wp2_with (first | ((with_reducible refine gate_dst (N := 7) rfl ?_); refine box_event ?hg (N := 7) ?hd (cs := #[.string (⟨#[]⟩ : ByteArray), .int .i64 0, .int .i64 0]) (t := 89) ?hr ?_; (case hd => rfl); (case hg => rfl); (case hr => first | (go_simp; done) | (go_simp; rfl)); intro gb247 hg w9 hbox hb; replace HO_5 := Aside0.mk (Kd.R_below (pR HO_5.out) hb); have BK247 := Aside0.mk (hbox); have GW247 := Aside0.mk (gs (w := w) hg (bl HB.out)); have GE247 := Aside0.mk (gs (w := w) hg (bl HB.out)); replace HB := Aside0.mk (below_step (bl HB.out) hb); clear hb hbox hg; obtain ⟨hcz10_0, hcz10_1, hcz10_2, hfz10_0, hfz10_1, hfz10_2⟩ := cz3 BK247.out) | (go_at_call 48; (with_reducible refine (payload_CheckSchema_1.calls ((rd_T89 l0 x10_1).f0) ((rd_T89 l0 x10_1).f1) ((rd_T89 l0 x10_1).f2) t248 _ A7.out).mono ?_); rintro e w11 ⟨rfl, hb⟩; replace HO_5 := Aside0.mk (Kd.R_below (by (with_reducible repeat (first | apply Kd.R_alloc | apply Kd.R_drewN | apply Kd.R_drew)); exact (Kd.R_mono (Kd.R_far (p := ⟨gb247, 2, none⟩) (Kd.R_far (p := ⟨gb247, 1, none⟩) (Kd.R_far (p := ⟨gb247, 0, none⟩) (Kd.R_types HO_5.out BK247.out (by decide)) (fun _ hk => hk.2) (.string ((rd_T89 l0 x10_1).f0))) (fun _ hk => hk.2) (.int .i64 ((rd_T89 l0 x10_1).f1))) (fun _ hk => hk.2) (.int .i64 ((rd_T89 l0 x10_1).f2))) (fun _ h_ => h_.1))) hb); replace BK247 := Aside0.mk (blk_below (g := gb247) (o := .cells #[.string ((rd_T89 l0 x10_1).f0), .int .i64 ((rd_T89 l0 x10_1).f1), .int .i64 ((rd_T89 l0 x10_1).f2)] 89 (0, 0)) (by refine pk ?_; refine blk_put (cs := #[.string ((rd_T89 l0 x10_1).f0), .int .i64 ((rd_T89 l0 x10_1).f1), .int .i64 0]) ?_ 2 _ rfl; refine pk ?_; refine blk_put (cs := #[.string ((rd_T89 l0 x10_1).f0), .int .i64 0, .int .i64 0]) ?_ 1 _ rfl; refine pk ?_; refine blk_put (cs := #[.string (⟨#[]⟩ : ByteArray), .int .i64 0, .int .i64 0]) ?_ 0 _ rfl; exact pk BK247.out) hb); replace HB := Aside0.mk (below_step (bl HB.out) hb); (try clear hb); (try clear hb2); (try clear hk); (try clear hi)) | ((with_reducible refine gate_builtin (b := .append) (xs := #[.tmp 14, .tmp 18]) rfl ?_); at_builtin; refine Kd.R_append Kd.string (w0 := w) w.heap.size rfl (.tmp 14) (.tmp 18) 35 9 (.string ⟨#[]⟩) 16 rfl Tryd.underlying35 info9 rfl (by decide) (by omega) u5 x5_1 t248 [.string t248] (fun _ => True) (fun _ => False) rfl rfl ?aP (fun _ hk => hk.elim) ?aF ?aO ?aB ?aS ?aL ?_; (case aP => exact rfl); (case aB => exact (bl HB.out)); (case aF => exact (fun _ _ => trivial)); (case aO => exact (pR HO_5.out)); (case aS => exact (below_size (bl HB.out))); (case aL => have := LMc8.out; omega); intro v250 w12 ho hb hg hat; rw [← Ny249.out] at ho; replace BK247 := Aside0.mk (blk_grown (g := gb247) (o := .cells #[.string ((rd_T89 l0 x10_1).f0), .int .i64 ((rd_T89 l0 x10_1).f1), .int .i64 ((rd_T89 l0 x10_1).f2)] 89 (0, 0)) (pk BK247.out) hg (Kd.R_ne HO_5.out BK247.out (by decide))); replace HB := Aside0.mk (hb); have HO251 := Aside0.mk (ho); clear HO_5; clear ho hb hg hat))
        go_roundg k1
        case measure => have := HK1.out; omega
        case rel => exact ⟨(y249), (wrap64 (x10_1 + 1)), hsr, H', ⟨by have := HK1.out; omega⟩, ⟨pR HO251.out⟩, ⟨bl HB.out⟩⟩
       ·rw [if_neg c8] at H
        exact absurd H (by simp)
      ·rw [if_neg c6] at H
       exact absurd H (by simp)
     ·rw [if_neg c5] at H
      exact absurd H (by simp)
    ·rw [if_neg c4] at H
     have c4b0 : decide (x10_1 < (l0.length : Int)) = false := decide_eq_false c4
     clear c4
     obtain rfl := Option.some.inj H
     go_wp2
     go_ret
     exact ⟨_, er0, pR HO_5.out, bl HB.out⟩
 ·rw [if_neg c3] at H
  exact absurd H (by simp)

/-! ### payload_CheckSchema_2: function 50 -/
def payload_CheckSchema_2.f (a0_0 : ByteArray) (a0_1 : Int) : Option (ByteArray) := some a0_0
set_option maxHeartbeats 8000000 in
set_option maxRecDepth 100000 in
theorem payload_CheckSchema_2.calls (a0_0 : ByteArray) (a0_1 : Int) (r : ByteArray) (w : World) (h : payload_CheckSchema_2.f a0_0 a0_1 = some r) :
  Calls Tryd.prog 50 #[.agg #[.string a0_0, .int .i64 a0_1]] w fun e w' => e = .returned (.string r) ∧ Below w.heap.size w w' := by
 have hu93 := Tryd.underlying93
 have HB := Aside0.mk (Below.refl w.heap.size w)
 have H : (some a0_0) = some r := h
 clear h
 obtain rfl := Option.some.inj H
 go_enter Tryd.func50, Tryd.ntmps50
 go_wp2_with (first | ((with_reducible refine gate_dst (N := 1) rfl ?_); refine box_event ?hg (N := 1) ?hd (cs := #[.string a0_0, .int .i64 a0_1]) (t := 93) ?hr ?_; (case hd => rfl); (case hg => rfl); (case hr => first | (go_simp; done) | (go_simp; rfl)); intro gb252 hg w2 hbox hb; have BK252 := Aside0.mk (hbox); have GW252 := Aside0.mk (gs (w := w) hg (bl HB.out)); have GE252 := Aside0.mk (gs (w := w) hg (bl HB.out)); replace HB := Aside0.mk (below_step (bl HB.out) hb); clear hb hbox hg; obtain ⟨hcz3_0, hcz3_1, hfz3_0, hfz3_1⟩ := cz2 BK252.out))
 go_ret
 exact ⟨er0, bl HB.out⟩

/-! ### api_FieldSpec_49: function 49 -/
def api_FieldSpec_49.l0 : Nat → List ByteArray → List (S93) → Int → Int → Option (List ByteArray)
 | 0, _, _, _, _ => none
 | k + 1, x5, x8, x9, x10 => if x10 < x9 then (if 0 ≤ x10 then (if x10 < (x8.length : Int) then ((payload_CheckSchema_2.f ((rd_T93 x8 x10).f0) ((rd_T93 x8 x10).f1)).bind fun t255 => (if x5.length < 8796093022208 then (api_FieldSpec_49.l0 k (x5 ++ [t255]) x8 x9 (wrap64 (x10 + 1))) else (none))) else (none)) else (none)) else (some x5)
def api_FieldSpec_49.f (k : Nat) (l0 : List (S93)) (a1 : Nat) : Option (List ByteArray) := if a1 = 50 then (api_FieldSpec_49.l0 k ([] : List ByteArray) l0 (l0.length : Int) 0) else (none)
theorem api_FieldSpec_49.mono_l : ∀ k, (∀ y0 y1 y2 y3, LeO (api_FieldSpec_49.l0 k y0 y1 y2 y3) (api_FieldSpec_49.l0 (k + 1) y0 y1 y2 y3))
 | 0 => fun _ _ _ _ r h => by simp [api_FieldSpec_49.l0] at h
 | k + 1 => by
  have ih0 := api_FieldSpec_49.mono_l k
  ·intro y0 y1 y2 y3
   unfold api_FieldSpec_49.l0
   repeat' first
   | (with_reducible exact ih0 _ _ _ _)
   | (with_reducible exact LeO.refl _)
   | (with_reducible exact LeO.none _)
   | (with_reducible refine LeO.ite ?_ ?_)
   | (with_reducible refine LeO.bind ?_ (fun _ => ?_))
   | exact ih0 _ _ _ _
   | exact LeO.none _
   | refine LeO.ite ?_ ?_
   | refine LeO.bind ?_ (fun _ => ?_)
theorem api_FieldSpec_49.mono : ∀ a0 a1 k, LeO (api_FieldSpec_49.f k a0 a1) (api_FieldSpec_49.f (k + 1) a0 a1) := by
 intro a0 a1 k
 have ih0 := api_FieldSpec_49.mono_l k
 unfold api_FieldSpec_49.f
 repeat' first
   | (with_reducible exact ih0 _ _ _ _)
   | (with_reducible exact LeO.refl _)
   | (with_reducible exact LeO.none _)
   | (with_reducible refine LeO.ite ?_ ?_)
   | (with_reducible refine LeO.bind ?_ (fun _ => ?_))
   | exact ih0 _ _ _ _
   | exact LeO.none _
   | refine LeO.ite ?_ ?_
   | refine LeO.bind ?_ (fun _ => ?_)
set_option maxHeartbeats 8000000 in
set_option maxRecDepth 100000 in
theorem api_FieldSpec_49.calls (k : Nat) (A0 : Option Addr) (c0 : Nat) (l0 : List (S93)) (a1 : Nat) (r : List ByteArray) (w : World) (hr0 : Kd.C k93 w A0 l0.length l0) (hc0 : l0.length ≤ c0) (h : api_FieldSpec_49.f k l0 a1 = some r) :
  Calls Tryd.prog 49 #[.slice A0 l0.length c0, .func (.func a1) #[] #[]] w fun e w' => ∃ v0_ : Value, e = .returned (v0_) ∧ Kd.R Kd.string 9 w' w.heap.size (fun _ => True) v0_ r ∧ Below w.heap.size w w' := by
 have hu93 := Tryd.underlying93
 have HR0 := Aside0.mk hr0
 have HC0 := Aside0.mk hc0
 clear hr0 hc0
 have HB := Aside0.mk (Below.refl w.heap.size w)
 have H : (if a1 = 50 then (api_FieldSpec_49.l0 k ([] : List ByteArray) l0 (l0.length : Int) 0) else (none)) = some r := h
 clear h
 by_cases c3 : a1 = 50
 ·rw [if_pos c3] at H
  subst c3
  have H' := Aside0.mk H
  clear H
  go_enter Tryd.func49, Tryd.ntmps49
  go_wp2
  go_loopg [5, 10] k (fun kq v5 v10 w' => ∃ (x5_1 : List ByteArray) (x10_1 : Int), v10 = .int .i64 x10_1 ∧ Aside0 (api_FieldSpec_49.l0 kq x5_1 l0 (l0.length : Int) x10_1 = some r) ∧ Aside0 (kq ≤ k) ∧ Aside0 (Kd.R Kd.string 9 w' w.heap.size (fun _ => True) v5 x5_1) ∧ Aside0 (Below w.heap.size w w'))
  case atStart => exact ⟨(([] : List ByteArray)), (0), hsr, H', ⟨Nat.le_refl _⟩, ⟨by first | exact Kd.R_nil _ _ _ _ _ | exact Kd.N_nil _ _ _ _ _ | exact Kd.V_nil _ _ _ _ _ | exact Kd.Q_nil _ _ _ _ _ | exact Kd.S_nil _ _ _ _ _⟩, ⟨bl HB.out⟩⟩
  case round =>
   clear H'
   try clear p2
   try clear c3
   obtain ⟨x5_1, x10_1, rfl, HA, HK1, HO_5, HB⟩ := hrel
   cases gk with
   | zero => exact absurd HA.out (by simp [api_FieldSpec_49.l0])
   | succ k1 =>
    have H := HA.out
    clear HA
    simp only [api_FieldSpec_49.l0] at H
    by_cases c4 : x10_1 < (l0.length : Int)
    ·rw [if_pos c4] at H
     have c4b0 : decide (x10_1 < (l0.length : Int)) = true := decide_eq_true c4
     clear c4
     by_cases c5 : 0 ≤ x10_1
     ·rw [if_pos c5] at H
      have c5b0 : decide (0 ≤ x10_1) = true := decide_eq_true c5
      clear c5
      by_cases c6 : x10_1 < (l0.length : Int)
      ·rw [if_pos c6] at H
       have c6b0 : decide (x10_1 < (l0.length : Int)) = true := decide_eq_true c6
       clear c6
       replace H := Option.bind_eq_some_iff.mp H
       obtain ⟨t255, A70, H⟩ := H
       replace H : (if x5_1.length < 8796093022208 then (api_FieldSpec_49.l0 k1 (x5_1 ++ [t255]) l0 (l0.length : Int) (wrap64 (x10_1 + 1))) else (none)) = some r := H
       have A7 := Aside0.mk A70
       clear A70
       by_cases c8 : x5_1.length < 8796093022208
       ·rw [if_pos c8] at H
        have LMc8 := Aside0.mk c8
        clear c8
        obtain ⟨y256, hy256⟩ : ∃ y_ : List ByteArray, y_ = (x5_1 ++ [t255]) := ⟨_, rfl⟩
        replace H : (api_FieldSpec_49.l0 k1 y256 l0 (l0.length : Int) (wrap64 (x10_1 + 1))) = some r := by first | (rw [hy256]; with_reducible exact H) | (have H2_ := (Option.bind_some _ _).symm.trans H; rw [hy256]; with_reducible exact H2_) | (have H2_ := (Option.bind_some _ _).symm.trans H; with_reducible exact H2_) | with_reducible exact H | (rw [hy256]; exact H) | exact H
        have Ny256 := Aside0.mk hy256
        clear hy256
        have H' := Aside0.mk H
        clear H
        have p253 : 0 ≤ (x10_1 : Int) := of_decide_eq_true ha
        have q253 : x10_1 < (l0.length : Int) := of_decide_eq_true ha
        obtain ⟨ad253, e253, hx253_0, hx253_1⟩ := at_T93 HR0.out x10_1 p253 q253
        cases e253
        replace hx253_0 := (HB.out.cell (World.block_lt_of_cell? w _ hx253_0)).trans hx253_0
        replace hx253_1 := (HB.out.cell (World.block_lt_of_cell? w _ hx253_1)).trans hx253_1
        replace p253 := eq_true p253
        replace q253 := eq_true q253
        go_wp2_with (first | ((with_reducible refine gate_dst (N := 7) rfl ?_); refine box_event ?hg (N := 7) ?hd (cs := #[.string (⟨#[]⟩ : ByteArray), .int .i64 0]) (t := 93) ?hr ?_; (case hd => rfl); (case hg => rfl); (case hr => first | (go_simp; done) | (go_simp; rfl)); intro gb254 hg w9 hbox hb; replace HO_5 := Aside0.mk (Kd.R_below (pR HO_5.out) hb); have BK254 := Aside0.mk (hbox); have GW254 := Aside0.mk (gs (w := w) hg (bl HB.out)); have GE254 := Aside0.mk (gs (w := w) hg (bl HB.out)); replace HB := Aside0.mk (below_step (bl HB.out) hb); clear hb hbox hg; obtain ⟨hcz10_0, hcz10_1, hfz10_0, hfz10_1⟩ := cz2 BK254.out) | (go_at_call 50; (with_reducible refine (payload_CheckSchema_2.calls ((rd_T93 l0 x10_1).f0) ((rd_T93 l0 x10_1).f1) t255 _ A7.out).mono ?_); rintro e w11 ⟨rfl, hb⟩; replace HO_5 := Aside0.mk (Kd.R_below (by (with_reducible repeat (first | apply Kd.R_alloc | apply Kd.R_drewN | apply Kd.R_drew)); exact (Kd.R_mono (Kd.R_far (p := ⟨gb254, 1, none⟩) (Kd.R_far (p := ⟨gb254, 0, none⟩) (Kd.R_types HO_5.out BK254.out (by decide)) (fun _ hk => hk.2) (.string ((rd_T93 l0 x10_1).f0))) (fun _ hk => hk.2) (.int .i64 ((rd_T93 l0 x10_1).f1))) (fun _ h_ => h_.1))) hb); replace BK254 := Aside0.mk (blk_below (g := gb254) (o := .cells #[.string ((rd_T93 l0 x10_1).f0), .int .i64 ((rd_T93 l0 x10_1).f1)] 93 (0, 0)) (by refine pk ?_; refine blk_put (cs := #[.string ((rd_T93 l0 x10_1).f0), .int .i64 0]) ?_ 1 _ rfl; refine pk ?_; refine blk_put (cs := #[.string (⟨#[]⟩ : ByteArray), .int .i64 0]) ?_ 0 _ rfl; exact pk BK254.out) hb); replace HB := Aside0.mk (below_step (bl HB.out) hb); (try clear hb); (try clear hb2); (try clear hk); (try clear hi)) | ((with_reducible refine gate_builtin (b := .append) (xs := #[.tmp 14, .tmp 18]) rfl ?_); at_builtin; refine Kd.R_append Kd.string (w0 := w) w.heap.size rfl (.tmp 14) (.tmp 18) 35 9 (.string ⟨#[]⟩) 16 rfl Tryd.underlying35 info9 rfl (by decide) (by omega) u5 x5_1 t255 [.string t255] (fun _ => True) (fun _ => False) rfl rfl ?aP (fun _ hk => hk.elim) ?aF ?aO ?aB ?aS ?aL ?_; (case aP => exact rfl); (case aB => exact (bl HB.out)); (case aF => exact (fun _ _ => trivial)); (case aO => exact (pR HO_5.out)); (case aS => exact (below_size (bl HB.out))); (case aL => have := LMc8.out; omega); intro v257 w12 ho hb hg hat; rw [← Ny256.out] at ho; replace BK254 := Aside0.mk (blk_grown (g := gb254) (o := .cells #[.string ((rd_T93 l0 x10_1).f0), .int .i64 ((rd_T93 l0 x10_1).f1)] 93 (0, 0)) (pk BK254.out) hg (Kd.R_ne HO_5.out BK254.out (by decide))); replace HB := Aside0.mk (hb); have HO258 := Aside0.mk (ho); clear HO_5; clear ho hb hg hat))
        go_roundg k1
        case measure => have := HK1.out; omega
        case rel => exact ⟨(y256), (wrap64 (x10_1 + 1)), hsr, H', ⟨by have := HK1.out; omega⟩, ⟨pR HO258.out⟩, ⟨bl HB.out⟩⟩
       ·rw [if_neg c8] at H
        exact absurd H (by simp)
      ·rw [if_neg c6] at H
       exact absurd H (by simp)
     ·rw [if_neg c5] at H
      exact absurd H (by simp)
    ·rw [if_neg c4] at H
     have c4b0 : decide (x10_1 < (l0.length : Int)) = false := decide_eq_false c4
     clear c4
     obtain rfl := Option.some.inj H
     go_wp2
     go_ret
     exact ⟨_, er0, pR HO_5.out, bl HB.out⟩
 ·rw [if_neg c3] at H
  exact absurd H (by simp)

end Go.Proofs.YtbeljekpknpadaaDoor.PPayU
