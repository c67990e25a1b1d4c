-- Written by a program of this session on top of the print: some functions by hand.
import Derived.Test.YtbeljekpknpadaaDoorPPayVx0
import Derived.Test.YtbeljekpknpadaaDoorPPayVx4
import Derived.Test.YtbeljekpknpadaaDoorPPayVx6
namespace Go.Proofs.YtbeljekpknpadaaDoor.PPayV
open Go.RowKit Go.Proofs.YtbeljekpknpadaaDoorW.PrintWords Go.Proofs.YtbeljekpknpadaaDoorW.PrintLast Go.Proofs.YtbeljekpknpadaaDoorW.PrintMore
attribute [local go_sem] max2_int min2_int max_two min_two max_three min_three max_four min_four   -- for this text's walks alone
set_option linter.unusedVariables false
set_option linter.unusedSimpArgs false

/-! ### lodestarlaw05_awake: function 12 -/
def lodestarlaw05_awake.f (k : Nat)  : Option (Bool) := (payload_Encode.f k 1 (([(⟨(⟨#[118]⟩ : ByteArray), (([1, (-1)] : List Int))⟩ : S59)] : List (S59))) (([(⟨(⟨#[111, 112, 101, 110]⟩ : ByteArray), (⟨3, 1, (⟨#[]⟩ : ByteArray)⟩ : S33)⟩ : S61)] : List (S61)))).bind fun bt224 => ((payload_Encode.f k 1 ([] : List (S59)) ([] : List (S61))).bind fun bt226 => (if bt224.1.toList = ([1, 0, 0, 0, 0, 0, 0, 0, 1, 1, 118, 2, 1, 128, 255, 127, 1, 4, 111, 112, 101, 110, 3, 1] : List UInt8) then (if bt224.2 = 0 then (some (bt226.2 == 120)) else (some false)) else (some false)))
theorem lodestarlaw05_awake.mono : ∀ k, LeO (lodestarlaw05_awake.f k ) (lodestarlaw05_awake.f (k + 1) ) := by
 intro  k
 unfold lodestarlaw05_awake.f
 repeat' first
   | (with_reducible exact payload_Encode.mono _ _ _ _)
   | (with_reducible exact LeO.refl _)
   | (with_reducible exact LeO.none _)
   | (with_reducible refine LeO.ite ?_ ?_)
   | (with_reducible refine LeO.bind ?_ (fun _ => ?_))
   | exact payload_Encode.mono _ _ _ _
   | exact LeO.none _
   | refine LeO.ite ?_ ?_
   | refine LeO.bind ?_ (fun _ => ?_)
set_option maxHeartbeats 8000000 in
set_option maxRecDepth 100000 in
theorem lodestarlaw05_awake.calls (k : Nat)  (r : Bool) (w : World) (hU : LaidU w) (h : lodestarlaw05_awake.f k  = some r) :
  Calls Tryd.prog 12 #[] w fun e w' => e = .returned (.bool r) ∧ Below w.heap.size w w' := by
 have hu59 := Tryd.underlying59
 have hu33 := Tryd.underlying33
 have hu61 := Tryd.underlying61
 have hu25 := Tryd.underlying25
 have HU := Aside0.mk hU
 clear hU
 have HB := Aside0.mk (Below.refl w.heap.size w)
 have H : ((payload_Encode.f k 1 (([(⟨(⟨#[118]⟩ : ByteArray), (([1, (-1)] : List Int))⟩ : S59)] : List (S59))) (([(⟨(⟨#[111, 112, 101, 110]⟩ : ByteArray), (⟨3, 1, (⟨#[]⟩ : ByteArray)⟩ : S33)⟩ : S61)] : List (S61)))).bind fun bt224 => ((payload_Encode.f k 1 ([] : List (S59)) ([] : List (S61))).bind fun bt226 => (if bt224.1.toList = ([1, 0, 0, 0, 0, 0, 0, 0, 1, 1, 118, 2, 1, 128, 255, 127, 1, 4, 111, 112, 101, 110, 3, 1] : List UInt8) then (if bt224.2 = 0 then (some (bt226.2 == 120)) else (some false)) else (some false)))) = some r := h
 clear h
 obtain ⟨y214, hy214⟩ : ∃ y_ : List Int, y_ = (([1, (-1)] : List Int)) := ⟨_, rfl⟩
 replace H : ((payload_Encode.f k 1 (([(⟨(⟨#[118]⟩ : ByteArray), y214⟩ : S59)] : List (S59))) (([(⟨(⟨#[111, 112, 101, 110]⟩ : ByteArray), (⟨3, 1, (⟨#[]⟩ : ByteArray)⟩ : S33)⟩ : S61)] : List (S61)))).bind fun bt224 => ((payload_Encode.f k 1 ([] : List (S59)) ([] : List (S61))).bind fun bt226 => (if bt224.1.toList = ([1, 0, 0, 0, 0, 0, 0, 0, 1, 1, 118, 2, 1, 128, 255, 127, 1, 4, 111, 112, 101, 110, 3, 1] : List UInt8) then (if bt224.2 = 0 then (some (bt226.2 == 120)) else (some false)) else (some false)))) = some r := by first | (rw [hy214]; with_reducible exact H) | (have H2_ := (Option.bind_some _ _).symm.trans H; rw [hy214]; with_reducible exact H2_) | (have H2_ := (Option.bind_some _ _).symm.trans H; with_reducible exact H2_) | with_reducible exact H | (rw [hy214]; exact H) | exact H
 have Ny214 := Aside0.mk hy214
 clear hy214
 obtain ⟨y217, hy217⟩ : ∃ y_ : List (S59), y_ = (([(⟨(⟨#[118]⟩ : ByteArray), y214⟩ : S59)] : List (S59))) := ⟨_, rfl⟩
 replace H : ((payload_Encode.f k 1 y217 (([(⟨(⟨#[111, 112, 101, 110]⟩ : ByteArray), (⟨3, 1, (⟨#[]⟩ : ByteArray)⟩ : S33)⟩ : S61)] : List (S61)))).bind fun bt224 => ((payload_Encode.f k 1 ([] : List (S59)) ([] : List (S61))).bind fun bt226 => (if bt224.1.toList = ([1, 0, 0, 0, 0, 0, 0, 0, 1, 1, 118, 2, 1, 128, 255, 127, 1, 4, 111, 112, 101, 110, 3, 1] : List UInt8) then (if bt224.2 = 0 then (some (bt226.2 == 120)) else (some false)) else (some false)))) = some r := by first | (rw [hy217]; with_reducible exact H) | (have H2_ := (Option.bind_some _ _).symm.trans H; rw [hy217]; with_reducible exact H2_) | (have H2_ := (Option.bind_some _ _).symm.trans H; with_reducible exact H2_) | with_reducible exact H | (rw [hy217]; exact H) | exact H
 have Ny217 := Aside0.mk hy217
 clear hy217
 obtain ⟨y220, hy220⟩ : ∃ y_ : List (S61), y_ = (([(⟨(⟨#[111, 112, 101, 110]⟩ : ByteArray), (⟨3, 1, (⟨#[]⟩ : ByteArray)⟩ : S33)⟩ : S61)] : List (S61))) := ⟨_, rfl⟩
 replace H : ((payload_Encode.f k 1 y217 y220).bind fun bt224 => ((payload_Encode.f k 1 ([] : List (S59)) ([] : List (S61))).bind fun bt226 => (if bt224.1.toList = ([1, 0, 0, 0, 0, 0, 0, 0, 1, 1, 118, 2, 1, 128, 255, 127, 1, 4, 111, 112, 101, 110, 3, 1] : List UInt8) then (if bt224.2 = 0 then (some (bt226.2 == 120)) else (some false)) else (some false)))) = some r := by first | (rw [hy220]; with_reducible exact H) | (have H2_ := (Option.bind_some _ _).symm.trans H; rw [hy220]; with_reducible exact H2_) | (have H2_ := (Option.bind_some _ _).symm.trans H; with_reducible exact H2_) | with_reducible exact H | (rw [hy220]; exact H) | exact H
 have Ny220 := Aside0.mk hy220
 clear hy220
 replace H := Option.bind_eq_some_iff.mp H
 obtain ⟨⟨t224, t225⟩, A10, H⟩ := H
 replace H : ((payload_Encode.f k 1 ([] : List (S59)) ([] : List (S61))).bind fun bt226 => (if t224.toList = ([1, 0, 0, 0, 0, 0, 0, 0, 1, 1, 118, 2, 1, 128, 255, 127, 1, 4, 111, 112, 101, 110, 3, 1] : List UInt8) then (if t225 = 0 then (some (bt226.2 == 120)) else (some false)) else (some false))) = some r := H
 have A1 := Aside0.mk A10
 clear A10
 replace H := Option.bind_eq_some_iff.mp H
 obtain ⟨⟨t226, t227⟩, A20, H⟩ := H
 replace H : (if t224.toList = ([1, 0, 0, 0, 0, 0, 0, 0, 1, 1, 118, 2, 1, 128, 255, 127, 1, 4, 111, 112, 101, 110, 3, 1] : List UInt8) then (if t225 = 0 then (some (t227 == 120)) else (some false)) else (some false)) = some r := H
 have A2 := Aside0.mk A20
 clear A20
 by_cases c3 : t224.toList = ([1, 0, 0, 0, 0, 0, 0, 0, 1, 1, 118, 2, 1, 128, 255, 127, 1, 4, 111, 112, 101, 110, 3, 1] : List UInt8)
 ·rw [if_pos c3] at H
  have c3b0 : (t224.toList == ([1, 0, 0, 0, 0, 0, 0, 0, 1, 1, 118, 2, 1, 128, 255, 127, 1, 4, 111, 112, 101, 110, 3, 1] : List UInt8)) = true := beq_iff_eq.mpr c3
  have c3b1 : (t224.toList != ([1, 0, 0, 0, 0, 0, 0, 0, 1, 1, 118, 2, 1, 128, 255, 127, 1, 4, 111, 112, 101, 110, 3, 1] : List UInt8)) = false := bne_eq_false_iff_eq.mpr c3
  clear c3
  by_cases c4 : t225 = 0
  ·rw [if_pos c4] at H
   have c4b0 : (t225 == 0) = true := beq_iff_eq.mpr c4
   have c4b1 : (t225 != 0) = false := bne_eq_false_iff_eq.mpr c4
   clear c4
   obtain rfl := Option.some.inj H
   go_enter Tryd.func12, Tryd.ntmps12
   go_wp2_with (first | ((with_reducible refine gate_dst (N := 6) rfl ?_); refine Kd.R_lit (Kd.int .i64) _ 3 ?hg (N := 6) ?hd (xs := ([1, (-1)] : List Int)) (inner := [.int .i64 1, .int .i64 (-1)]) (ok := fun _ => True) (okp := fun _ => True) ?hr ?hp (fun _ hk => hk) trivial (Below.refl _ _) (Nat.le_refl _) (by simp) ?_; (case hd => rfl); (case hg => rfl); (case hr => first | (go_simp; done) | (go_simp; rfl)); (case hp => exact (Reps.one (show Kd.M (Kd.int .i64) _ _ _ 1 [.int .i64 1] from rfl) (Reps.one (show Kd.M (Kd.int .i64) _ _ _ (-1) [.int .i64 (-1)] from rfl) (Reps.none _ _)))); intro v215 w5 ho6 hb hg_ hnew_; clear hg_ hnew_; (first | rw [← Ny214.out] at ho6 | (simp only [Int.reduceToNat] at ho6; rw [← Ny214.out] at ho6)); have HO216 := Aside0.mk (Kd.R_lower ho6 (below_size (bl HB.out))); replace HB := Aside0.mk (below_step (bl HB.out) hb); clear hb ho6; obtain ⟨Ao7, co7, eo7⟩ := Kd.R_slice HO216.out; subst eo7) | ((with_reducible refine gate_dst (N := 8) rfl ?_); refine Kd.N_lit k59 _ 59 ?hg (N' := 8) ?hd (xs := ([(⟨(⟨#[118]⟩ : ByteArray), y214⟩ : S59)] : List (S59))) (inner := [.string (⟨#[118]⟩ : ByteArray), .slice Ao7 y214.length co7]) (ok := (fun _ => True)) (okp := (fun _ => True)) ?hr ?hp (fun _ hk => hk) ((show ∀ k_, w5.heap.size ≤ k_ → (fun _ => True) k_ from fun k_ hk => trivial) _ (Nat.le_refl _)) (Below.refl _ _) (Nat.le_refl _) (by simp) ?_; (case hd => rfl); (case hg => rfl); (case hr => first | (go_simp; done) | (go_simp; rfl)); (case hp => exact (Reps.c2 (show Kd.FK k59 _ _ (⟨(⟨#[118]⟩ : ByteArray), y214⟩ : S59) [.string (⟨#[118]⟩ : ByteArray), .slice Ao7 y214.length co7] from (k59_mkF _ _ (⟨(⟨#[118]⟩ : ByteArray), y214⟩ : S59) (Kd.R_reads' (Kd.R_mono (ok' := (fun _ => True)) (HO216.out) (fun k_ hk => trivial))).2.1 (Kd.R_F (Kd.R_mono (ok' := (fun _ => True)) (HO216.out) (fun k_ hk => trivial))))) (Reps.none _ _))); intro v218 w8 ho9 hb hg_ hnew_; clear hg_ hnew_; (first | rw [← Ny217.out] at ho9 | (simp only [Int.reduceToNat] at ho9; rw [← Ny217.out] at ho9)); have HO219 := Aside0.mk (Kd.N_lower ho9 (below_size (bl HB.out))); replace HB := Aside0.mk (below_step (bl HB.out) hb); clear HO216; clear hb ho9) | ((with_reducible refine gate_dst (N := 11) rfl ?_); refine Kd.R_lit k61 _ 61 ?hg (N := 11) ?hd (xs := ([(⟨(⟨#[111, 112, 101, 110]⟩ : ByteArray), (⟨3, 1, (⟨#[]⟩ : ByteArray)⟩ : S33)⟩ : S61)] : List (S61))) (inner := [.string (⟨#[111, 112, 101, 110]⟩ : ByteArray), .int .i64 3, .int .i64 1, .string (⟨#[]⟩ : ByteArray)]) (ok := fun _ => True) (okp := fun _ => True) ?hr ?hp (fun _ hk => hk) trivial (Below.refl _ _) (Nat.le_refl _) (by simp) ?_; (case hd => rfl); (case hg => rfl); (case hr => first | (go_simp; done) | (go_simp; rfl)); (case hp => exact (Reps.c4 (show Kd.M k61 _ _ _ (⟨(⟨#[111, 112, 101, 110]⟩ : ByteArray), (⟨3, 1, (⟨#[]⟩ : ByteArray)⟩ : S33)⟩ : S61) [.string (⟨#[111, 112, 101, 110]⟩ : ByteArray), .int .i64 3, .int .i64 1, .string (⟨#[]⟩ : ByteArray)] from (k61_mkM _ _ _ (⟨(⟨#[111, 112, 101, 110]⟩ : ByteArray), (⟨3, 1, (⟨#[]⟩ : ByteArray)⟩ : S33)⟩ : S61) )) (Reps.none _ _))); intro v221 w10 ho11 hb hg_ hnew_; clear hg_ hnew_; (first | rw [← Ny220.out] at ho11 | (simp only [Int.reduceToNat] at ho11; rw [← Ny220.out] at ho11)); replace HO219 := Aside0.mk (Kd.N_elder' (pN HO219.out) (Kd.R_base ho11) hb); have HO222 := Aside0.mk (Kd.R_lower ho11 (below_size (bl HB.out))); replace HB := Aside0.mk (below_step (bl HB.out) hb); clear hb ho11; obtain ⟨Ao12, co12, eo12⟩ := Kd.R_slice HO222.out; subst eo12; obtain ⟨Ao13, co13, eo13⟩ := Kd.N_slice HO219.out; subst eo13) | ((with_reducible refine gate_dst (N := 1) rfl ?_); refine box_event ?hg (N := 1) ?hd (cs := #[.int .i64 0, .slice none 0 0, .slice none 0 0]) (t := 25) ?hr ?_; (case hd => rfl); (case hg => rfl); (case hr => first | (go_simp; done) | (go_simp; rfl)); intro gb223 hg w14 hbox hb; replace HO219 := Aside0.mk (Kd.N_below (Kd.N_elderB (pN HO219.out) gb223 (Nat.le_of_eq hg.symm)) hb); replace HO222 := Aside0.mk (Kd.R_below (pR HO222.out) hb); have BK223 := Aside0.mk (hbox); have GW223 := Aside0.mk (gs (w := w) hg (bl HB.out)); have GE223 := Aside0.mk (gs (w := w) hg (bl HB.out)); replace HB := Aside0.mk (below_step (bl HB.out) hb); clear hb hbox hg; obtain ⟨hcz15_0, hcz15_1, hcz15_2, hfz15_0, hfz15_1, hfz15_2⟩ := cz3 BK223.out) | ((with_reducible refine gate_callee (f := 13) rfl ?_); refine goesL_ (some 15) rfl rfl Tryd.func13 kr rfl #[.agg #[.int .i64 1, .slice Ao13 y217.length co13, .slice Ao12 y220.length co12]] rfl ga ?_; (with_reducible refine (payload_Encode.calls k 1 _ _ y217 _ _ y220 t224 t225 _ ?side1 ?side2 ?side3 ?side4 ?side5 A1.out).mono ?_); (case side1 => refine (Kd.N_reads' (e := 59) (base := w.heap.size) (ok := fun k_ => ((True ∧ some k_ ≠ (.slice Ao12 y220.length co12 : Value).ownBlock) ∧ k_ ≠ gb223)) (n := y217.length) (c := co13) ?_).2.2; exact (by (with_reducible repeat (first | apply Kd.N_alloc | apply Kd.N_drewN | apply Kd.N_drew)); exact (Kd.N_mono (Kd.N_far (p := ⟨gb223, 2, none⟩) (Kd.N_far (p := ⟨gb223, 1, none⟩) (Kd.N_far (p := ⟨gb223, 0, none⟩) (Kd.N_mono HO219.out (fun k_ hk => (⟨hk, hk.2⟩ : _ ∧ k_ ≠ gb223))) (fun _ hk => hk.2) (.int .i64 1)) (fun _ hk => hk.2) (.slice Ao13 y217.length co13)) (fun _ hk => hk.2) (.slice Ao12 y220.length co12)) (fun _ h_ => h_.1)))); (case side2 => exact (Kd.N_reads' HO219.out).2.1); (case side3 => refine (Kd.R_reads' (e := 61) (base := w.heap.size) (ok := fun k_ => True) (n := y220.length) (c := co12) ?_).2.2; exact (by (with_reducible repeat (first | apply Kd.R_alloc | apply Kd.R_drewN | apply Kd.R_drew)); exact (Kd.R_mono (Kd.R_far (p := ⟨gb223, 2, none⟩) (Kd.R_far (p := ⟨gb223, 1, none⟩) (Kd.R_far (p := ⟨gb223, 0, none⟩) (Kd.R_types HO222.out BK223.out (by decide)) (fun _ hk => hk.2) (.int .i64 1)) (fun _ hk => hk.2) (.slice Ao13 y217.length co13)) (fun _ hk => hk.2) (.slice Ao12 y220.length co12)) (fun _ h_ => h_.1)))); (case side4 => exact (Kd.R_reads' HO222.out).2.1); (case side5 => exact LaidU.below HU.out (bl HB.out)); rintro e w16 ⟨rfl, hb⟩; refine ⟨_, rfl, ?_⟩; replace HO219 := Aside0.mk (Kd.N_below (by (with_reducible repeat (first | apply Kd.N_alloc | apply Kd.N_drewN | apply Kd.N_drew)); exact (Kd.N_mono (Kd.N_far (p := ⟨gb223, 2, none⟩) (Kd.N_far (p := ⟨gb223, 1, none⟩) (Kd.N_far (p := ⟨gb223, 0, none⟩) (Kd.N_mono HO219.out (fun k_ hk => (⟨hk, hk.2⟩ : _ ∧ k_ ≠ gb223))) (fun _ hk => hk.2) (.int .i64 1)) (fun _ hk => hk.2) (.slice Ao13 y217.length co13)) (fun _ hk => hk.2) (.slice Ao12 y220.length co12)) (fun _ h_ => h_.1))) hb); replace HO222 := Aside0.mk (Kd.R_below (by (with_reducible repeat (first | apply Kd.R_alloc | apply Kd.R_drewN | apply Kd.R_drew)); exact (Kd.R_mono (Kd.R_far (p := ⟨gb223, 2, none⟩) (Kd.R_far (p := ⟨gb223, 1, none⟩) (Kd.R_far (p := ⟨gb223, 0, none⟩) (Kd.R_types HO222.out BK223.out (by decide)) (fun _ hk => hk.2) (.int .i64 1)) (fun _ hk => hk.2) (.slice Ao13 y217.length co13)) (fun _ hk => hk.2) (.slice Ao12 y220.length co12)) (fun _ h_ => h_.1))) hb); replace BK223 := Aside0.mk (blk_below (g := gb223) (o := .cells #[.int .i64 1, .slice Ao13 y217.length co13, .slice Ao12 y220.length co12] 25 (0, 0)) (by refine pk ?_; refine blk_put (cs := #[.int .i64 1, .slice Ao13 y217.length co13, .slice none 0 0]) ?_ 2 _ rfl; refine pk ?_; refine blk_put (cs := #[.int .i64 1, .slice none 0 0, .slice none 0 0]) ?_ 1 _ rfl; refine pk ?_; refine blk_put (cs := #[.int .i64 0, .slice none 0 0, .slice none 0 0]) ?_ 0 _ rfl; exact pk BK223.out) hb); replace HB := Aside0.mk (below_step (bl HB.out) hb); (try clear hb); (try clear hb2); (try clear hk); (try clear hi)) | ((with_reducible refine gate_callee (f := 13) rfl ?_); refine goesL_ (some 20) rfl rfl Tryd.func13 kr rfl #[.agg #[.int .i64 1, .slice none 0 0, .slice none 0 0]] rfl ga ?_; (refine (payload_Encode.calls k 1 _ _ ([] : List (S59)) _ _ ([] : List (S61)) t226 t227 _ ?side1 ?side2 ?side3 ?side4 ?side5 A2.out).mono ?_); (case side1 => exact Kd.C_nil _ _); (case side2 => exact Nat.le_refl _); (case side3 => exact Kd.C_nil _ _); (case side4 => exact Nat.le_refl _); (case side5 => exact LaidU.below HU.out (bl HB.out)); rintro e w17 ⟨rfl, hb⟩; refine ⟨_, rfl, ?_⟩; replace HO219 := Aside0.mk (Kd.N_below (pN HO219.out) hb); replace HO222 := Aside0.mk (Kd.R_below (pR HO222.out) hb); replace BK223 := Aside0.mk (blk_below (pk BK223.out) hb); replace HB := Aside0.mk (below_step (bl HB.out) hb); (try clear hb); (try clear hb2); (try clear hk); (try clear hi)))
   go_ret
   exact ⟨er0, bl HB.out⟩
  ·rw [if_neg c4] at H
   have c4b0 : (t225 == 0) = false := beq_eq_false_iff_ne.mpr c4
   have c4b1 : (t225 != 0) = true := bne_iff_ne.mpr c4
   obtain rfl := Option.some.inj H
   go_enter Tryd.func12, Tryd.ntmps12
   go_wp2_with (first | ((with_reducible refine gate_dst (N := 6) rfl ?_); refine Kd.R_lit (Kd.int .i64) _ 3 ?hg (N := 6) ?hd (xs := ([1, (-1)] : List Int)) (inner := [.int .i64 1, .int .i64 (-1)]) (ok := fun _ => True) (okp := fun _ => True) ?hr ?hp (fun _ hk => hk) trivial (Below.refl _ _) (Nat.le_refl _) (by simp) ?_; (case hd => rfl); (case hg => rfl); (case hr => first | (go_simp; done) | (go_simp; rfl)); (case hp => exact (Reps.one (show Kd.M (Kd.int .i64) _ _ _ 1 [.int .i64 1] from rfl) (Reps.one (show Kd.M (Kd.int .i64) _ _ _ (-1) [.int .i64 (-1)] from rfl) (Reps.none _ _)))); intro v215 w18 ho19 hb hg_ hnew_; clear hg_ hnew_; (first | rw [← Ny214.out] at ho19 | (simp only [Int.reduceToNat] at ho19; rw [← Ny214.out] at ho19)); have HO216 := Aside0.mk (Kd.R_lower ho19 (below_size (bl HB.out))); replace HB := Aside0.mk (below_step (bl HB.out) hb); clear hb ho19; obtain ⟨Ao20, co20, eo20⟩ := Kd.R_slice HO216.out; subst eo20) | ((with_reducible refine gate_dst (N := 8) rfl ?_); refine Kd.N_lit k59 _ 59 ?hg (N' := 8) ?hd (xs := ([(⟨(⟨#[118]⟩ : ByteArray), y214⟩ : S59)] : List (S59))) (inner := [.string (⟨#[118]⟩ : ByteArray), .slice Ao20 y214.length co20]) (ok := (fun _ => True)) (okp := (fun _ => True)) ?hr ?hp (fun _ hk => hk) ((show ∀ k_, w18.heap.size ≤ k_ → (fun _ => True) k_ from fun k_ hk => trivial) _ (Nat.le_refl _)) (Below.refl _ _) (Nat.le_refl _) (by simp) ?_; (case hd => rfl); (case hg => rfl); (case hr => first | (go_simp; done) | (go_simp; rfl)); (case hp => exact (Reps.c2 (show Kd.FK k59 _ _ (⟨(⟨#[118]⟩ : ByteArray), y214⟩ : S59) [.string (⟨#[118]⟩ : ByteArray), .slice Ao20 y214.length co20] from (k59_mkF _ _ (⟨(⟨#[118]⟩ : ByteArray), y214⟩ : S59) (Kd.R_reads' (Kd.R_mono (ok' := (fun _ => True)) (HO216.out) (fun k_ hk => trivial))).2.1 (Kd.R_F (Kd.R_mono (ok' := (fun _ => True)) (HO216.out) (fun k_ hk => trivial))))) (Reps.none _ _))); intro v218 w21 ho22 hb hg_ hnew_; clear hg_ hnew_; (first | rw [← Ny217.out] at ho22 | (simp only [Int.reduceToNat] at ho22; rw [← Ny217.out] at ho22)); have HO219 := Aside0.mk (Kd.N_lower ho22 (below_size (bl HB.out))); replace HB := Aside0.mk (below_step (bl HB.out) hb); clear HO216; clear hb ho22) | ((with_reducible refine gate_dst (N := 11) rfl ?_); refine Kd.R_lit k61 _ 61 ?hg (N := 11) ?hd (xs := ([(⟨(⟨#[111, 112, 101, 110]⟩ : ByteArray), (⟨3, 1, (⟨#[]⟩ : ByteArray)⟩ : S33)⟩ : S61)] : List (S61))) (inner := [.string (⟨#[111, 112, 101, 110]⟩ : ByteArray), .int .i64 3, .int .i64 1, .string (⟨#[]⟩ : ByteArray)]) (ok := fun _ => True) (okp := fun _ => True) ?hr ?hp (fun _ hk => hk) trivial (Below.refl _ _) (Nat.le_refl _) (by simp) ?_; (case hd => rfl); (case hg => rfl); (case hr => first | (go_simp; done) | (go_simp; rfl)); (case hp => exact (Reps.c4 (show Kd.M k61 _ _ _ (⟨(⟨#[111, 112, 101, 110]⟩ : ByteArray), (⟨3, 1, (⟨#[]⟩ : ByteArray)⟩ : S33)⟩ : S61) [.string (⟨#[111, 112, 101, 110]⟩ : ByteArray), .int .i64 3, .int .i64 1, .string (⟨#[]⟩ : ByteArray)] from (k61_mkM _ _ _ (⟨(⟨#[111, 112, 101, 110]⟩ : ByteArray), (⟨3, 1, (⟨#[]⟩ : ByteArray)⟩ : S33)⟩ : S61) )) (Reps.none _ _))); intro v221 w23 ho24 hb hg_ hnew_; clear hg_ hnew_; (first | rw [← Ny220.out] at ho24 | (simp only [Int.reduceToNat] at ho24; rw [← Ny220.out] at ho24)); replace HO219 := Aside0.mk (Kd.N_elder' (pN HO219.out) (Kd.R_base ho24) hb); have HO222 := Aside0.mk (Kd.R_lower ho24 (below_size (bl HB.out))); replace HB := Aside0.mk (below_step (bl HB.out) hb); clear hb ho24; obtain ⟨Ao25, co25, eo25⟩ := Kd.R_slice HO222.out; subst eo25; obtain ⟨Ao26, co26, eo26⟩ := Kd.N_slice HO219.out; subst eo26) | ((with_reducible refine gate_dst (N := 1) rfl ?_); refine box_event ?hg (N := 1) ?hd (cs := #[.int .i64 0, .slice none 0 0, .slice none 0 0]) (t := 25) ?hr ?_; (case hd => rfl); (case hg => rfl); (case hr => first | (go_simp; done) | (go_simp; rfl)); intro gb223 hg w27 hbox hb; replace HO219 := Aside0.mk (Kd.N_below (Kd.N_elderB (pN HO219.out) gb223 (Nat.le_of_eq hg.symm)) hb); replace HO222 := Aside0.mk (Kd.R_below (pR HO222.out) hb); have BK223 := Aside0.mk (hbox); have GW223 := Aside0.mk (gs (w := w) hg (bl HB.out)); have GE223 := Aside0.mk (gs (w := w) hg (bl HB.out)); replace HB := Aside0.mk (below_step (bl HB.out) hb); clear hb hbox hg; obtain ⟨hcz28_0, hcz28_1, hcz28_2, hfz28_0, hfz28_1, hfz28_2⟩ := cz3 BK223.out) | ((with_reducible refine gate_callee (f := 13) rfl ?_); refine goesL_ (some 15) rfl rfl Tryd.func13 kr rfl #[.agg #[.int .i64 1, .slice Ao26 y217.length co26, .slice Ao25 y220.length co25]] rfl ga ?_; (with_reducible refine (payload_Encode.calls k 1 _ _ y217 _ _ y220 t224 t225 _ ?side1 ?side2 ?side3 ?side4 ?side5 A1.out).mono ?_); (case side1 => refine (Kd.N_reads' (e := 59) (base := w.heap.size) (ok := fun k_ => ((True ∧ some k_ ≠ (.slice Ao25 y220.length co25 : Value).ownBlock) ∧ k_ ≠ gb223)) (n := y217.length) (c := co26) ?_).2.2; exact (by (with_reducible repeat (first | apply Kd.N_alloc | apply Kd.N_drewN | apply Kd.N_drew)); exact (Kd.N_mono (Kd.N_far (p := ⟨gb223, 2, none⟩) (Kd.N_far (p := ⟨gb223, 1, none⟩) (Kd.N_far (p := ⟨gb223, 0, none⟩) (Kd.N_mono HO219.out (fun k_ hk => (⟨hk, hk.2⟩ : _ ∧ k_ ≠ gb223))) (fun _ hk => hk.2) (.int .i64 1)) (fun _ hk => hk.2) (.slice Ao26 y217.length co26)) (fun _ hk => hk.2) (.slice Ao25 y220.length co25)) (fun _ h_ => h_.1)))); (case side2 => exact (Kd.N_reads' HO219.out).2.1); (case side3 => refine (Kd.R_reads' (e := 61) (base := w.heap.size) (ok := fun k_ => True) (n := y220.length) (c := co25) ?_).2.2; exact (by (with_reducible repeat (first | apply Kd.R_alloc | apply Kd.R_drewN | apply Kd.R_drew)); exact (Kd.R_mono (Kd.R_far (p := ⟨gb223, 2, none⟩) (Kd.R_far (p := ⟨gb223, 1, none⟩) (Kd.R_far (p := ⟨gb223, 0, none⟩) (Kd.R_types HO222.out BK223.out (by decide)) (fun _ hk => hk.2) (.int .i64 1)) (fun _ hk => hk.2) (.slice Ao26 y217.length co26)) (fun _ hk => hk.2) (.slice Ao25 y220.length co25)) (fun _ h_ => h_.1)))); (case side4 => exact (Kd.R_reads' HO222.out).2.1); (case side5 => exact LaidU.below HU.out (bl HB.out)); rintro e w29 ⟨rfl, hb⟩; refine ⟨_, rfl, ?_⟩; replace HO219 := Aside0.mk (Kd.N_below (by (with_reducible repeat (first | apply Kd.N_alloc | apply Kd.N_drewN | apply Kd.N_drew)); exact (Kd.N_mono (Kd.N_far (p := ⟨gb223, 2, none⟩) (Kd.N_far (p := ⟨gb223, 1, none⟩) (Kd.N_far (p := ⟨gb223, 0, none⟩) (Kd.N_mono HO219.out (fun k_ hk => (⟨hk, hk.2⟩ : _ ∧ k_ ≠ gb223))) (fun _ hk => hk.2) (.int .i64 1)) (fun _ hk => hk.2) (.slice Ao26 y217.length co26)) (fun _ hk => hk.2) (.slice Ao25 y220.length co25)) (fun _ h_ => h_.1))) hb); replace HO222 := Aside0.mk (Kd.R_below (by (with_reducible repeat (first | apply Kd.R_alloc | apply Kd.R_drewN | apply Kd.R_drew)); exact (Kd.R_mono (Kd.R_far (p := ⟨gb223, 2, none⟩) (Kd.R_far (p := ⟨gb223, 1, none⟩) (Kd.R_far (p := ⟨gb223, 0, none⟩) (Kd.R_types HO222.out BK223.out (by decide)) (fun _ hk => hk.2) (.int .i64 1)) (fun _ hk => hk.2) (.slice Ao26 y217.length co26)) (fun _ hk => hk.2) (.slice Ao25 y220.length co25)) (fun _ h_ => h_.1))) hb); replace BK223 := Aside0.mk (blk_below (g := gb223) (o := .cells #[.int .i64 1, .slice Ao26 y217.length co26, .slice Ao25 y220.length co25] 25 (0, 0)) (by refine pk ?_; refine blk_put (cs := #[.int .i64 1, .slice Ao26 y217.length co26, .slice none 0 0]) ?_ 2 _ rfl; refine pk ?_; refine blk_put (cs := #[.int .i64 1, .slice none 0 0, .slice none 0 0]) ?_ 1 _ rfl; refine pk ?_; refine blk_put (cs := #[.int .i64 0, .slice none 0 0, .slice none 0 0]) ?_ 0 _ rfl; exact pk BK223.out) hb); replace HB := Aside0.mk (below_step (bl HB.out) hb); (try clear hb); (try clear hb2); (try clear hk); (try clear hi)) | ((with_reducible refine gate_callee (f := 13) rfl ?_); refine goesL_ (some 20) rfl rfl Tryd.func13 kr rfl #[.agg #[.int .i64 1, .slice none 0 0, .slice none 0 0]] rfl ga ?_; (refine (payload_Encode.calls k 1 _ _ ([] : List (S59)) _ _ ([] : List (S61)) t226 t227 _ ?side1 ?side2 ?side3 ?side4 ?side5 A2.out).mono ?_); (case side1 => exact Kd.C_nil _ _); (case side2 => exact Nat.le_refl _); (case side3 => exact Kd.C_nil _ _); (case side4 => exact Nat.le_refl _); (case side5 => exact LaidU.below HU.out (bl HB.out)); rintro e w30 ⟨rfl, hb⟩; refine ⟨_, rfl, ?_⟩; replace HO219 := Aside0.mk (Kd.N_below (pN HO219.out) hb); replace HO222 := Aside0.mk (Kd.R_below (pR HO222.out) hb); replace BK223 := Aside0.mk (blk_below (pk BK223.out) hb); replace HB := Aside0.mk (below_step (bl HB.out) hb); (try clear hb); (try clear hb2); (try clear hk); (try clear hi)))
   go_ret
   exact ⟨er0, bl HB.out⟩
 ·rw [if_neg c3] at H
  have c3b0 : (t224.toList == ([1, 0, 0, 0, 0, 0, 0, 0, 1, 1, 118, 2, 1, 128, 255, 127, 1, 4, 111, 112, 101, 110, 3, 1] : List UInt8)) = false := beq_eq_false_iff_ne.mpr c3
  have c3b1 : (t224.toList != ([1, 0, 0, 0, 0, 0, 0, 0, 1, 1, 118, 2, 1, 128, 255, 127, 1, 4, 111, 112, 101, 110, 3, 1] : List UInt8)) = true := bne_iff_ne.mpr c3
  obtain rfl := Option.some.inj H
  go_enter Tryd.func12, Tryd.ntmps12
  go_wp2_with (first | ((with_reducible refine gate_dst (N := 6) rfl ?_); refine Kd.R_lit (Kd.int .i64) _ 3 ?hg (N := 6) ?hd (xs := ([1, (-1)] : List Int)) (inner := [.int .i64 1, .int .i64 (-1)]) (ok := fun _ => True) (okp := fun _ => True) ?hr ?hp (fun _ hk => hk) trivial (Below.refl _ _) (Nat.le_refl _) (by simp) ?_; (case hd => rfl); (case hg => rfl); (case hr => first | (go_simp; done) | (go_simp; rfl)); (case hp => exact (Reps.one (show Kd.M (Kd.int .i64) _ _ _ 1 [.int .i64 1] from rfl) (Reps.one (show Kd.M (Kd.int .i64) _ _ _ (-1) [.int .i64 (-1)] from rfl) (Reps.none _ _)))); intro v215 w31 ho32 hb hg_ hnew_; clear hg_ hnew_; (first | rw [← Ny214.out] at ho32 | (simp only [Int.reduceToNat] at ho32; rw [← Ny214.out] at ho32)); have HO216 := Aside0.mk (Kd.R_lower ho32 (below_size (bl HB.out))); replace HB := Aside0.mk (below_step (bl HB.out) hb); clear hb ho32; obtain ⟨Ao33, co33, eo33⟩ := Kd.R_slice HO216.out; subst eo33) | ((with_reducible refine gate_dst (N := 8) rfl ?_); refine Kd.N_lit k59 _ 59 ?hg (N' := 8) ?hd (xs := ([(⟨(⟨#[118]⟩ : ByteArray), y214⟩ : S59)] : List (S59))) (inner := [.string (⟨#[118]⟩ : ByteArray), .slice Ao33 y214.length co33]) (ok := (fun _ => True)) (okp := (fun _ => True)) ?hr ?hp (fun _ hk => hk) ((show ∀ k_, w31.heap.size ≤ k_ → (fun _ => True) k_ from fun k_ hk => trivial) _ (Nat.le_refl _)) (Below.refl _ _) (Nat.le_refl _) (by simp) ?_; (case hd => rfl); (case hg => rfl); (case hr => first | (go_simp; done) | (go_simp; rfl)); (case hp => exact (Reps.c2 (show Kd.FK k59 _ _ (⟨(⟨#[118]⟩ : ByteArray), y214⟩ : S59) [.string (⟨#[118]⟩ : ByteArray), .slice Ao33 y214.length co33] from (k59_mkF _ _ (⟨(⟨#[118]⟩ : ByteArray), y214⟩ : S59) (Kd.R_reads' (Kd.R_mono (ok' := (fun _ => True)) (HO216.out) (fun k_ hk => trivial))).2.1 (Kd.R_F (Kd.R_mono (ok' := (fun _ => True)) (HO216.out) (fun k_ hk => trivial))))) (Reps.none _ _))); intro v218 w34 ho35 hb hg_ hnew_; clear hg_ hnew_; (first | rw [← Ny217.out] at ho35 | (simp only [Int.reduceToNat] at ho35; rw [← Ny217.out] at ho35)); have HO219 := Aside0.mk (Kd.N_lower ho35 (below_size (bl HB.out))); replace HB := Aside0.mk (below_step (bl HB.out) hb); clear HO216; clear hb ho35) | ((with_reducible refine gate_dst (N := 11) rfl ?_); refine Kd.R_lit k61 _ 61 ?hg (N := 11) ?hd (xs := ([(⟨(⟨#[111, 112, 101, 110]⟩ : ByteArray), (⟨3, 1, (⟨#[]⟩ : ByteArray)⟩ : S33)⟩ : S61)] : List (S61))) (inner := [.string (⟨#[111, 112, 101, 110]⟩ : ByteArray), .int .i64 3, .int .i64 1, .string (⟨#[]⟩ : ByteArray)]) (ok := fun _ => True) (okp := fun _ => True) ?hr ?hp (fun _ hk => hk) trivial (Below.refl _ _) (Nat.le_refl _) (by simp) ?_; (case hd => rfl); (case hg => rfl); (case hr => first | (go_simp; done) | (go_simp; rfl)); (case hp => exact (Reps.c4 (show Kd.M k61 _ _ _ (⟨(⟨#[111, 112, 101, 110]⟩ : ByteArray), (⟨3, 1, (⟨#[]⟩ : ByteArray)⟩ : S33)⟩ : S61) [.string (⟨#[111, 112, 101, 110]⟩ : ByteArray), .int .i64 3, .int .i64 1, .string (⟨#[]⟩ : ByteArray)] from (k61_mkM _ _ _ (⟨(⟨#[111, 112, 101, 110]⟩ : ByteArray), (⟨3, 1, (⟨#[]⟩ : ByteArray)⟩ : S33)⟩ : S61) )) (Reps.none _ _))); intro v221 w36 ho37 hb hg_ hnew_; clear hg_ hnew_; (first | rw [← Ny220.out] at ho37 | (simp only [Int.reduceToNat] at ho37; rw [← Ny220.out] at ho37)); replace HO219 := Aside0.mk (Kd.N_elder' (pN HO219.out) (Kd.R_base ho37) hb); have HO222 := Aside0.mk (Kd.R_lower ho37 (below_size (bl HB.out))); replace HB := Aside0.mk (below_step (bl HB.out) hb); clear hb ho37; obtain ⟨Ao38, co38, eo38⟩ := Kd.R_slice HO222.out; subst eo38; obtain ⟨Ao39, co39, eo39⟩ := Kd.N_slice HO219.out; subst eo39) | ((with_reducible refine gate_dst (N := 1) rfl ?_); refine box_event ?hg (N := 1) ?hd (cs := #[.int .i64 0, .slice none 0 0, .slice none 0 0]) (t := 25) ?hr ?_; (case hd => rfl); (case hg => rfl); (case hr => first | (go_simp; done) | (go_simp; rfl)); intro gb223 hg w40 hbox hb; replace HO219 := Aside0.mk (Kd.N_below (Kd.N_elderB (pN HO219.out) gb223 (Nat.le_of_eq hg.symm)) hb); replace HO222 := Aside0.mk (Kd.R_below (pR HO222.out) hb); have BK223 := Aside0.mk (hbox); have GW223 := Aside0.mk (gs (w := w) hg (bl HB.out)); have GE223 := Aside0.mk (gs (w := w) hg (bl HB.out)); replace HB := Aside0.mk (below_step (bl HB.out) hb); clear hb hbox hg; obtain ⟨hcz41_0, hcz41_1, hcz41_2, hfz41_0, hfz41_1, hfz41_2⟩ := cz3 BK223.out) | ((with_reducible refine gate_callee (f := 13) rfl ?_); refine goesL_ (some 15) rfl rfl Tryd.func13 kr rfl #[.agg #[.int .i64 1, .slice Ao39 y217.length co39, .slice Ao38 y220.length co38]] rfl ga ?_; (with_reducible refine (payload_Encode.calls k 1 _ _ y217 _ _ y220 t224 t225 _ ?side1 ?side2 ?side3 ?side4 ?side5 A1.out).mono ?_); (case side1 => refine (Kd.N_reads' (e := 59) (base := w.heap.size) (ok := fun k_ => ((True ∧ some k_ ≠ (.slice Ao38 y220.length co38 : Value).ownBlock) ∧ k_ ≠ gb223)) (n := y217.length) (c := co39) ?_).2.2; exact (by (with_reducible repeat (first | apply Kd.N_alloc | apply Kd.N_drewN | apply Kd.N_drew)); exact (Kd.N_mono (Kd.N_far (p := ⟨gb223, 2, none⟩) (Kd.N_far (p := ⟨gb223, 1, none⟩) (Kd.N_far (p := ⟨gb223, 0, none⟩) (Kd.N_mono HO219.out (fun k_ hk => (⟨hk, hk.2⟩ : _ ∧ k_ ≠ gb223))) (fun _ hk => hk.2) (.int .i64 1)) (fun _ hk => hk.2) (.slice Ao39 y217.length co39)) (fun _ hk => hk.2) (.slice Ao38 y220.length co38)) (fun _ h_ => h_.1)))); (case side2 => exact (Kd.N_reads' HO219.out).2.1); (case side3 => refine (Kd.R_reads' (e := 61) (base := w.heap.size) (ok := fun k_ => True) (n := y220.length) (c := co38) ?_).2.2; exact (by (with_reducible repeat (first | apply Kd.R_alloc | apply Kd.R_drewN | apply Kd.R_drew)); exact (Kd.R_mono (Kd.R_far (p := ⟨gb223, 2, none⟩) (Kd.R_far (p := ⟨gb223, 1, none⟩) (Kd.R_far (p := ⟨gb223, 0, none⟩) (Kd.R_types HO222.out BK223.out (by decide)) (fun _ hk => hk.2) (.int .i64 1)) (fun _ hk => hk.2) (.slice Ao39 y217.length co39)) (fun _ hk => hk.2) (.slice Ao38 y220.length co38)) (fun _ h_ => h_.1)))); (case side4 => exact (Kd.R_reads' HO222.out).2.1); (case side5 => exact LaidU.below HU.out (bl HB.out)); rintro e w42 ⟨rfl, hb⟩; refine ⟨_, rfl, ?_⟩; replace HO219 := Aside0.mk (Kd.N_below (by (with_reducible repeat (first | apply Kd.N_alloc | apply Kd.N_drewN | apply Kd.N_drew)); exact (Kd.N_mono (Kd.N_far (p := ⟨gb223, 2, none⟩) (Kd.N_far (p := ⟨gb223, 1, none⟩) (Kd.N_far (p := ⟨gb223, 0, none⟩) (Kd.N_mono HO219.out (fun k_ hk => (⟨hk, hk.2⟩ : _ ∧ k_ ≠ gb223))) (fun _ hk => hk.2) (.int .i64 1)) (fun _ hk => hk.2) (.slice Ao39 y217.length co39)) (fun _ hk => hk.2) (.slice Ao38 y220.length co38)) (fun _ h_ => h_.1))) hb); replace HO222 := Aside0.mk (Kd.R_below (by (with_reducible repeat (first | apply Kd.R_alloc | apply Kd.R_drewN | apply Kd.R_drew)); exact (Kd.R_mono (Kd.R_far (p := ⟨gb223, 2, none⟩) (Kd.R_far (p := ⟨gb223, 1, none⟩) (Kd.R_far (p := ⟨gb223, 0, none⟩) (Kd.R_types HO222.out BK223.out (by decide)) (fun _ hk => hk.2) (.int .i64 1)) (fun _ hk => hk.2) (.slice Ao39 y217.length co39)) (fun _ hk => hk.2) (.slice Ao38 y220.length co38)) (fun _ h_ => h_.1))) hb); replace BK223 := Aside0.mk (blk_below (g := gb223) (o := .cells #[.int .i64 1, .slice Ao39 y217.length co39, .slice Ao38 y220.length co38] 25 (0, 0)) (by refine pk ?_; refine blk_put (cs := #[.int .i64 1, .slice Ao39 y217.length co39, .slice none 0 0]) ?_ 2 _ rfl; refine pk ?_; refine blk_put (cs := #[.int .i64 1, .slice none 0 0, .slice none 0 0]) ?_ 1 _ rfl; refine pk ?_; refine blk_put (cs := #[.int .i64 0, .slice none 0 0, .slice none 0 0]) ?_ 0 _ rfl; exact pk BK223.out) hb); replace HB := Aside0.mk (below_step (bl HB.out) hb); (try clear hb); (try clear hb2); (try clear hk); (try clear hi)) | ((with_reducible refine gate_callee (f := 13) rfl ?_); refine goesL_ (some 20) rfl rfl Tryd.func13 kr rfl #[.agg #[.int .i64 1, .slice none 0 0, .slice none 0 0]] rfl ga ?_; (refine (payload_Encode.calls k 1 _ _ ([] : List (S59)) _ _ ([] : List (S61)) t226 t227 _ ?side1 ?side2 ?side3 ?side4 ?side5 A2.out).mono ?_); (case side1 => exact Kd.C_nil _ _); (case side2 => exact Nat.le_refl _); (case side3 => exact Kd.C_nil _ _); (case side4 => exact Nat.le_refl _); (case side5 => exact LaidU.below HU.out (bl HB.out)); rintro e w43 ⟨rfl, hb⟩; refine ⟨_, rfl, ?_⟩; replace HO219 := Aside0.mk (Kd.N_below (pN HO219.out) hb); replace HO222 := Aside0.mk (Kd.R_below (pR HO222.out) hb); replace BK223 := Aside0.mk (blk_below (pk BK223.out) hb); replace HB := Aside0.mk (below_step (bl HB.out) hb); (try clear hb); (try clear hb2); (try clear hk); (try clear hi)))
  go_ret
  exact ⟨er0, bl HB.out⟩

/-! ### lodestarref05_Name: function 70 -/
mutual
def lodestarref05_Name.j0 : Nat → ByteArray → Bool → Option (Bool)
 | 0, _, _ => none
 | k + 1, x0, x22 => if x22 = true then (some false) else (lodestarref05_Name.l0 k x0 0)
def lodestarref05_Name.l0 : Nat → ByteArray → Int → Option (Bool)
 | 0, _, _ => none
 | k + 1, x0, x3 => if x3 < (x0.size : Int) then (if 0 ≤ x3 then (if (bt x0 x3) ≥ 97 then (if (bt x0 x3) ≤ 122 then (lodestarref05_Name.l0 k x0 (wrap64 (x3 + 1))) else (if (bt x0 x3) ≥ 65 then (if (bt x0 x3) ≤ 90 then (lodestarref05_Name.l0 k x0 (wrap64 (x3 + 1))) else (if (bt x0 x3) ≥ 48 then (if (bt x0 x3) ≤ 57 then (lodestarref05_Name.l0 k x0 (wrap64 (x3 + 1))) else (if ((bt x0 x3) = 95) then (lodestarref05_Name.l0 k x0 (wrap64 (x3 + 1))) else (some false))) else (if ((bt x0 x3) = 95) then (lodestarref05_Name.l0 k x0 (wrap64 (x3 + 1))) else (some false)))) else (if (bt x0 x3) ≥ 48 then (if (bt x0 x3) ≤ 57 then (lodestarref05_Name.l0 k x0 (wrap64 (x3 + 1))) else (if ((bt x0 x3) = 95) then (lodestarref05_Name.l0 k x0 (wrap64 (x3 + 1))) else (some false))) else (if ((bt x0 x3) = 95) then (lodestarref05_Name.l0 k x0 (wrap64 (x3 + 1))) else (some false))))) else (if (bt x0 x3) ≥ 65 then (if (bt x0 x3) ≤ 90 then (lodestarref05_Name.l0 k x0 (wrap64 (x3 + 1))) else (if (bt x0 x3) ≥ 48 then (if (bt x0 x3) ≤ 57 then (lodestarref05_Name.l0 k x0 (wrap64 (x3 + 1))) else (if ((bt x0 x3) = 95) then (lodestarref05_Name.l0 k x0 (wrap64 (x3 + 1))) else (some false))) else (if ((bt x0 x3) = 95) then (lodestarref05_Name.l0 k x0 (wrap64 (x3 + 1))) else (some false)))) else (if (bt x0 x3) ≥ 48 then (if (bt x0 x3) ≤ 57 then (lodestarref05_Name.l0 k x0 (wrap64 (x3 + 1))) else (if ((bt x0 x3) = 95) then (lodestarref05_Name.l0 k x0 (wrap64 (x3 + 1))) else (some false))) else (if ((bt x0 x3) = 95) then (lodestarref05_Name.l0 k x0 (wrap64 (x3 + 1))) else (some false))))) else (none)) else (some true)
end
def lodestarref05_Name.f (k : Nat) (a0 : ByteArray) : Option (Bool) := if (a0.size : Int) < 1 then (lodestarref05_Name.j0 k a0 true) else (if (a0.size : Int) > 32 then (lodestarref05_Name.j0 k a0 true) else (if 0 < (a0.size : Int) then (if (bt a0 0) ≥ 48 then (lodestarref05_Name.j0 k a0 (decide ((bt a0 0) ≤ 57))) else (lodestarref05_Name.j0 k a0 false)) else (none)))
theorem lodestarref05_Name.mono_l : ∀ k, (∀ y0 y1, LeO (lodestarref05_Name.j0 k y0 y1) (lodestarref05_Name.j0 (k + 1) y0 y1)) ∧ (∀ y0 y1, LeO (lodestarref05_Name.l0 k y0 y1) (lodestarref05_Name.l0 (k + 1) y0 y1))
 | 0 => ⟨fun _ _ r h => by simp [lodestarref05_Name.j0] at h, fun _ _ r h => by simp [lodestarref05_Name.l0] at h⟩
 | k + 1 => by
  obtain ⟨ih0, ih1⟩ := lodestarref05_Name.mono_l k
  refine ⟨?_, ?_⟩
  all_goals intros
  all_goals first | unfold lodestarref05_Name.j0 | unfold lodestarref05_Name.l0
  all_goals repeat' first
   | (with_reducible exact ih0 _ _)
   | (with_reducible exact ih1 _ _)
   | (with_reducible exact LeO.refl _)
   | (with_reducible exact LeO.none _)
   | (with_reducible refine LeO.ite ?_ ?_)
   | (with_reducible refine LeO.bind ?_ (fun _ => ?_))
   | exact ih0 _ _
   | exact ih1 _ _
   | exact LeO.none _
   | refine LeO.ite ?_ ?_
   | refine LeO.bind ?_ (fun _ => ?_)
theorem lodestarref05_Name.mono : ∀ a0 k, LeO (lodestarref05_Name.f k a0) (lodestarref05_Name.f (k + 1) a0) := by
 intro a0 k
 obtain ⟨ih0, ih1⟩ := lodestarref05_Name.mono_l k
 unfold lodestarref05_Name.f
 repeat' first
   | (with_reducible exact ih0 _ _)
   | (with_reducible exact ih1 _ _)
   | (with_reducible exact LeO.refl _)
   | (with_reducible exact LeO.none _)
   | (with_reducible refine LeO.ite ?_ ?_)
   | (with_reducible refine LeO.bind ?_ (fun _ => ?_))
   | exact ih0 _ _
   | exact ih1 _ _
   | exact LeO.none _
   | refine LeO.ite ?_ ?_
   | refine LeO.bind ?_ (fun _ => ?_)
set_option maxHeartbeats 8000000 in
set_option maxRecDepth 100000 in
theorem lodestarref05_Name.calls (k : Nat) (a0 : ByteArray) (r : Bool) (w : World) (h : lodestarref05_Name.f k a0 = some r) :
  Calls Tryd.prog 70 #[.string a0] w fun e w' => e = .returned (.bool r) ∧ Drawn0 w w' := by
 have H : (if (a0.size : Int) < 1 then (lodestarref05_Name.j0 k a0 true) else (if (a0.size : Int) > 32 then (lodestarref05_Name.j0 k a0 true) else (if 0 < (a0.size : Int) then (if (bt a0 0) ≥ 48 then (lodestarref05_Name.j0 k a0 (decide ((bt a0 0) ≤ 57))) else (lodestarref05_Name.j0 k a0 false)) else (none)))) = some r := h
 clear h
 have HC2 := Aside0.mk H
 clear H
 go_enter Tryd.func70, Tryd.ntmps70
 go_upto_region 1 with (fail)
 go_cut [22] (fun v22 wc => ∃ (kq : Nat) (x22_1 : Bool), v22 = .bool x22_1 ∧ Aside0 (lodestarref05_Name.j0 kq a0 x22_1 = some r) ∧ Aside0 (kq ≤ k) ∧ Drawn0 w wc)
 case first =>
  have H := HC2.out
  clear HC2
  by_cases c3 : (a0.size : Int) < 1
  ·rw [if_pos c3] at H
   have c3b0 : decide ((a0.size : Int) < 1) = true := decide_eq_true c3
   have c3b1 : decide (a0.size < 1) = true := decide_eq_true (by omega)
   clear c3
   (first | rw [c3b0] | (simp only [i64_w, i32_w]; rw [c3b0]) | skip)
   have H' := Aside0.mk H
   clear H
   go_wp2
   go_meet
   case rel => exact ⟨_, (true), hsr, H', ⟨by first | omega | exact Nat.le_refl _⟩, by repeat (first | exact Drawn0.refl _ | apply Drawn0.step)⟩
  ·rw [if_neg c3] at H
   have c3b0 : decide ((a0.size : Int) < 1) = false := decide_eq_false c3
   have c3b1 : decide (a0.size < 1) = false := decide_eq_false (by omega)
   clear c3
   (first | rw [c3b0] | (simp only [i64_w, i32_w]; rw [c3b0]) | skip)
   by_cases c4 : (a0.size : Int) > 32
   ·rw [if_pos c4] at H
    have c4b0 : decide (32 < (a0.size : Int)) = true := decide_eq_true c4
    have c4b1 : decide (32 < a0.size) = true := decide_eq_true (by omega)
    clear c4
    have H' := Aside0.mk H
    clear H
    go_wp2
    go_meet
    case rel => exact ⟨_, (true), hsr, H', ⟨by first | omega | exact Nat.le_refl _⟩, by repeat (first | exact Drawn0.refl _ | apply Drawn0.step)⟩
   ·rw [if_neg c4] at H
    have c4b0 : decide (32 < (a0.size : Int)) = false := decide_eq_false c4
    have c4b1 : decide (32 < a0.size) = false := decide_eq_false (by omega)
    clear c4
    by_cases c5 : 0 < (a0.size : Int)
    ·rw [if_pos c5] at H
     have c5b0 : decide (0 < (a0.size : Int)) = true := decide_eq_true c5
     have c5b1 : decide (0 < a0.size) = true := decide_eq_true (by omega)
     clear c5
     by_cases c7 : (bt a0 0) ≥ 48
     ·rw [if_pos c7] at H
      have c7b0 : decide (48 ≤ (bt a0 0)) = true := decide_eq_true c7
      clear c7
      have H' := Aside0.mk H
      clear H
      have p6 : 0 ≤ (0 : Int) := (by omega)
      have q6 : 0 < a0.size := (by have : (0 : Int) < (a0.size : Int) := of_decide_eq_true ha; omega)
      have hx6 : ∀ h : 0 < a0.size, ((a0[0]'h).toNat : Int) = bt a0 0 := bt_at a0 0
      clear p6
      have qi6 : (0 < (a0.size : Int)) = True := eq_true (of_decide_eq_true ha)
      replace q6 := eq_true q6
      have p8 : 0 ≤ (0 : Int) := (by omega)
      have q8 : 0 < a0.size := (by have : (0 : Int) < (a0.size : Int) := of_decide_eq_true ha; omega)
      have hx8 : ∀ h : 0 < a0.size, ((a0[0]'h).toNat : Int) = bt a0 0 := bt_at a0 0
      clear p8
      have qi8 : (0 < (a0.size : Int)) = True := eq_true (of_decide_eq_true ha)
      replace q8 := eq_true q8
      go_wp2
      go_meet
      case rel => exact ⟨_, (decide ((bt a0 0) ≤ 57)), hsr, H', ⟨by first | omega | exact Nat.le_refl _⟩, by repeat (first | exact Drawn0.refl _ | apply Drawn0.step)⟩
     ·rw [if_neg c7] at H
      have c7b0 : decide (48 ≤ (bt a0 0)) = false := decide_eq_false c7
      clear c7
      have H' := Aside0.mk H
      clear H
      have p6 : 0 ≤ (0 : Int) := (by omega)
      have q6 : 0 < a0.size := (by have : (0 : Int) < (a0.size : Int) := of_decide_eq_true ha; omega)
      have hx6 : ∀ h : 0 < a0.size, ((a0[0]'h).toNat : Int) = bt a0 0 := bt_at a0 0
      clear p6
      have qi6 : (0 < (a0.size : Int)) = True := eq_true (of_decide_eq_true ha)
      replace q6 := eq_true q6
      go_wp2
      go_meet
      case rel => exact ⟨_, (false), hsr, H', ⟨by first | omega | exact Nat.le_refl _⟩, by repeat (first | exact Drawn0.refl _ | apply Drawn0.step)⟩
    ·rw [if_neg c5] at H
     exact absurd H (by simp)
 case rest =>
  clear HC2
  try clear p2
  try clear c3
  try clear c3b0
  try clear c3b1
  try clear c4
  try clear c4b0
  try clear c4b1
  try clear c5
  try clear c5b0
  try clear c5b1
  try clear p6
  try clear q6
  try clear hx6
  try clear qi6
  try clear c7
  try clear c7b0
  try clear p8
  try clear q8
  try clear hx8
  try clear qi8
  try clear p6
  try clear p8
  try clear q6
  try clear q8
  obtain ⟨kq, x22_1, rfl, HA, HJ1, ⟨mc1, rfl⟩⟩ := hcut
  cases kq with
  | zero => exact absurd HA.out (by simp [lodestarref05_Name.j0])
  | succ kj1 =>
   have H := HA.out
   clear HA
   simp only [lodestarref05_Name.j0] at H
   by_cases c9 : x22_1 = true
   ·subst c9
    have H1 : (some false) = some r := by rw [if_pos rfl] at H; exact H
    clear H
    have H := H1
    clear H1
    obtain rfl := Option.some.inj H
    go_wp2
    go_ret
    exact ⟨by first | rfl | (simp; done) | (simp [*]; done), by repeat (first | exact Drawn0.refl _ | apply Drawn0.step)⟩
   ·replace c9 := Bool.eq_false_iff.mpr c9
    subst c9
    have H1 : (lodestarref05_Name.l0 kj1 a0 0) = some r := by rw [if_neg (show ¬ (false = true) by decide)] at H; exact H
    clear H
    have H := H1
    clear H1
    have H' := Aside0.mk H
    clear H
    go_wp2
    go_loopg [3] kj1 (fun kq v3 w' => ∃ (x3_2 : Int), v3 = .int .i64 x3_2 ∧ Aside0 (lodestarref05_Name.l0 kq a0 x3_2 = some r) ∧ Aside0 (kq ≤ kj1) ∧ Drawn0 w w')
    case atStart => exact ⟨(0), hsr, H', ⟨Nat.le_refl _⟩, by repeat (first | exact Drawn0.refl _ | apply Drawn0.step)⟩
    case round =>
     clear H'
     try clear c1
     try clear p2
     try clear c3
     try clear c3b0
     try clear c3b1
     try clear c4
     try clear c4b0
     try clear c4b1
     try clear c5
     try clear c5b0
     try clear c5b1
     try clear p6
     try clear q6
     try clear hx6
     try clear qi6
     try clear c7
     try clear c7b0
     try clear p8
     try clear q8
     try clear hx8
     try clear qi8
     try clear c9
     try clear p2
     try clear p6
     try clear p8
     try clear q6
     try clear q8
     obtain ⟨x3_2, rfl, HA, HK2, ⟨m2, rfl⟩⟩ := hrel
     cases gk with
     | zero => exact absurd HA.out (by simp [lodestarref05_Name.l0])
     | succ k2 =>
      have H := HA.out
      clear HA
      simp only [lodestarref05_Name.l0] at H
      by_cases c10 : x3_2 < (a0.size : Int)
      ·rw [if_pos c10] at H
       have c10b0 : decide (x3_2 < (a0.size : Int)) = true := decide_eq_true c10
       clear c10
       by_cases c11 : 0 ≤ x3_2
       ·rw [if_pos c11] at H
        have c11b0 : decide (0 ≤ x3_2) = true := decide_eq_true c11
        clear c11
        by_cases c13 : (bt a0 x3_2) ≥ 97
        ·rw [if_pos c13] at H
         have c13b0 : decide (97 ≤ (bt a0 x3_2)) = true := decide_eq_true c13
         clear c13
         by_cases c14 : (bt a0 x3_2) ≤ 122
         ·rw [if_pos c14] at H
          have c14b0 : decide ((bt a0 x3_2) ≤ 122) = true := decide_eq_true c14
          clear c14
          have H' := Aside0.mk H
          clear H
          have p12 : 0 ≤ (x3_2 : Int) := of_decide_eq_true ha
          have q12 : x3_2 < (a0.size : Int) := of_decide_eq_true ha
          have hx12 := bt_at a0 x3_2
          replace p12 := eq_true p12
          replace q12 := eq_true q12
          go_wp2
          go_roundg k2
          case measure => have := HJ1.out; have := HK2.out; omega
          case rel => exact ⟨(wrap64 (x3_2 + 1)), hsr, H', ⟨by have := HJ1.out; have := HK2.out; omega⟩, by repeat (first | exact Drawn0.refl _ | apply Drawn0.step)⟩
         ·rw [if_neg c14] at H
          have c14b0 : decide ((bt a0 x3_2) ≤ 122) = false := decide_eq_false c14
          clear c14
          by_cases c15 : (bt a0 x3_2) ≥ 65
          ·rw [if_pos c15] at H
           have c15b0 : decide (65 ≤ (bt a0 x3_2)) = true := decide_eq_true c15
           clear c15
           by_cases c16 : (bt a0 x3_2) ≤ 90
           ·rw [if_pos c16] at H
            have c16b0 : decide ((bt a0 x3_2) ≤ 90) = true := decide_eq_true c16
            clear c16
            have H' := Aside0.mk H
            clear H
            have p12 : 0 ≤ (x3_2 : Int) := of_decide_eq_true ha
            have q12 : x3_2 < (a0.size : Int) := of_decide_eq_true ha
            have hx12 := bt_at a0 x3_2
            replace p12 := eq_true p12
            replace q12 := eq_true q12
            go_wp2
            go_roundg k2
            case measure => have := HJ1.out; have := HK2.out; omega
            case rel => exact ⟨(wrap64 (x3_2 + 1)), hsr, H', ⟨by have := HJ1.out; have := HK2.out; omega⟩, by repeat (first | exact Drawn0.refl _ | apply Drawn0.step)⟩
           ·rw [if_neg c16] at H
            have c16b0 : decide ((bt a0 x3_2) ≤ 90) = false := decide_eq_false c16
            clear c16
            by_cases c17 : (bt a0 x3_2) ≥ 48
            ·rw [if_pos c17] at H
             have c17b0 : decide (48 ≤ (bt a0 x3_2)) = true := decide_eq_true c17
             clear c17
             by_cases c18 : (bt a0 x3_2) ≤ 57
             ·rw [if_pos c18] at H
              have c18b0 : decide ((bt a0 x3_2) ≤ 57) = true := decide_eq_true c18
              clear c18
              have H' := Aside0.mk H
              clear H
              have p12 : 0 ≤ (x3_2 : Int) := of_decide_eq_true ha
              have q12 : x3_2 < (a0.size : Int) := of_decide_eq_true ha
              have hx12 := bt_at a0 x3_2
              replace p12 := eq_true p12
              replace q12 := eq_true q12
              go_wp2
              go_roundg k2
              case measure => have := HJ1.out; have := HK2.out; omega
              case rel => exact ⟨(wrap64 (x3_2 + 1)), hsr, H', ⟨by have := HJ1.out; have := HK2.out; omega⟩, by repeat (first | exact Drawn0.refl _ | apply Drawn0.step)⟩
             ·rw [if_neg c18] at H
              have c18b0 : decide ((bt a0 x3_2) ≤ 57) = false := decide_eq_false c18
              clear c18
              by_cases c19 : ((bt a0 x3_2) = 95)
              ·rw [if_pos c19] at H
               have c19b0 : ((bt a0 x3_2) == 95) = true := beq_iff_eq.mpr c19
               have c19b1 : ((bt a0 x3_2) != 95) = false := bne_eq_false_iff_eq.mpr c19
               clear c19
               have H' := Aside0.mk H
               clear H
               have p12 : 0 ≤ (x3_2 : Int) := of_decide_eq_true ha
               have q12 : x3_2 < (a0.size : Int) := of_decide_eq_true ha
               have hx12 := bt_at a0 x3_2
               replace p12 := eq_true p12
               replace q12 := eq_true q12
               go_wp2
               go_roundg k2
               case measure => have := HJ1.out; have := HK2.out; omega
               case rel => exact ⟨(wrap64 (x3_2 + 1)), hsr, H', ⟨by have := HJ1.out; have := HK2.out; omega⟩, by repeat (first | exact Drawn0.refl _ | apply Drawn0.step)⟩
              ·rw [if_neg c19] at H
               have c19b0 : ((bt a0 x3_2) == 95) = false := beq_eq_false_iff_ne.mpr c19
               have c19b1 : ((bt a0 x3_2) != 95) = true := bne_iff_ne.mpr c19
               obtain rfl := Option.some.inj H
               have p12 : 0 ≤ (x3_2 : Int) := of_decide_eq_true ha
               have q12 : x3_2 < (a0.size : Int) := of_decide_eq_true ha
               have hx12 := bt_at a0 x3_2
               replace p12 := eq_true p12
               replace q12 := eq_true q12
               go_wp2
               go_ret
               exact ⟨by first | rfl | (simp; done) | (simp [*]; done), by repeat (first | exact Drawn0.refl _ | apply Drawn0.step)⟩
            ·rw [if_neg c17] at H
             have c17b0 : decide (48 ≤ (bt a0 x3_2)) = false := decide_eq_false c17
             clear c17
             by_cases c20 : ((bt a0 x3_2) = 95)
             ·rw [if_pos c20] at H
              have c20b0 : ((bt a0 x3_2) == 95) = true := beq_iff_eq.mpr c20
              have c20b1 : ((bt a0 x3_2) != 95) = false := bne_eq_false_iff_eq.mpr c20
              clear c20
              have H' := Aside0.mk H
              clear H
              have p12 : 0 ≤ (x3_2 : Int) := of_decide_eq_true ha
              have q12 : x3_2 < (a0.size : Int) := of_decide_eq_true ha
              have hx12 := bt_at a0 x3_2
              replace p12 := eq_true p12
              replace q12 := eq_true q12
              go_wp2
              go_roundg k2
              case measure => have := HJ1.out; have := HK2.out; omega
              case rel => exact ⟨(wrap64 (x3_2 + 1)), hsr, H', ⟨by have := HJ1.out; have := HK2.out; omega⟩, by repeat (first | exact Drawn0.refl _ | apply Drawn0.step)⟩
             ·rw [if_neg c20] at H
              have c20b0 : ((bt a0 x3_2) == 95) = false := beq_eq_false_iff_ne.mpr c20
              have c20b1 : ((bt a0 x3_2) != 95) = true := bne_iff_ne.mpr c20
              obtain rfl := Option.some.inj H
              have p12 : 0 ≤ (x3_2 : Int) := of_decide_eq_true ha
              have q12 : x3_2 < (a0.size : Int) := of_decide_eq_true ha
              have hx12 := bt_at a0 x3_2
              replace p12 := eq_true p12
              replace q12 := eq_true q12
              go_wp2
              go_ret
              exact ⟨by first | rfl | (simp; done) | (simp [*]; done), by repeat (first | exact Drawn0.refl _ | apply Drawn0.step)⟩
          ·rw [if_neg c15] at H
           have c15b0 : decide (65 ≤ (bt a0 x3_2)) = false := decide_eq_false c15
           clear c15
           by_cases c21 : (bt a0 x3_2) ≥ 48
           ·rw [if_pos c21] at H
            have c21b0 : decide (48 ≤ (bt a0 x3_2)) = true := decide_eq_true c21
            clear c21
            by_cases c22 : (bt a0 x3_2) ≤ 57
            ·rw [if_pos c22] at H
             have c22b0 : decide ((bt a0 x3_2) ≤ 57) = true := decide_eq_true c22
             clear c22
             have H' := Aside0.mk H
             clear H
             have p12 : 0 ≤ (x3_2 : Int) := of_decide_eq_true ha
             have q12 : x3_2 < (a0.size : Int) := of_decide_eq_true ha
             have hx12 := bt_at a0 x3_2
             replace p12 := eq_true p12
             replace q12 := eq_true q12
             go_wp2
             go_roundg k2
             case measure => have := HJ1.out; have := HK2.out; omega
             case rel => exact ⟨(wrap64 (x3_2 + 1)), hsr, H', ⟨by have := HJ1.out; have := HK2.out; omega⟩, by repeat (first | exact Drawn0.refl _ | apply Drawn0.step)⟩
            ·rw [if_neg c22] at H
             have c22b0 : decide ((bt a0 x3_2) ≤ 57) = false := decide_eq_false c22
             clear c22
             by_cases c23 : ((bt a0 x3_2) = 95)
             ·rw [if_pos c23] at H
              have c23b0 : ((bt a0 x3_2) == 95) = true := beq_iff_eq.mpr c23
              have c23b1 : ((bt a0 x3_2) != 95) = false := bne_eq_false_iff_eq.mpr c23
              clear c23
              have H' := Aside0.mk H
              clear H
              have p12 : 0 ≤ (x3_2 : Int) := of_decide_eq_true ha
              have q12 : x3_2 < (a0.size : Int) := of_decide_eq_true ha
              have hx12 := bt_at a0 x3_2
              replace p12 := eq_true p12
              replace q12 := eq_true q12
              go_wp2
              go_roundg k2
              case measure => have := HJ1.out; have := HK2.out; omega
              case rel => exact ⟨(wrap64 (x3_2 + 1)), hsr, H', ⟨by have := HJ1.out; have := HK2.out; omega⟩, by repeat (first | exact Drawn0.refl _ | apply Drawn0.step)⟩
             ·rw [if_neg c23] at H
              have c23b0 : ((bt a0 x3_2) == 95) = false := beq_eq_false_iff_ne.mpr c23
              have c23b1 : ((bt a0 x3_2) != 95) = true := bne_iff_ne.mpr c23
              obtain rfl := Option.some.inj H
              have p12 : 0 ≤ (x3_2 : Int) := of_decide_eq_true ha
              have q12 : x3_2 < (a0.size : Int) := of_decide_eq_true ha
              have hx12 := bt_at a0 x3_2
              replace p12 := eq_true p12
              replace q12 := eq_true q12
              go_wp2
              go_ret
              exact ⟨by first | rfl | (simp; done) | (simp [*]; done), by repeat (first | exact Drawn0.refl _ | apply Drawn0.step)⟩
           ·rw [if_neg c21] at H
            have c21b0 : decide (48 ≤ (bt a0 x3_2)) = false := decide_eq_false c21
            clear c21
            by_cases c24 : ((bt a0 x3_2) = 95)
            ·rw [if_pos c24] at H
             have c24b0 : ((bt a0 x3_2) == 95) = true := beq_iff_eq.mpr c24
             have c24b1 : ((bt a0 x3_2) != 95) = false := bne_eq_false_iff_eq.mpr c24
             clear c24
             have H' := Aside0.mk H
             clear H
             have p12 : 0 ≤ (x3_2 : Int) := of_decide_eq_true ha
             have q12 : x3_2 < (a0.size : Int) := of_decide_eq_true ha
             have hx12 := bt_at a0 x3_2
             replace p12 := eq_true p12
             replace q12 := eq_true q12
             go_wp2
             go_roundg k2
             case measure => have := HJ1.out; have := HK2.out; omega
             case rel => exact ⟨(wrap64 (x3_2 + 1)), hsr, H', ⟨by have := HJ1.out; have := HK2.out; omega⟩, by repeat (first | exact Drawn0.refl _ | apply Drawn0.step)⟩
            ·rw [if_neg c24] at H
             have c24b0 : ((bt a0 x3_2) == 95) = false := beq_eq_false_iff_ne.mpr c24
             have c24b1 : ((bt a0 x3_2) != 95) = true := bne_iff_ne.mpr c24
             obtain rfl := Option.some.inj H
             have p12 : 0 ≤ (x3_2 : Int) := of_decide_eq_true ha
             have q12 : x3_2 < (a0.size : Int) := of_decide_eq_true ha
             have hx12 := bt_at a0 x3_2
             replace p12 := eq_true p12
             replace q12 := eq_true q12
             go_wp2
             go_ret
             exact ⟨by first | rfl | (simp; done) | (simp [*]; done), by repeat (first | exact Drawn0.refl _ | apply Drawn0.step)⟩
        ·rw [if_neg c13] at H
         have c13b0 : decide (97 ≤ (bt a0 x3_2)) = false := decide_eq_false c13
         clear c13
         by_cases c25 : (bt a0 x3_2) ≥ 65
         ·rw [if_pos c25] at H
          have c25b0 : decide (65 ≤ (bt a0 x3_2)) = true := decide_eq_true c25
          clear c25
          by_cases c26 : (bt a0 x3_2) ≤ 90
          ·rw [if_pos c26] at H
           have c26b0 : decide ((bt a0 x3_2) ≤ 90) = true := decide_eq_true c26
           clear c26
           have H' := Aside0.mk H
           clear H
           have p12 : 0 ≤ (x3_2 : Int) := of_decide_eq_true ha
           have q12 : x3_2 < (a0.size : Int) := of_decide_eq_true ha
           have hx12 := bt_at a0 x3_2
           replace p12 := eq_true p12
           replace q12 := eq_true q12
           go_wp2
           go_roundg k2
           case measure => have := HJ1.out; have := HK2.out; omega
           case rel => exact ⟨(wrap64 (x3_2 + 1)), hsr, H', ⟨by have := HJ1.out; have := HK2.out; omega⟩, by repeat (first | exact Drawn0.refl _ | apply Drawn0.step)⟩
          ·rw [if_neg c26] at H
           have c26b0 : decide ((bt a0 x3_2) ≤ 90) = false := decide_eq_false c26
           clear c26
           by_cases c27 : (bt a0 x3_2) ≥ 48
           ·rw [if_pos c27] at H
            have c27b0 : decide (48 ≤ (bt a0 x3_2)) = true := decide_eq_true c27
            clear c27
            by_cases c28 : (bt a0 x3_2) ≤ 57
            ·rw [if_pos c28] at H
             have c28b0 : decide ((bt a0 x3_2) ≤ 57) = true := decide_eq_true c28
             clear c28
             have H' := Aside0.mk H
             clear H
             have p12 : 0 ≤ (x3_2 : Int) := of_decide_eq_true ha
             have q12 : x3_2 < (a0.size : Int) := of_decide_eq_true ha
             have hx12 := bt_at a0 x3_2
             replace p12 := eq_true p12
             replace q12 := eq_true q12
             go_wp2
             go_roundg k2
             case measure => have := HJ1.out; have := HK2.out; omega
             case rel => exact ⟨(wrap64 (x3_2 + 1)), hsr, H', ⟨by have := HJ1.out; have := HK2.out; omega⟩, by repeat (first | exact Drawn0.refl _ | apply Drawn0.step)⟩
            ·rw [if_neg c28] at H
             have c28b0 : decide ((bt a0 x3_2) ≤ 57) = false := decide_eq_false c28
             clear c28
             by_cases c29 : ((bt a0 x3_2) = 95)
             ·rw [if_pos c29] at H
              have c29b0 : ((bt a0 x3_2) == 95) = true := beq_iff_eq.mpr c29
              have c29b1 : ((bt a0 x3_2) != 95) = false := bne_eq_false_iff_eq.mpr c29
              clear c29
              have H' := Aside0.mk H
              clear H
              have p12 : 0 ≤ (x3_2 : Int) := of_decide_eq_true ha
              have q12 : x3_2 < (a0.size : Int) := of_decide_eq_true ha
              have hx12 := bt_at a0 x3_2
              replace p12 := eq_true p12
              replace q12 := eq_true q12
              go_wp2
              go_roundg k2
              case measure => have := HJ1.out; have := HK2.out; omega
              case rel => exact ⟨(wrap64 (x3_2 + 1)), hsr, H', ⟨by have := HJ1.out; have := HK2.out; omega⟩, by repeat (first | exact Drawn0.refl _ | apply Drawn0.step)⟩
             ·rw [if_neg c29] at H
              have c29b0 : ((bt a0 x3_2) == 95) = false := beq_eq_false_iff_ne.mpr c29
              have c29b1 : ((bt a0 x3_2) != 95) = true := bne_iff_ne.mpr c29
              obtain rfl := Option.some.inj H
              have p12 : 0 ≤ (x3_2 : Int) := of_decide_eq_true ha
              have q12 : x3_2 < (a0.size : Int) := of_decide_eq_true ha
              have hx12 := bt_at a0 x3_2
              replace p12 := eq_true p12
              replace q12 := eq_true q12
              go_wp2
              go_ret
              exact ⟨by first | rfl | (simp; done) | (simp [*]; done), by repeat (first | exact Drawn0.refl _ | apply Drawn0.step)⟩
           ·rw [if_neg c27] at H
            have c27b0 : decide (48 ≤ (bt a0 x3_2)) = false := decide_eq_false c27
            clear c27
            by_cases c30 : ((bt a0 x3_2) = 95)
            ·rw [if_pos c30] at H
             have c30b0 : ((bt a0 x3_2) == 95) = true := beq_iff_eq.mpr c30
             have c30b1 : ((bt a0 x3_2) != 95) = false := bne_eq_false_iff_eq.mpr c30
             clear c30
             have H' := Aside0.mk H
             clear H
             have p12 : 0 ≤ (x3_2 : Int) := of_decide_eq_true ha
             have q12 : x3_2 < (a0.size : Int) := of_decide_eq_true ha
             have hx12 := bt_at a0 x3_2
             replace p12 := eq_true p12
             replace q12 := eq_true q12
             go_wp2
             go_roundg k2
             case measure => have := HJ1.out; have := HK2.out; omega
             case rel => exact ⟨(wrap64 (x3_2 + 1)), hsr, H', ⟨by have := HJ1.out; have := HK2.out; omega⟩, by repeat (first | exact Drawn0.refl _ | apply Drawn0.step)⟩
            ·rw [if_neg c30] at H
             have c30b0 : ((bt a0 x3_2) == 95) = false := beq_eq_false_iff_ne.mpr c30
             have c30b1 : ((bt a0 x3_2) != 95) = true := bne_iff_ne.mpr c30
             obtain rfl := Option.some.inj H
             have p12 : 0 ≤ (x3_2 : Int) := of_decide_eq_true ha
             have q12 : x3_2 < (a0.size : Int) := of_decide_eq_true ha
             have hx12 := bt_at a0 x3_2
             replace p12 := eq_true p12
             replace q12 := eq_true q12
             go_wp2
             go_ret
             exact ⟨by first | rfl | (simp; done) | (simp [*]; done), by repeat (first | exact Drawn0.refl _ | apply Drawn0.step)⟩
         ·rw [if_neg c25] at H
          have c25b0 : decide (65 ≤ (bt a0 x3_2)) = false := decide_eq_false c25
          clear c25
          by_cases c31 : (bt a0 x3_2) ≥ 48
          ·rw [if_pos c31] at H
           have c31b0 : decide (48 ≤ (bt a0 x3_2)) = true := decide_eq_true c31
           clear c31
           by_cases c32 : (bt a0 x3_2) ≤ 57
           ·rw [if_pos c32] at H
            have c32b0 : decide ((bt a0 x3_2) ≤ 57) = true := decide_eq_true c32
            clear c32
            have H' := Aside0.mk H
            clear H
            have p12 : 0 ≤ (x3_2 : Int) := of_decide_eq_true ha
            have q12 : x3_2 < (a0.size : Int) := of_decide_eq_true ha
            have hx12 := bt_at a0 x3_2
            replace p12 := eq_true p12
            replace q12 := eq_true q12
            go_wp2
            go_roundg k2
            case measure => have := HJ1.out; have := HK2.out; omega
            case rel => exact ⟨(wrap64 (x3_2 + 1)), hsr, H', ⟨by have := HJ1.out; have := HK2.out; omega⟩, by repeat (first | exact Drawn0.refl _ | apply Drawn0.step)⟩
           ·rw [if_neg c32] at H
            have c32b0 : decide ((bt a0 x3_2) ≤ 57) = false := decide_eq_false c32
            clear c32
            by_cases c33 : ((bt a0 x3_2) = 95)
            ·rw [if_pos c33] at H
             have c33b0 : ((bt a0 x3_2) == 95) = true := beq_iff_eq.mpr c33
             have c33b1 : ((bt a0 x3_2) != 95) = false := bne_eq_false_iff_eq.mpr c33
             clear c33
             have H' := Aside0.mk H
             clear H
             have p12 : 0 ≤ (x3_2 : Int) := of_decide_eq_true ha
             have q12 : x3_2 < (a0.size : Int) := of_decide_eq_true ha
             have hx12 := bt_at a0 x3_2
             replace p12 := eq_true p12
             replace q12 := eq_true q12
             go_wp2
             go_roundg k2
             case measure => have := HJ1.out; have := HK2.out; omega
             case rel => exact ⟨(wrap64 (x3_2 + 1)), hsr, H', ⟨by have := HJ1.out; have := HK2.out; omega⟩, by repeat (first | exact Drawn0.refl _ | apply Drawn0.step)⟩
            ·rw [if_neg c33] at H
             have c33b0 : ((bt a0 x3_2) == 95) = false := beq_eq_false_iff_ne.mpr c33
             have c33b1 : ((bt a0 x3_2) != 95) = true := bne_iff_ne.mpr c33
             obtain rfl := Option.some.inj H
             have p12 : 0 ≤ (x3_2 : Int) := of_decide_eq_true ha
             have q12 : x3_2 < (a0.size : Int) := of_decide_eq_true ha
             have hx12 := bt_at a0 x3_2
             replace p12 := eq_true p12
             replace q12 := eq_true q12
             go_wp2
             go_ret
             exact ⟨by first | rfl | (simp; done) | (simp [*]; done), by repeat (first | exact Drawn0.refl _ | apply Drawn0.step)⟩
          ·rw [if_neg c31] at H
           have c31b0 : decide (48 ≤ (bt a0 x3_2)) = false := decide_eq_false c31
           clear c31
           by_cases c34 : ((bt a0 x3_2) = 95)
           ·rw [if_pos c34] at H
            have c34b0 : ((bt a0 x3_2) == 95) = true := beq_iff_eq.mpr c34
            have c34b1 : ((bt a0 x3_2) != 95) = false := bne_eq_false_iff_eq.mpr c34
            clear c34
            have H' := Aside0.mk H
            clear H
            have p12 : 0 ≤ (x3_2 : Int) := of_decide_eq_true ha
            have q12 : x3_2 < (a0.size : Int) := of_decide_eq_true ha
            have hx12 := bt_at a0 x3_2
            replace p12 := eq_true p12
            replace q12 := eq_true q12
            go_wp2
            go_roundg k2
            case measure => have := HJ1.out; have := HK2.out; omega
            case rel => exact ⟨(wrap64 (x3_2 + 1)), hsr, H', ⟨by have := HJ1.out; have := HK2.out; omega⟩, by repeat (first | exact Drawn0.refl _ | apply Drawn0.step)⟩
           ·rw [if_neg c34] at H
            have c34b0 : ((bt a0 x3_2) == 95) = false := beq_eq_false_iff_ne.mpr c34
            have c34b1 : ((bt a0 x3_2) != 95) = true := bne_iff_ne.mpr c34
            obtain rfl := Option.some.inj H
            have p12 : 0 ≤ (x3_2 : Int) := of_decide_eq_true ha
            have q12 : x3_2 < (a0.size : Int) := of_decide_eq_true ha
            have hx12 := bt_at a0 x3_2
            replace p12 := eq_true p12
            replace q12 := eq_true q12
            go_wp2
            go_ret
            exact ⟨by first | rfl | (simp; done) | (simp [*]; done), by repeat (first | exact Drawn0.refl _ | apply Drawn0.step)⟩
       ·rw [if_neg c11] at H
        exact absurd H (by simp)
      ·rw [if_neg c10] at H
       have c10b0 : decide (x3_2 < (a0.size : Int)) = false := decide_eq_false c10
       clear c10
       obtain rfl := Option.some.inj H
       go_wp2
       go_ret
       exact ⟨by first | rfl | (simp; done) | (simp [*]; done), by repeat (first | exact Drawn0.refl _ | apply Drawn0.step)⟩

end Go.Proofs.YtbeljekpknpadaaDoor.PPayV
