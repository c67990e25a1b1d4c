-- Written by a program of this session on top of the print: some functions by hand.
import Derived.Test.YtbeljekpknpadaaDoorPPayVx0
import Derived.Test.YtbeljekpknpadaaDoorPPayVx2
import Derived.Test.YtbeljekpknpadaaDoorPPayVx4
import Derived.Test.YtbeljekpknpadaaDoorPPayVx6
import Derived.Test.YtbeljekpknpadaaDoorPPayVx7
import Derived.Test.YtbeljekpknpadaaDoorPPayVx11
import Derived.Test.YtbeljekpknpadaaDoorPPayVx13
import Derived.Test.YtbeljekpknpadaaDoorPPayVx15
namespace Go.Proofs.YtbeljekpknpadaaDoor.PPayV
open Go.RowKit Go.Proofs.YtbeljekpknpadaaDoorW.PrintWords Go.Proofs.YtbeljekpknpadaaDoorW.PrintLast Go.Proofs.YtbeljekpknpadaaDoorW.PrintMore
attribute [local go_sem] max2_int min2_int max_two min_two max_three min_three max_four min_four   -- for this text's walks alone
set_option linter.unusedVariables false
set_option linter.unusedSimpArgs false

/-! ### lodestarlaw05_PayloadBytes: function 5 -/
def lodestarlaw05_PayloadBytes.f (k : Nat) (a0_0 : Int) (l0_1 : List (S59)) (l0_2 : List (S61)) (a1 : ByteArray) : Option (Bool) := (payload_Encode.f k a0_0 l0_1 l0_2).bind fun bt445 => ((lodestarref05_Encode.f k a0_0 l0_1 l0_2).bind fun bt447 => ((payload_Decode.f k a1).bind fun bt449 => ((lodestarref05_Decode.f k a1).bind fun bt459 => (if bt445.1.toList = bt447.1.toList then (if bt445.2 = bt447.2 then ((lodestarref05_Same.f k bt449.1 bt449.2.1 bt449.2.2.1 bt459.1 bt459.2.1 bt459.2.2.1).bind fun t469 => (if t469 = true then (if bt449.2.2.2.1 = bt459.2.2.2.1 then (if bt449.2.2.2.2 = bt459.2.2.2.2 then ((lodestarlaw05_awake.f k).bind fun t470 => (some t470)) else (some false)) else (some false)) else (some false))) else (some false)) else (some false)))))
theorem lodestarlaw05_PayloadBytes.mono : ∀ a0 a1 a2 a3 k, LeO (lodestarlaw05_PayloadBytes.f k a0 a1 a2 a3) (lodestarlaw05_PayloadBytes.f (k + 1) a0 a1 a2 a3) := by
 intro a0 a1 a2 a3 k
 unfold lodestarlaw05_PayloadBytes.f
 repeat' first
   | (with_reducible exact lodestarlaw05_awake.mono _)
   | (with_reducible exact lodestarref05_Decode.mono _ _)
   | (with_reducible exact lodestarref05_Encode.mono _ _ _ _)
   | (with_reducible exact lodestarref05_Same.mono _ _ _ _ _ _ _)
   | (with_reducible exact payload_Decode.mono _ _)
   | (with_reducible exact payload_Encode.mono _ _ _ _)
   | (with_reducible exact LeO.refl _)
   | (with_reducible exact LeO.none _)
   | (with_reducible refine LeO.ite ?_ ?_)
   | (with_reducible refine LeO.bind ?_ (fun _ => ?_))
   | exact lodestarlaw05_awake.mono _
   | exact lodestarref05_Decode.mono _ _
   | exact lodestarref05_Encode.mono _ _ _ _
   | exact lodestarref05_Same.mono _ _ _ _ _ _ _
   | exact payload_Decode.mono _ _
   | exact payload_Encode.mono _ _ _ _
   | exact LeO.none _
   | refine LeO.ite ?_ ?_
   | refine LeO.bind ?_ (fun _ => ?_)
set_option maxHeartbeats 8000000 in
set_option maxRecDepth 100000 in
theorem lodestarlaw05_PayloadBytes.calls (k : Nat) (a0_0 : Int) (A0_1 : Option Addr) (c0_1 : Nat) (l0_1 : List (S59)) (A0_2 : Option Addr) (c0_2 : Nat) (l0_2 : List (S61)) (a1 : ByteArray) (w : World) (hr0_1 : Kd.C k59 w A0_1 l0_1.length l0_1) (hc0_1 : l0_1.length ≤ c0_1) (hr0_2 : Kd.C k61 w A0_2 l0_2.length l0_2) (hc0_2 : l0_2.length ≤ c0_2) (hU : LaidU w) (h : lodestarlaw05_PayloadBytes.f k a0_0 l0_1 l0_2 a1 = some true) :
  Calls Tryd.prog 5 #[.agg #[.int .i64 a0_0, .slice A0_1 l0_1.length c0_1, .slice A0_2 l0_2.length c0_2], .string a1] w fun e w' => e = .returned (.bool true) ∧ Below w.heap.size w w' := by
 have hu25 := Tryd.underlying25
 have HU := Aside0.mk hU
 clear hU
 have HR0_1 := Aside0.mk hr0_1
 have HC0_1 := Aside0.mk hc0_1
 clear hr0_1 hc0_1
 have HR0_2 := Aside0.mk hr0_2
 have HC0_2 := Aside0.mk hc0_2
 clear hr0_2 hc0_2
 have HB := Aside0.mk (Below.refl w.heap.size w)
 have H : ((payload_Encode.f k a0_0 l0_1 l0_2).bind fun bt445 => ((lodestarref05_Encode.f k a0_0 l0_1 l0_2).bind fun bt447 => ((payload_Decode.f k a1).bind fun bt449 => ((lodestarref05_Decode.f k a1).bind fun bt459 => (if bt445.1.toList = bt447.1.toList then (if bt445.2 = bt447.2 then ((lodestarref05_Same.f k bt449.1 bt449.2.1 bt449.2.2.1 bt459.1 bt459.2.1 bt459.2.2.1).bind fun t469 => (if t469 = true then (if bt449.2.2.2.1 = bt459.2.2.2.1 then (if bt449.2.2.2.2 = bt459.2.2.2.2 then ((lodestarlaw05_awake.f k).bind fun t470 => (some t470)) else (some false)) else (some false)) else (some false))) else (some false)) else (some false)))))) = some true := h
 clear h
 replace H := Option.bind_eq_some_iff.mp H
 obtain ⟨⟨t445, t446⟩, A30, H⟩ := H
 replace H : ((lodestarref05_Encode.f k a0_0 l0_1 l0_2).bind fun bt447 => ((payload_Decode.f k a1).bind fun bt449 => ((lodestarref05_Decode.f k a1).bind fun bt459 => (if t445.toList = bt447.1.toList then (if t446 = bt447.2 then ((lodestarref05_Same.f k bt449.1 bt449.2.1 bt449.2.2.1 bt459.1 bt459.2.1 bt459.2.2.1).bind fun t469 => (if t469 = true then (if bt449.2.2.2.1 = bt459.2.2.2.1 then (if bt449.2.2.2.2 = bt459.2.2.2.2 then ((lodestarlaw05_awake.f k).bind fun t470 => (some t470)) else (some false)) else (some false)) else (some false))) else (some false)) else (some false))))) = some true := H
 have A3 := Aside0.mk A30
 clear A30
 replace H := Option.bind_eq_some_iff.mp H
 obtain ⟨⟨t447, t448⟩, A40, H⟩ := H
 replace H : ((payload_Decode.f k a1).bind fun bt449 => ((lodestarref05_Decode.f k a1).bind fun bt459 => (if t445.toList = t447.toList then (if t446 = t448 then ((lodestarref05_Same.f k bt449.1 bt449.2.1 bt449.2.2.1 bt459.1 bt459.2.1 bt459.2.2.1).bind fun t469 => (if t469 = true then (if bt449.2.2.2.1 = bt459.2.2.2.1 then (if bt449.2.2.2.2 = bt459.2.2.2.2 then ((lodestarlaw05_awake.f k).bind fun t470 => (some t470)) else (some false)) else (some false)) else (some false))) else (some false)) else (some false)))) = some true := H
 have A4 := Aside0.mk A40
 clear A40
 replace H := Option.bind_eq_some_iff.mp H
 obtain ⟨⟨t449, t450, t453, t456, t457⟩, A50, H⟩ := H
 replace H : ((lodestarref05_Decode.f k a1).bind fun bt459 => (if t445.toList = t447.toList then (if t446 = t448 then ((lodestarref05_Same.f k t449 t450 t453 bt459.1 bt459.2.1 bt459.2.2.1).bind fun t469 => (if t469 = true then (if t456 = bt459.2.2.2.1 then (if t457 = bt459.2.2.2.2 then ((lodestarlaw05_awake.f k).bind fun t470 => (some t470)) else (some false)) else (some false)) else (some false))) else (some false)) else (some false))) = some true := H
 have A5 := Aside0.mk A50
 clear A50
 replace H := Option.bind_eq_some_iff.mp H
 obtain ⟨⟨t459, t460, t463, t466, t467⟩, A60, H⟩ := H
 replace H : (if t445.toList = t447.toList then (if t446 = t448 then ((lodestarref05_Same.f k t449 t450 t453 t459 t460 t463).bind fun t469 => (if t469 = true then (if t456 = t466 then (if t457 = t467 then ((lodestarlaw05_awake.f k).bind fun t470 => (some t470)) else (some false)) else (some false)) else (some false))) else (some false)) else (some false)) = some true := H
 have A6 := Aside0.mk A60
 clear A60
 by_cases c7 : t445.toList = t447.toList
 ·rw [if_pos c7] at H
  have c7b0 : (t445.toList == t447.toList) = true := beq_iff_eq.mpr c7
  have c7b1 : (t445.toList != t447.toList) = false := bne_eq_false_iff_eq.mpr c7
  clear c7
  by_cases c8 : t446 = t448
  ·rw [if_pos c8] at H
   have c8b0 : (t446 == t448) = true := beq_iff_eq.mpr c8
   have c8b1 : (t446 != t448) = false := bne_eq_false_iff_eq.mpr c8
   clear c8
   replace H := Option.bind_eq_some_iff.mp H
   obtain ⟨t469, A90, H⟩ := H
   replace H : (if t469 = true then (if t456 = t466 then (if t457 = t467 then ((lodestarlaw05_awake.f k).bind fun t470 => (some t470)) else (some false)) else (some false)) else (some false)) = some true := H
   have A9 := Aside0.mk A90
   clear A90
   by_cases c10 : t469 = true
   ·subst c10
    have H1 : (if t456 = t466 then (if t457 = t467 then ((lodestarlaw05_awake.f k).bind fun t470 => (some t470)) else (some false)) else (some false)) = some true := by rw [if_pos rfl] at H; exact H
    clear H
    have H := H1
    clear H1
    by_cases c11 : t456 = t466
    ·rw [if_pos c11] at H
     have c11b0 : (t456 == t466) = true := beq_iff_eq.mpr c11
     have c11b1 : (t456 != t466) = false := bne_eq_false_iff_eq.mpr c11
     clear c11
     by_cases c12 : t457 = t467
     ·rw [if_pos c12] at H
      have c12b0 : (t457 == t467) = true := beq_iff_eq.mpr c12
      have c12b1 : (t457 != t467) = false := bne_eq_false_iff_eq.mpr c12
      clear c12
      replace H := Option.bind_eq_some_iff.mp H
      obtain ⟨t470, A130, H⟩ := H
      replace H : (some t470) = some true := H
      have A13 := Aside0.mk A130
      clear A130
      have hE_ := Aside0.mk (Option.some.inj H)
      clear H
      go_enter Tryd.func5, Tryd.ntmps5
      go_wp2_with (first | ((with_reducible refine gate_dst (N := 2) rfl ?_); refine box_event ?hg (N := 2) ?hd (cs := #[.int .i64 a0_0, .slice A0_1 l0_1.length c0_1, .slice A0_2 l0_2.length c0_2]) (t := 25) ?hr ?_; (case hd => rfl); (case hg => rfl); (case hr => first | (go_simp; done) | (go_simp; rfl)); intro gb444 hg w14 hbox hb; have BK444 := Aside0.mk (hbox); have GW444 := Aside0.mk (gs (w := w) hg (bl HB.out)); have GE444 := Aside0.mk (gs (w := w) hg (bl HB.out)); replace HB := Aside0.mk (below_step (bl HB.out) hb); clear hb hbox hg; obtain ⟨hcz15_0, hcz15_1, hcz15_2, hfz15_0, hfz15_1, hfz15_2⟩ := cz3 BK444.out) | ((with_reducible refine gate_callee (f := 13) rfl ?_); refine goesL_ (some 17) rfl rfl Tryd.func13 kr rfl #[.agg #[.int .i64 a0_0, .slice A0_1 l0_1.length c0_1, .slice A0_2 l0_2.length c0_2]] rfl ga ?_; (with_reducible refine (payload_Encode.calls k a0_0 _ _ l0_1 _ _ l0_2 t445 t446 _ ?side1 ?side2 ?side3 ?side4 ?side5 A3.out).mono ?_); (case side1 => repeat (first | exact (Kd.C_below HR0_1.out HB.out) | (with_reducible refine Kd.C_alloc ?_ _) | (with_reducible refine Kd.C_drewN ?_ _) | (with_reducible refine Kd.C_drew ?_))); (case side2 => exact HC0_1.out); (case side3 => repeat (first | exact (Kd.C_below HR0_2.out HB.out) | (with_reducible refine Kd.C_alloc ?_ _) | (with_reducible refine Kd.C_drewN ?_ _) | (with_reducible refine Kd.C_drew ?_))); (case side4 => exact HC0_2.out); (case side5 => exact LaidU.below HU.out (bl HB.out)); rintro e w16 ⟨rfl, hb⟩; refine ⟨_, rfl, ?_⟩; replace BK444 := Aside0.mk (blk_below (pk BK444.out) hb); replace HB := Aside0.mk (below_step (bl HB.out) hb); (try clear hb); (try clear hb2); (try clear hk); (try clear hi); obtain ⟨hcz17_0, hcz17_1, hcz17_2, hfz17_0, hfz17_1, hfz17_2⟩ := cz3 BK444.out) | ((with_reducible refine gate_callee (f := 18) rfl ?_); refine goesL_ (some 22) rfl rfl Tryd.func18 kr rfl #[.agg #[.int .i64 a0_0, .slice A0_1 l0_1.length c0_1, .slice A0_2 l0_2.length c0_2]] rfl ga ?_; (with_reducible refine (lodestarref05_Encode.calls k a0_0 _ _ l0_1 _ _ l0_2 t447 t448 _ ?side1 ?side2 ?side3 ?side4 A4.out).mono ?_); (case side1 => repeat (first | exact (Kd.C_below HR0_1.out HB.out) | (with_reducible refine Kd.C_alloc ?_ _) | (with_reducible refine Kd.C_drewN ?_ _) | (with_reducible refine Kd.C_drew ?_))); (case side2 => exact HC0_1.out); (case side3 => repeat (first | exact (Kd.C_below HR0_2.out HB.out) | (with_reducible refine Kd.C_alloc ?_ _) | (with_reducible refine Kd.C_drewN ?_ _) | (with_reducible refine Kd.C_drew ?_))); (case side4 => exact HC0_2.out); rintro e w18 ⟨rfl, hb⟩; refine ⟨_, rfl, ?_⟩; replace BK444 := Aside0.mk (blk_below (pk BK444.out) hb); replace HB := Aside0.mk (below_step (bl HB.out) hb); (try clear hb); (try clear hb2); (try clear hk); (try clear hi)) | ((with_reducible refine gate_callee (f := 19) rfl ?_); refine goesL_ (some 27) rfl rfl Tryd.func19 kr rfl #[.string a1] rfl ga ?_; (with_reducible refine (payload_Decode.calls k a1 t449 t450 t453 t456 t457 _ ?side1 A5.out).mono ?_); (case side1 => exact LaidU.below HU.out (bl HB.out)); rintro e w19 ⟨v451, v454, rfl, ho0, ho1, hb⟩; refine ⟨_, rfl, ?_⟩; have HO452 := Aside0.mk (Kd.S_lower ho0 (below_size (bl HB.out))); have HO455 := Aside0.mk (Kd.R_lower ho1 (below_size (bl HB.out))); replace BK444 := Aside0.mk (blk_below (pk BK444.out) hb); replace HB := Aside0.mk (below_step (bl HB.out) hb); (try clear hb); (try clear hb2); (try clear hk); (try clear hi); (try clear ho0); (try clear ho1)) | ((with_reducible refine gate_dst (N := 9) rfl ?_); refine box_event ?hg (N := 9) ?hd (cs := #[.int .i64 0, .slice none 0 0, .slice none 0 0]) (t := 25) ?hr ?_; (case hd => rfl); (case hg => rfl); (case hr => first | (go_simp; done) | (go_simp; rfl)); intro gb458 hg w20 hbox hb; replace HO452 := Aside0.mk (Kd.S_below (pS HO452.out) hb); replace HO455 := Aside0.mk (Kd.R_below (pR HO455.out) hb); have BK458 := Aside0.mk (hbox); have GW458 := Aside0.mk (gs (w := w) hg (bl HB.out)); have GE458 := Aside0.mk (gs (w := w) hg (bl HB.out)); replace HB := Aside0.mk (below_step (bl HB.out) hb); have NB444_458 := Aside0.mk ((gl (g := gb444) hg (pk BK444.out))); have NB458_444 := Aside0.mk ((gm (g := gb444) hg (pk BK444.out))); replace BK444 := Aside0.mk (blk_below (pk BK444.out) hb); clear hb hbox hg; have hnb21 := NB458_444.out; have hnc21 := NB444_458.out; obtain ⟨hcz22_0, hcz22_1, hcz22_2, hfz22_0, hfz22_1, hfz22_2⟩ := cz3 BK458.out; obtain ⟨Ao23, co23, eo23⟩ := Kd.S_slice HO452.out; subst eo23; obtain ⟨Ao24, co24, eo24⟩ := Kd.R_slice HO455.out; subst eo24) | ((with_reducible refine gate_callee (f := 20) rfl ?_); refine goesL_ (some 33) rfl rfl Tryd.func20 kr rfl #[.string a1] rfl ga ?_; (with_reducible refine (lodestarref05_Decode.calls k a1 t459 t460 t463 t466 t467 _ A6.out).mono ?_); rintro e w25 ⟨v461, v464, rfl, ho0, ho1, hb⟩; refine ⟨_, rfl, ?_⟩; have HO462 := Aside0.mk (Kd.S_lower (Kd.S_new' ho0 (Kd.S_lt (by (with_reducible repeat (first | apply Kd.S_alloc | apply Kd.S_drewN | apply Kd.S_drew)); exact (Kd.S_mono (Kd.S_far (p := ⟨gb458, 2, none⟩) (Kd.S_far (p := ⟨gb458, 1, none⟩) (Kd.S_far (p := ⟨gb458, 0, none⟩) (Kd.S_types HO452.out BK458.out (by decide)) (fun _ hk => hk.2) (.int .i64 t449)) (fun _ hk => hk.2) (.slice Ao23 t450.length co23)) (fun _ hk => hk.2) (.slice Ao24 t453.length co24)) (fun _ h_ => h_.1))))) (below_size (bl HB.out))); replace HO452 := Aside0.mk (Kd.S_elder' (by (with_reducible repeat (first | apply Kd.S_alloc | apply Kd.S_drewN | apply Kd.S_drew)); exact (Kd.S_mono (Kd.S_far (p := ⟨gb458, 2, none⟩) (Kd.S_far (p := ⟨gb458, 1, none⟩) (Kd.S_far (p := ⟨gb458, 0, none⟩) (Kd.S_types HO452.out BK458.out (by decide)) (fun _ hk => hk.2) (.int .i64 t449)) (fun _ hk => hk.2) (.slice Ao23 t450.length co23)) (fun _ hk => hk.2) (.slice Ao24 t453.length co24)) (fun _ h_ => h_.1))) (Kd.S_base ho0) hb); have HO465 := Aside0.mk (Kd.R_lower (Kd.R_new' ho1 (Kd.R_lt (by (with_reducible repeat (first | apply Kd.R_alloc | apply Kd.R_drewN | apply Kd.R_drew)); exact (Kd.R_mono (Kd.R_far (p := ⟨gb458, 2, none⟩) (Kd.R_far (p := ⟨gb458, 1, none⟩) (Kd.R_far (p := ⟨gb458, 0, none⟩) (Kd.R_types HO455.out BK458.out (by decide)) (fun _ hk => hk.2) (.int .i64 t449)) (fun _ hk => hk.2) (.slice Ao23 t450.length co23)) (fun _ hk => hk.2) (.slice Ao24 t453.length co24)) (fun _ h_ => h_.1))))) (below_size (bl HB.out))); replace HO455 := Aside0.mk (Kd.R_elder' (by (with_reducible repeat (first | apply Kd.R_alloc | apply Kd.R_drewN | apply Kd.R_drew)); exact (Kd.R_mono (Kd.R_far (p := ⟨gb458, 2, none⟩) (Kd.R_far (p := ⟨gb458, 1, none⟩) (Kd.R_far (p := ⟨gb458, 0, none⟩) (Kd.R_types HO455.out BK458.out (by decide)) (fun _ hk => hk.2) (.int .i64 t449)) (fun _ hk => hk.2) (.slice Ao23 t450.length co23)) (fun _ hk => hk.2) (.slice Ao24 t453.length co24)) (fun _ h_ => h_.1))) (Kd.R_base ho1) hb); replace BK444 := Aside0.mk (blk_below (g := gb444) (o := .cells #[.int .i64 a0_0, .slice A0_1 l0_1.length c0_1, .slice A0_2 l0_2.length c0_2] 25 (0, 0)) (by refine pk ?_; refine blk_far ?_ NB444_458.out _; refine pk ?_; refine blk_far ?_ NB444_458.out _; refine pk ?_; refine blk_far ?_ NB444_458.out _; exact pk BK444.out) hb); replace BK458 := Aside0.mk (blk_below (g := gb458) (o := .cells #[.int .i64 t449, .slice Ao23 t450.length co23, .slice Ao24 t453.length co24] 25 (0, 0)) (by refine pk ?_; refine blk_put (cs := #[.int .i64 t449, .slice Ao23 t450.length co23, .slice none 0 0]) ?_ 2 _ rfl; refine pk ?_; refine blk_put (cs := #[.int .i64 t449, .slice none 0 0, .slice none 0 0]) ?_ 1 _ rfl; refine pk ?_; refine blk_put (cs := #[.int .i64 0, .slice none 0 0, .slice none 0 0]) ?_ 0 _ rfl; exact pk BK458.out) hb); replace HB := Aside0.mk (below_step (bl HB.out) hb); (try clear hb); (try clear hb2); (try clear hk); (try clear hi); (try clear ho0); (try clear ho1)) | ((with_reducible refine gate_dst (N := 12) rfl ?_); refine box_event ?hg (N := 12) ?hd (cs := #[.int .i64 0, .slice none 0 0, .slice none 0 0]) (t := 25) ?hr ?_; (case hd => rfl); (case hg => rfl); (case hr => first | (go_simp; done) | (go_simp; rfl)); intro gb468 hg w26 hbox hb; replace HO452 := Aside0.mk (Kd.S_below (pS HO452.out) hb); replace HO455 := Aside0.mk (Kd.R_below (pR HO455.out) hb); replace HO462 := Aside0.mk (Kd.S_below (pS HO462.out) hb); replace HO465 := Aside0.mk (Kd.R_below (pR HO465.out) hb); have BK468 := Aside0.mk (hbox); have GW468 := Aside0.mk (gs (w := w) hg (bl HB.out)); have GE468 := Aside0.mk (gs (w := w) hg (bl HB.out)); replace HB := Aside0.mk (below_step (bl HB.out) hb); have NB444_468 := Aside0.mk ((gl (g := gb444) hg (pk BK444.out))); have NB468_444 := Aside0.mk ((gm (g := gb444) hg (pk BK444.out))); replace BK444 := Aside0.mk (blk_below (pk BK444.out) hb); have NB458_468 := Aside0.mk ((gl (g := gb458) hg (pk BK458.out))); have NB468_458 := Aside0.mk ((gm (g := gb458) hg (pk BK458.out))); replace BK458 := Aside0.mk (blk_below (pk BK458.out) hb); clear hb hbox hg; have hnb27 := NB468_444.out; have hnc27 := NB444_468.out; have hnb28 := NB468_458.out; have hnc28 := NB458_468.out; obtain ⟨hcz29_0, hcz29_1, hcz29_2, hfz29_0, hfz29_1, hfz29_2⟩ := cz3 BK468.out; obtain ⟨Ao30, co30, eo30⟩ := Kd.S_slice HO462.out; subst eo30; obtain ⟨Ao31, co31, eo31⟩ := Kd.R_slice HO465.out; subst eo31; obtain ⟨hcz32_0, hcz32_1, hcz32_2, hfz32_0, hfz32_1, hfz32_2⟩ := cz3 BK458.out) | (go_at_call 10; (with_reducible refine (lodestarref05_Same.calls k t449 _ _ t450 _ _ t453 t459 _ _ t460 _ _ t463 true _ ?side1 ?side2 ?side3 ?side4 ?side5 ?side6 ?side7 ?side8 A9.out).mono ?_); (case side1 => refine (Kd.S_reads' (e := 59) (base := w.heap.size) (ok := fun k_ => (True ∧ some k_ ≠ (.slice Ao30 t460.length co30 : Value).ownBlock)) (n := t450.length) (c := co23) ?_).2.2; exact (by (with_reducible repeat (first | apply Kd.S_alloc | apply Kd.S_drewN | apply Kd.S_drew)); exact (Kd.S_mono (Kd.S_far (p := ⟨gb468, 2, none⟩) (Kd.S_far (p := ⟨gb468, 1, none⟩) (Kd.S_far (p := ⟨gb468, 0, none⟩) (Kd.S_types HO452.out BK468.out (by decide)) (fun _ hk => hk.2) (.int .i64 t459)) (fun _ hk => hk.2) (.slice Ao30 t460.length co30)) (fun _ hk => hk.2) (.slice Ao31 t463.length co31)) (fun _ h_ => h_.1)))); (case side2 => exact (Kd.S_reads' HO452.out).2.1); (case side3 => refine (Kd.R_reads' (e := 61) (base := w.heap.size) (ok := fun k_ => (True ∧ some k_ ≠ (.slice Ao31 t463.length co31 : Value).ownBlock)) (n := t453.length) (c := co24) ?_).2.2; exact (by (with_reducible repeat (first | apply Kd.R_alloc | apply Kd.R_drewN | apply Kd.R_drew)); exact (Kd.R_mono (Kd.R_far (p := ⟨gb468, 2, none⟩) (Kd.R_far (p := ⟨gb468, 1, none⟩) (Kd.R_far (p := ⟨gb468, 0, none⟩) (Kd.R_types HO455.out BK468.out (by decide)) (fun _ hk => hk.2) (.int .i64 t459)) (fun _ hk => hk.2) (.slice Ao30 t460.length co30)) (fun _ hk => hk.2) (.slice Ao31 t463.length co31)) (fun _ h_ => h_.1)))); (case side4 => exact (Kd.R_reads' HO455.out).2.1); (case side5 => refine (Kd.S_reads' (e := 59) (base := w.heap.size) (ok := fun k_ => (True ∧ some k_ ≠ (.slice Ao23 t450.length co23 : Value).ownBlock)) (n := t460.length) (c := co30) ?_).2.2; exact (by (with_reducible repeat (first | apply Kd.S_alloc | apply Kd.S_drewN | apply Kd.S_drew)); exact (Kd.S_mono (Kd.S_far (p := ⟨gb468, 2, none⟩) (Kd.S_far (p := ⟨gb468, 1, none⟩) (Kd.S_far (p := ⟨gb468, 0, none⟩) (Kd.S_types HO462.out BK468.out (by decide)) (fun _ hk => hk.2) (.int .i64 t459)) (fun _ hk => hk.2) (.slice Ao30 t460.length co30)) (fun _ hk => hk.2) (.slice Ao31 t463.length co31)) (fun _ h_ => h_.1)))); (case side6 => exact (Kd.S_reads' HO462.out).2.1); (case side7 => refine (Kd.R_reads' (e := 61) (base := w.heap.size) (ok := fun k_ => (True ∧ some k_ ≠ (.slice Ao24 t453.length co24 : Value).ownBlock)) (n := t463.length) (c := co31) ?_).2.2; exact (by (with_reducible repeat (first | apply Kd.R_alloc | apply Kd.R_drewN | apply Kd.R_drew)); exact (Kd.R_mono (Kd.R_far (p := ⟨gb468, 2, none⟩) (Kd.R_far (p := ⟨gb468, 1, none⟩) (Kd.R_far (p := ⟨gb468, 0, none⟩) (Kd.R_types HO465.out BK468.out (by decide)) (fun _ hk => hk.2) (.int .i64 t459)) (fun _ hk => hk.2) (.slice Ao30 t460.length co30)) (fun _ hk => hk.2) (.slice Ao31 t463.length co31)) (fun _ h_ => h_.1)))); (case side8 => exact (Kd.R_reads' HO465.out).2.1); rintro e w33 ⟨rfl, hb⟩; replace HO452 := Aside0.mk (Kd.S_below (by (with_reducible repeat (first | apply Kd.S_alloc | apply Kd.S_drewN | apply Kd.S_drew)); exact (Kd.S_mono (Kd.S_far (p := ⟨gb468, 2, none⟩) (Kd.S_far (p := ⟨gb468, 1, none⟩) (Kd.S_far (p := ⟨gb468, 0, none⟩) (Kd.S_types HO452.out BK468.out (by decide)) (fun _ hk => hk.2) (.int .i64 t459)) (fun _ hk => hk.2) (.slice Ao30 t460.length co30)) (fun _ hk => hk.2) (.slice Ao31 t463.length co31)) (fun _ h_ => h_.1))) hb); replace HO455 := Aside0.mk (Kd.R_below (by (with_reducible repeat (first | apply Kd.R_alloc | apply Kd.R_drewN | apply Kd.R_drew)); exact (Kd.R_mono (Kd.R_far (p := ⟨gb468, 2, none⟩) (Kd.R_far (p := ⟨gb468, 1, none⟩) (Kd.R_far (p := ⟨gb468, 0, none⟩) (Kd.R_types HO455.out BK468.out (by decide)) (fun _ hk => hk.2) (.int .i64 t459)) (fun _ hk => hk.2) (.slice Ao30 t460.length co30)) (fun _ hk => hk.2) (.slice Ao31 t463.length co31)) (fun _ h_ => h_.1))) hb); replace HO462 := Aside0.mk (Kd.S_below (by (with_reducible repeat (first | apply Kd.S_alloc | apply Kd.S_drewN | apply Kd.S_drew)); exact (Kd.S_mono (Kd.S_far (p := ⟨gb468, 2, none⟩) (Kd.S_far (p := ⟨gb468, 1, none⟩) (Kd.S_far (p := ⟨gb468, 0, none⟩) (Kd.S_types HO462.out BK468.out (by decide)) (fun _ hk => hk.2) (.int .i64 t459)) (fun _ hk => hk.2) (.slice Ao30 t460.length co30)) (fun _ hk => hk.2) (.slice Ao31 t463.length co31)) (fun _ h_ => h_.1))) hb); replace HO465 := Aside0.mk (Kd.R_below (by (with_reducible repeat (first | apply Kd.R_alloc | apply Kd.R_drewN | apply Kd.R_drew)); exact (Kd.R_mono (Kd.R_far (p := ⟨gb468, 2, none⟩) (Kd.R_far (p := ⟨gb468, 1, none⟩) (Kd.R_far (p := ⟨gb468, 0, none⟩) (Kd.R_types HO465.out BK468.out (by decide)) (fun _ hk => hk.2) (.int .i64 t459)) (fun _ hk => hk.2) (.slice Ao30 t460.length co30)) (fun _ hk => hk.2) (.slice Ao31 t463.length co31)) (fun _ h_ => h_.1))) hb); replace BK444 := Aside0.mk (blk_below (g := gb444) (o := .cells #[.int .i64 a0_0, .slice A0_1 l0_1.length c0_1, .slice A0_2 l0_2.length c0_2] 25 (0, 0)) (by refine pk ?_; refine blk_far ?_ NB444_468.out _; refine pk ?_; refine blk_far ?_ NB444_468.out _; refine pk ?_; refine blk_far ?_ NB444_468.out _; exact pk BK444.out) hb); replace BK458 := Aside0.mk (blk_below (g := gb458) (o := .cells #[.int .i64 t449, .slice Ao23 t450.length co23, .slice Ao24 t453.length co24] 25 (0, 0)) (by refine pk ?_; refine blk_far ?_ NB458_468.out _; refine pk ?_; refine blk_far ?_ NB458_468.out _; refine pk ?_; refine blk_far ?_ NB458_468.out _; exact pk BK458.out) hb); replace BK468 := Aside0.mk (blk_below (g := gb468) (o := .cells #[.int .i64 t459, .slice Ao30 t460.length co30, .slice Ao31 t463.length co31] 25 (0, 0)) (by refine pk ?_; refine blk_put (cs := #[.int .i64 t459, .slice Ao30 t460.length co30, .slice none 0 0]) ?_ 2 _ rfl; refine pk ?_; refine blk_put (cs := #[.int .i64 t459, .slice none 0 0, .slice none 0 0]) ?_ 1 _ rfl; refine pk ?_; refine blk_put (cs := #[.int .i64 0, .slice none 0 0, .slice none 0 0]) ?_ 0 _ rfl; exact pk BK468.out) hb); replace HB := Aside0.mk (below_step (bl HB.out) hb); (try clear hb); (try clear hb2); (try clear hk); (try clear hi)) | (go_at_call 12; (with_reducible refine (lodestarlaw05_awake.calls k  t470 _ ?side1 A13.out).mono ?_); (case side1 => exact LaidU.below HU.out (bl HB.out)); rintro e w34 ⟨rfl, hb⟩; replace HO452 := Aside0.mk (Kd.S_below (pS HO452.out) hb); replace HO455 := Aside0.mk (Kd.R_below (pR HO455.out) hb); replace HO462 := Aside0.mk (Kd.S_below (pS HO462.out) hb); replace HO465 := Aside0.mk (Kd.R_below (pR HO465.out) hb); replace BK444 := Aside0.mk (blk_below (pk BK444.out) hb); replace BK458 := Aside0.mk (blk_below (pk BK458.out) hb); replace BK468 := Aside0.mk (blk_below (pk BK468.out) hb); replace HB := Aside0.mk (below_step (bl HB.out) hb); (try clear hb); (try clear hb2); (try clear hk); (try clear hi)))
      go_ret
      exact ⟨er1, bl HB.out⟩
     ·rw [if_neg c12] at H
      have c12b0 : (t457 == t467) = false := beq_eq_false_iff_ne.mpr c12
      have c12b1 : (t457 != t467) = true := bne_iff_ne.mpr c12
      exact absurd (Option.some.inj H) (by simp)
    ·rw [if_neg c11] at H
     have c11b0 : (t456 == t466) = false := beq_eq_false_iff_ne.mpr c11
     have c11b1 : (t456 != t466) = true := bne_iff_ne.mpr c11
     exact absurd (Option.some.inj H) (by simp)
   ·replace c10 := Bool.eq_false_iff.mpr c10
    subst c10
    have H1 : (some false) = some true := by rw [if_neg (show ¬ (false = true) by decide)] at H; exact H
    clear H
    have H := H1
    clear H1
    exact absurd (Option.some.inj H) (by simp)
  ·rw [if_neg c8] at H
   have c8b0 : (t446 == t448) = false := beq_eq_false_iff_ne.mpr c8
   have c8b1 : (t446 != t448) = true := bne_iff_ne.mpr c8
   exact absurd (Option.some.inj H) (by simp)
 ·rw [if_neg c7] at H
  have c7b0 : (t445.toList == t447.toList) = false := beq_eq_false_iff_ne.mpr c7
  have c7b1 : (t445.toList != t447.toList) = true := bne_iff_ne.mpr c7
  exact absurd (Option.some.inj H) (by simp)

end Go.Proofs.YtbeljekpknpadaaDoor.PPayV
