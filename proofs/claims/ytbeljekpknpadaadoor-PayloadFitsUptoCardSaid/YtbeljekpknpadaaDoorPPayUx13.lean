-- Written by a program of this session on top of the print: some functions by hand.
import Derived.Test.YtbeljekpknpadaaDoorPPayUx0
import Derived.Test.YtbeljekpknpadaaDoorPPayUx2
import Derived.Test.YtbeljekpknpadaaDoorPPayUx6
namespace Go.Proofs.YtbeljekpknpadaaDoor.PPayU
open Go.RowKit Go.Proofs.YtbeljekpknpadaaDoorW.PrintWords Go.Proofs.YtbeljekpknpadaaDoorW.PrintLast Go.Proofs.YtbeljekpknpadaaDoorW.PrintMore
attribute [local go_sem] max2_int min2_int max_two min_two max_three min_three max_four min_four   -- for this text's walks alone
set_option linter.unusedVariables false
set_option linter.unusedSimpArgs false

attribute [local go_sem high] eqA93
/-! ### api_VecSpec_75: function 75 -/
/-- the place of the first field of a name, from the place i on -/
def specAt (a : ByteArray) : Nat → List S89 → Int
 | _, [] => -1
 | i, x :: l => if x.f0.toList == a.toList then (i : Int) else specAt a (i + 1) l
theorem specAt_drop (a : ByteArray) (l : List S89) (i : Nat) (h : i < l.length) : specAt a i (l.drop i) = if (rd_T89 l (i : Int)).f0.toList == a.toList then (i : Int) else specAt a (i + 1) (l.drop (i + 1)) := by
 rw [List.drop_eq_getElem_cons h, specAt]
 simp [rd_T89, List.getD_eq_getElem?_getD, h]
theorem specAt_cases (a : ByteArray) : ∀ (l : List S89) (i : Nat), specAt a i l = -1 ∧ l.find? (fun x => x.f0.toList == a.toList) = none ∨ ∃ j x, specAt a i l = ((i + j : Nat) : Int) ∧ l[j]? = some x ∧ l.find? (fun x => x.f0.toList == a.toList) = some x
 | [], i => .inl ⟨rfl, rfl⟩
 | x :: l, i => by
  unfold specAt
  by_cases h : (x.f0.toList == a.toList) = true
  ·refine .inr ⟨0, x, by rw [if_pos h]; rfl, rfl, by simp only [List.find?_cons, h]⟩
  ·have hf : (x.f0.toList == a.toList) = false := by simpa using h
   rw [if_neg h]
   rcases specAt_cases a l (i + 1) with ⟨h1, h2⟩ | ⟨j, y, h1, h2, h3⟩
   ·exact .inl ⟨h1, by simp only [List.find?_cons, hf]; exact h2⟩
   ·exact .inr ⟨j + 1, y, by rw [h1]; congr 1; omega, h2, by simp only [List.find?_cons, hf]; exact h3⟩
def api_VecSpec_75.f (l0 : List (S89)) (a1 : ByteArray) : Option (Int) := if l0.length ≤ 4611686018427387904 then some (specAt a1 0 l0) else none
theorem specAt_succ (i n : Nat) (h : i < n) (hn : n ≤ 4611686018427387904) : wrap64 ((i : Int) + 1) = ((i + 1 : Nat) : Int) := by
 unfold wrap64
 omega
set_option maxHeartbeats 8000000 in
set_option maxRecDepth 100000 in
theorem api_VecSpec_75.test (f0 : ByteArray) (f1 f2 : Int) (a1 : ByteArray) (b : Nat) (w : World) (hc : w.cell? ⟨b, 0, none⟩ = some (.string a1)) :
  Calls Tryd.prog 76 #[.agg #[.string f0, .int .i64 f1, .int .i64 f2], .pointer (some ⟨b, 0, none⟩)] w fun e w' => e = .returned (.bool (f0.toList == a1.toList)) ∧ Below w.heap.size w w' := by
 have hu89 := Tryd.underlying89
 have HB := Aside0.mk (Below.refl w.heap.size w)
 have HC := Aside0.mk hc
 clear hc
 go_enter Tryd.func76, Tryd.ntmps76
 go_wp2_with (first | ((with_reducible refine gate_dst (N := 2) rfl ?_); refine box_event ?hg (N := 2) ?hd (cs := #[.string f0, .int .i64 f1, .int .i64 f2]) (t := 89) ?hr ?_; (case hd => rfl); (case hg => rfl); (case hr => first | (go_simp; done) | (go_simp; rfl)); intro gb hg w2 hbox hb; have hcap := (hb.cell (World.block_lt_of_cell? w _ HC.out)).trans HC.out; replace HB := Aside0.mk (below_step HB.out hb); have hcz3_0 : w2.cell? ⟨gb, 0, none⟩ = some (.string f0) := (blk_cell hbox 0).trans rfl; clear hb hbox hg))
 go_ret
 exact ⟨rfl, HB.out⟩
set_option maxHeartbeats 8000000 in
set_option maxRecDepth 100000 in
theorem api_VecSpec_75.index (A0 : Option Addr) (c0 : Nat) (l0 : List (S89)) (a1 : ByteArray) (b : Nat) (r : Int) (w : World) (hr0 : Kd.C k89 w A0 l0.length l0) (hlen : l0.length ≤ 4611686018427387904) (hc : w.cell? ⟨b, 0, none⟩ = some (.string a1)) (hr : r = specAt a1 0 l0) :
  Calls Tryd.prog 75 #[.slice A0 l0.length c0, .func (.func 76) #[] #[.pointer (some ⟨b, 0, none⟩)]] w fun e w' => e = .returned (.int .i64 r) ∧ Below w.heap.size w w' := by
 have hu89 := Tryd.underlying89
 have HR0 := Aside0.mk hr0
 have HC := Aside0.mk hc
 have HN := Aside0.mk hlen
 have HB := Aside0.mk (Below.refl w.heap.size w)
 have HF := Aside0.mk hr
 clear hr0 hc hr hlen
 go_enter Tryd.func75, Tryd.ntmps75
 go_wp2
 go_loopw [8] (fun v8 w' => ∃ i : Nat, i ≤ l0.length ∧ v8 = .int .i64 (i : Int) ∧ Aside0 (r = specAt a1 i (l0.drop i)) ∧ Aside0 (Below w.heap.size w w')) (fun v8 _ => l0.length - (intOf v8).toNat)
 case atStart => exact ⟨0, by omega, rfl, HF, HB⟩
 case round =>
  clear HF HB
  obtain ⟨i, hi, rfl, HF, HB⟩ := hrel
  by_cases hlt : i < l0.length
  ·have c4b0 : decide ((i : Int) < (l0.length : Int)) = true := by simp; omega
   have p152 : (0 : Int) ≤ (i : Int) := by omega
   have q152 : (i : Int) < (l0.length : Int) := by omega
   obtain ⟨ad152, e152, hx152_0, hx152_1, hx152_2⟩ := at_T89 HR0.out (i : Int) p152 q152
   cases e152
   replace hx152_0 := (HB.out.cell (World.block_lt_of_cell? w _ hx152_0)).trans hx152_0
   replace hx152_1 := (HB.out.cell (World.block_lt_of_cell? w _ hx152_1)).trans hx152_1
   replace hx152_2 := (HB.out.cell (World.block_lt_of_cell? w _ hx152_2)).trans hx152_2
   simp only [Int.toNat_natCast] at hx152_0 hx152_1 hx152_2
   have c5b0 : decide ((0 : Int) ≤ (i : Int)) = true := by simp
   have HS := Aside0.mk (specAt_drop a1 l0 i hlt)
   obtain ⟨t, ht⟩ : ∃ t : Bool, t = ((rd_T89 l0 (i : Int)).f0.toList == a1.toList) := ⟨_, rfl⟩
   rw [← ht] at HS
   have HT := Aside0.mk ht
   clear ht
   by_cases hb : t = true
   ·subst hb
    go_wp2_with (first | (go_at_call 76; (with_reducible refine (api_VecSpec_75.test ((rd_T89 l0 (i : Int)).f0) ((rd_T89 l0 (i : Int)).f1) ((rd_T89 l0 (i : Int)).f2) a1 b _ ?side1).mono ?_); (case side1 => exact (HB.out.cell (World.block_lt_of_cell? w _ HC.out)).trans HC.out); rw [← HT.out]; rintro e w9 ⟨rfl, hb⟩; replace HB := Aside0.mk (below_step HB.out hb); clear hb))
    go_ret
    have hr : r = (i : Int) := by rw [HF.out, HS.out]; rfl
    rw [hr]
    exact ⟨rfl, HB.out⟩
   ·obtain rfl : t = false := by simpa using hb
    clear hb
    go_wp2_with (first | (go_at_call 76; (with_reducible refine (api_VecSpec_75.test ((rd_T89 l0 (i : Int)).f0) ((rd_T89 l0 (i : Int)).f1) ((rd_T89 l0 (i : Int)).f2) a1 b _ ?side1).mono ?_); (case side1 => exact (HB.out.cell (World.block_lt_of_cell? w _ HC.out)).trans HC.out); rw [← HT.out]; rintro e w9 ⟨rfl, hb⟩; replace HB := Aside0.mk (below_step HB.out hb); clear hb))
    have hw := specAt_succ i l0.length hlt HN.out
    go_roundw
    case measure => rw [hw]; simp [intOf]; omega
    case rel => exact ⟨i + 1, by omega, by rw [hw], ⟨by rw [HF.out, HS.out]; rfl⟩, HB⟩
  ·obtain rfl : i = l0.length := by omega
   have c4b0 : decide ((l0.length : Int) < (l0.length : Int)) = false := by simp
   go_wp2
   go_ret
   have hr : r = -1 := by rw [HF.out, List.drop_eq_nil_of_le (Nat.le_refl _)]; rfl
   rw [hr]
   exact ⟨rfl, HB.out⟩
theorem api_VecSpec_75.calls (A0 : Option Addr) (c0 : Nat) (l0 : List (S89)) (b1 : Nat) (a1 : ByteArray) (r : Int) (w : World) (hr0 : Kd.C k89 w A0 l0.length l0) (hc0 : l0.length ≤ c0) (hb1 : w.cell? ⟨b1, 0, none⟩ = some (.string a1)) (h : api_VecSpec_75.f l0 a1 = some r) :
  Calls Tryd.prog 75 #[.slice A0 l0.length c0, .func (.func 76) #[] #[.pointer (some ⟨b1, 0, none⟩)]] w fun e w' => e = .returned (.int .i64 r) ∧ Below w.heap.size w w' := by
 unfold api_VecSpec_75.f at h
 split at h
 ·rename_i hl
  exact api_VecSpec_75.index A0 c0 l0 a1 b1 r w hr0 hl hb1 (Option.some.inj h).symm
 ·cases h

-- NOT PRINTED: function 76 (payload_fits_1)

/-! ### payload_fits: function 53 -/
def payload_fits.j0 : Nat → Int → Bool → List (S89) → List (S93) → ByteArray → List Int → Option (Bool)
 | 0, _, _, _, _, _, _ => none
 | k + 1, x5, x29, x292000, x292001, x293000, x293001 => if x29 = true then (some false) else (if 0 ≤ x5 then (if x5 < (x292000.length : Int) then (if ((rd_T89 x292000 x5).f2) = 3 then ((slices_ContainsFunc_int_int.f k x293001 78).bind fun t297 => (some t297)) else (some true)) else (none)) else (none))
def payload_fits.f (k : Nat) (l0_0 : List (S89)) (l0_1 : List (S93)) (a1_0 : ByteArray) (l1_1 : List Int) : Option (Bool) := (api_VecSpec_75.f l0_0 a1_0).bind fun t293 => (if t293 < 0 then (payload_fits.j0 k t293 true l0_0 l0_1 a1_0 l1_1) else (if 0 ≤ t293 then (if t293 < (l0_0.length : Int) then (if (l1_1.length : Int) = ((rd_T89 l0_0 t293).f1) then ((payload_inside.f k l1_1).bind fun t295 => (payload_fits.j0 k t293 (!t295) l0_0 l0_1 a1_0 l1_1)) else (payload_fits.j0 k t293 true l0_0 l0_1 a1_0 l1_1)) else (none)) else (none)))
theorem payload_fits.mono_l : ∀ k, (∀ y0 y1 y2 y3 y4 y5, LeO (payload_fits.j0 k y0 y1 y2 y3 y4 y5) (payload_fits.j0 (k + 1) y0 y1 y2 y3 y4 y5))
 | 0 => fun _ _ _ _ _ _ r h => by simp [payload_fits.j0] at h
 | k + 1 => by
  have ih0 := payload_fits.mono_l k
  ·intro y0 y1 y2 y3 y4 y5
   unfold payload_fits.j0
   repeat' first
   | (with_reducible exact ih0 _ _ _ _ _ _)
   | (with_reducible exact payload_inside.mono _ _)
   | (with_reducible exact slices_ContainsFunc_int_int.mono _ _ _)
   | (with_reducible exact LeO.refl _)
   | (with_reducible exact LeO.none _)
   | (with_reducible refine LeO.ite ?_ ?_)
   | (with_reducible refine LeO.bind ?_ (fun _ => ?_))
   | exact ih0 _ _ _ _ _ _
   | exact payload_inside.mono _ _
   | exact slices_ContainsFunc_int_int.mono _ _ _
   | exact LeO.none _
   | refine LeO.ite ?_ ?_
   | refine LeO.bind ?_ (fun _ => ?_)
theorem payload_fits.mono : ∀ a0 a1 a2 a3 k, LeO (payload_fits.f k a0 a1 a2 a3) (payload_fits.f (k + 1) a0 a1 a2 a3) := by
 intro a0 a1 a2 a3 k
 have ih0 := payload_fits.mono_l k
 unfold payload_fits.f
 repeat' first
   | (with_reducible exact ih0 _ _ _ _ _ _)
   | (with_reducible exact payload_inside.mono _ _)
   | (with_reducible exact slices_ContainsFunc_int_int.mono _ _ _)
   | (with_reducible exact LeO.refl _)
   | (with_reducible exact LeO.none _)
   | (with_reducible refine LeO.ite ?_ ?_)
   | (with_reducible refine LeO.bind ?_ (fun _ => ?_))
   | exact ih0 _ _ _ _ _ _
   | exact payload_inside.mono _ _
   | exact slices_ContainsFunc_int_int.mono _ _ _
   | exact LeO.none _
   | refine LeO.ite ?_ ?_
   | refine LeO.bind ?_ (fun _ => ?_)
set_option maxHeartbeats 8000000 in
set_option maxRecDepth 100000 in
theorem payload_fits.calls (k : Nat) (A0_0 : Option Addr) (c0_0 : Nat) (l0_0 : List (S89)) (A0_1 : Option Addr) (c0_1 : Nat) (l0_1 : List (S93)) (a1_0 : ByteArray) (A1_1 : Option Addr) (c1_1 : Nat) (l1_1 : List Int) (r : Bool) (w : World) (hr0_0 : Kd.C k89 w A0_0 l0_0.length l0_0) (hc0_0 : l0_0.length ≤ c0_0) (hr0_1 : Kd.C k93 w A0_1 l0_1.length l0_1) (hc0_1 : l0_1.length ≤ c0_1) (hr1_1 : Kd.C (Kd.int .i64) w A1_1 l1_1.length l1_1) (hc1_1 : l1_1.length ≤ c1_1) (h : payload_fits.f k l0_0 l0_1 a1_0 l1_1 = some r) :
  Calls Tryd.prog 53 #[.agg #[.slice A0_0 l0_0.length c0_0, .slice A0_1 l0_1.length c0_1], .agg #[.string a1_0, .slice A1_1 l1_1.length c1_1]] w fun e w' => e = .returned (.bool r) ∧ Below w.heap.size w w' := by
 have hu51 := Tryd.underlying51
 have hu59 := Tryd.underlying59
 have hmf : ∀ (fn : Fn) (first cap : Array Value) (w : World), (Instr.makeFunc fn first cap).run Tryd.prog w = .ok (.func fn first cap) w := fun _ _ _ _ => rfl
 have HR0_0 := Aside0.mk hr0_0
 have HC0_0 := Aside0.mk hc0_0
 clear hr0_0 hc0_0
 have HR0_1 := Aside0.mk hr0_1
 have HC0_1 := Aside0.mk hc0_1
 clear hr0_1 hc0_1
 have HR1_1 := Aside0.mk hr1_1
 have HC1_1 := Aside0.mk hc1_1
 clear hr1_1 hc1_1
 have HB := Aside0.mk (Below.refl w.heap.size w)
 have H : ((api_VecSpec_75.f l0_0 a1_0).bind fun t293 => (if t293 < 0 then (payload_fits.j0 k t293 true l0_0 l0_1 a1_0 l1_1) else (if 0 ≤ t293 then (if t293 < (l0_0.length : Int) then (if (l1_1.length : Int) = ((rd_T89 l0_0 t293).f1) then ((payload_inside.f k l1_1).bind fun t295 => (payload_fits.j0 k t293 (!t295) l0_0 l0_1 a1_0 l1_1)) else (payload_fits.j0 k t293 true l0_0 l0_1 a1_0 l1_1)) else (none)) else (none)))) = some r := h
 clear h
 replace H := Option.bind_eq_some_iff.mp H
 obtain ⟨t293, A30, H⟩ := H
 replace H : (if t293 < 0 then (payload_fits.j0 k t293 true l0_0 l0_1 a1_0 l1_1) else (if 0 ≤ t293 then (if t293 < (l0_0.length : Int) then (if (l1_1.length : Int) = ((rd_T89 l0_0 t293).f1) then ((payload_inside.f k l1_1).bind fun t295 => (payload_fits.j0 k t293 (!t295) l0_0 l0_1 a1_0 l1_1)) else (payload_fits.j0 k t293 true l0_0 l0_1 a1_0 l1_1)) else (none)) else (none))) = some r := H
 have A3 := Aside0.mk A30
 clear A30
 have HC4 := Aside0.mk H
 clear H
 go_enter Tryd.func53, Tryd.ntmps53
 go_upto_region 2 with (first | ((with_reducible refine gate_dst (N := 2) rfl ?_); (try (refine gate_guard (by rfl) ?_; dsimp only)); refine box_event ?hg (N := 2) ?hd (cs := #[.slice A0_0 l0_0.length c0_0, .slice A0_1 l0_1.length c0_1]) (t := 51) ?hr ?_; (case hd => rfl); (case hg => rfl); (case hr => first | (go_simp; done) | (go_simp; rfl)); intro gb291 hg w5 hbox hb; have BK291 := Aside0.mk (hbox); have GW291 := Aside0.mk (gs (w := w) hg (bl HB.out)); have GE291 := Aside0.mk (gs (w := w) hg (bl HB.out)); replace HB := Aside0.mk (below_step (bl HB.out) hb); clear hb hbox hg) | ((with_reducible refine gate_dst (N := 3) rfl ?_); (try (refine gate_guard (by rfl) ?_; dsimp only)); refine box_event ?hg (N := 3) ?hd (cs := #[.string a1_0, .slice A1_1 l1_1.length c1_1]) (t := 59) ?hr ?_; (case hd => rfl); (case hg => rfl); (case hr => first | (go_simp; done) | (go_simp; rfl)); intro gb292 hg w6 hbox hb; have BK292 := Aside0.mk (hbox); have GW292 := Aside0.mk (gs (w := w) hg (bl HB.out)); have GE292 := Aside0.mk (gs (w := w) hg (bl HB.out)); replace HB := Aside0.mk (below_step (bl HB.out) hb); have NB291_292 := Aside0.mk ((gl (g := gb291) hg (pk BK291.out))); have NB292_291 := Aside0.mk ((gm (g := gb291) hg (pk BK291.out))); replace BK291 := Aside0.mk (blk_below (pk BK291.out) hb); clear hb hbox hg; have hnb7 := NB291_292.out; have hnc7 := NB292_291.out; obtain ⟨hcz8_0, hcz8_1, hfz8_0, hfz8_1⟩ := cz2 BK291.out) | (go_at_call 75; (with_reducible refine (api_VecSpec_75.calls _ _ l0_0 gb292 a1_0 t293 _ ?side1 ?side2 ?side3 A3.out).mono ?_); (case side1 => repeat (first | exact (Kd.C_below HR0_0.out HB.out) | (with_reducible refine Kd.C_alloc ?_ _) | (with_reducible refine Kd.C_drewN ?_ _) | (with_reducible refine Kd.C_drew ?_))); (case side2 => exact HC0_0.out); (case side3 => exact (blk_cell (pk BK292.out) 0).trans rfl); rintro e w9 ⟨rfl, hb⟩; replace BK291 := Aside0.mk (blk_below (pk BK291.out) hb); replace BK292 := Aside0.mk (blk_below (pk BK292.out) hb); replace HB := Aside0.mk (below_step (bl HB.out) hb); (try clear hb); (try clear hb2); (try clear hk); (try clear hi)))
 repeat (go_quiet (first | ((with_reducible refine gate_dst (N := 2) rfl ?_); (try (refine gate_guard (by rfl) ?_; dsimp only)); refine box_event ?hg (N := 2) ?hd (cs := #[.slice A0_0 l0_0.length c0_0, .slice A0_1 l0_1.length c0_1]) (t := 51) ?hr ?_; (case hd => rfl); (case hg => rfl); (case hr => first | (go_simp; done) | (go_simp; rfl)); intro gb291 hg w5 hbox hb; have BK291 := Aside0.mk (hbox); have GW291 := Aside0.mk (gs (w := w) hg (bl HB.out)); have GE291 := Aside0.mk (gs (w := w) hg (bl HB.out)); replace HB := Aside0.mk (below_step (bl HB.out) hb); clear hb hbox hg) | ((with_reducible refine gate_dst (N := 3) rfl ?_); (try (refine gate_guard (by rfl) ?_; dsimp only)); refine box_event ?hg (N := 3) ?hd (cs := #[.string a1_0, .slice A1_1 l1_1.length c1_1]) (t := 59) ?hr ?_; (case hd => rfl); (case hg => rfl); (case hr => first | (go_simp; done) | (go_simp; rfl)); intro gb292 hg w6 hbox hb; have BK292 := Aside0.mk (hbox); have GW292 := Aside0.mk (gs (w := w) hg (bl HB.out)); have GE292 := Aside0.mk (gs (w := w) hg (bl HB.out)); replace HB := Aside0.mk (below_step (bl HB.out) hb); have NB291_292 := Aside0.mk ((gl (g := gb291) hg (pk BK291.out))); have NB292_291 := Aside0.mk ((gm (g := gb291) hg (pk BK291.out))); replace BK291 := Aside0.mk (blk_below (pk BK291.out) hb); clear hb hbox hg; have hnb7 := NB291_292.out; have hnc7 := NB292_291.out; obtain ⟨hcz8_0, hcz8_1, hfz8_0, hfz8_1⟩ := cz2 BK291.out) | (go_at_call 75; (with_reducible refine (api_VecSpec_75.calls _ _ l0_0 gb292 a1_0 t293 _ ?side1 ?side2 ?side3 A3.out).mono ?_); (case side1 => repeat (first | exact (Kd.C_below HR0_0.out HB.out) | (with_reducible refine Kd.C_alloc ?_ _) | (with_reducible refine Kd.C_drewN ?_ _) | (with_reducible refine Kd.C_drew ?_))); (case side2 => exact HC0_0.out); (case side3 => exact (blk_cell (pk BK292.out) 0).trans rfl); rintro e w9 ⟨rfl, hb⟩; replace BK291 := Aside0.mk (blk_below (pk BK291.out) hb); replace BK292 := Aside0.mk (blk_below (pk BK292.out) hb); replace HB := Aside0.mk (below_step (bl HB.out) hb); (try clear hb); (try clear hb2); (try clear hk); (try clear hi))); go_upto_region 2 with (first | ((with_reducible refine gate_dst (N := 2) rfl ?_); (try (refine gate_guard (by rfl) ?_; dsimp only)); refine box_event ?hg (N := 2) ?hd (cs := #[.slice A0_0 l0_0.length c0_0, .slice A0_1 l0_1.length c0_1]) (t := 51) ?hr ?_; (case hd => rfl); (case hg => rfl); (case hr => first | (go_simp; done) | (go_simp; rfl)); intro gb291 hg w5 hbox hb; have BK291 := Aside0.mk (hbox); have GW291 := Aside0.mk (gs (w := w) hg (bl HB.out)); have GE291 := Aside0.mk (gs (w := w) hg (bl HB.out)); replace HB := Aside0.mk (below_step (bl HB.out) hb); clear hb hbox hg) | ((with_reducible refine gate_dst (N := 3) rfl ?_); (try (refine gate_guard (by rfl) ?_; dsimp only)); refine box_event ?hg (N := 3) ?hd (cs := #[.string a1_0, .slice A1_1 l1_1.length c1_1]) (t := 59) ?hr ?_; (case hd => rfl); (case hg => rfl); (case hr => first | (go_simp; done) | (go_simp; rfl)); intro gb292 hg w6 hbox hb; have BK292 := Aside0.mk (hbox); have GW292 := Aside0.mk (gs (w := w) hg (bl HB.out)); have GE292 := Aside0.mk (gs (w := w) hg (bl HB.out)); replace HB := Aside0.mk (below_step (bl HB.out) hb); have NB291_292 := Aside0.mk ((gl (g := gb291) hg (pk BK291.out))); have NB292_291 := Aside0.mk ((gm (g := gb291) hg (pk BK291.out))); replace BK291 := Aside0.mk (blk_below (pk BK291.out) hb); clear hb hbox hg; have hnb7 := NB291_292.out; have hnc7 := NB292_291.out; obtain ⟨hcz8_0, hcz8_1, hfz8_0, hfz8_1⟩ := cz2 BK291.out) | (go_at_call 75; (with_reducible refine (api_VecSpec_75.calls _ _ l0_0 gb292 a1_0 t293 _ ?side1 ?side2 ?side3 A3.out).mono ?_); (case side1 => repeat (first | exact (Kd.C_below HR0_0.out HB.out) | (with_reducible refine Kd.C_alloc ?_ _) | (with_reducible refine Kd.C_drewN ?_ _) | (with_reducible refine Kd.C_drew ?_))); (case side2 => exact HC0_0.out); (case side3 => exact (blk_cell (pk BK292.out) 0).trans rfl); rintro e w9 ⟨rfl, hb⟩; replace BK291 := Aside0.mk (blk_below (pk BK291.out) hb); replace BK292 := Aside0.mk (blk_below (pk BK292.out) hb); replace HB := Aside0.mk (below_step (bl HB.out) hb); (try clear hb); (try clear hb2); (try clear hk); (try clear hi))))
 (try simp only [Act.put, List.setIfInBounds_toArray, List.set_cons_zero, List.set_cons_succ])
 go_cut [29] (fun v29 wc => ∃ (kq : Nat) (x29_3 : Bool), v29 = .bool x29_3 ∧ Aside0 (payload_fits.j0 kq t293 x29_3 l0_0 l0_1 a1_0 l1_1 = some r) ∧ Aside0 (kq ≤ k) ∧ Aside0 (wc.heap[gb291]? = some (.cells #[(.slice A0_0 l0_0.length c0_0), (.slice A0_1 l0_1.length c0_1)] 51 (0, 0))) ∧ Aside0 (wc.heap[gb292]? = some (.cells #[.string a1_0, (.slice A1_1 l1_1.length c1_1)] 59 (0, 0))) ∧ Aside0 (Below w.heap.size w wc))
 case first =>
  have H := HC4.out
  clear HC4
  by_cases c10 : t293 < 0
  ·rw [if_pos c10] at H
   have c10b0 : decide (t293 < 0) = true := decide_eq_true c10
   clear c10
   (first | rw [c10b0] | (simp only [i64_w, i32_w]; rw [c10b0]) | skip)
   have H' := Aside0.mk H
   clear H
   go_wp2
   repeat (go_quiet (fail); try go_wp2)
   go_meet
   case rel => exact ⟨_, (true), hsr, H', ⟨by first | omega | exact Nat.le_refl _⟩, ⟨pk BK291.out⟩, ⟨pk BK292.out⟩, ⟨bl HB.out⟩⟩
  ·rw [if_neg c10] at H
   have c10b0 : decide (t293 < 0) = false := decide_eq_false c10
   clear c10
   (first | rw [c10b0] | (simp only [i64_w, i32_w]; rw [c10b0]) | skip)
   by_cases c11 : 0 ≤ t293
   ·rw [if_pos c11] at H
    have c11b0 : decide (0 ≤ t293) = true := decide_eq_true c11
    clear c11
    by_cases c12 : t293 < (l0_0.length : Int)
    ·rw [if_pos c12] at H
     have c12b0 : decide (t293 < (l0_0.length : Int)) = true := decide_eq_true c12
     clear c12
     by_cases c13 : (l1_1.length : Int) = ((rd_T89 l0_0 t293).f1)
     ·rw [if_pos c13] at H
      have c13b0 : ((l1_1.length : Int) == ((rd_T89 l0_0 t293).f1)) = true := beq_iff_eq.mpr c13
      have c13b1 : ((l1_1.length : Int) != ((rd_T89 l0_0 t293).f1)) = false := bne_eq_false_iff_eq.mpr c13
      clear c13
      replace H := Option.bind_eq_some_iff.mp H
      obtain ⟨t295, A140, H⟩ := H
      replace H : (payload_fits.j0 k t293 (!t295) l0_0 l0_1 a1_0 l1_1) = some r := H
      have A14 := Aside0.mk A140
      clear A140
      have H' := Aside0.mk H
      clear H
      have hnb15 := NB292_291.out
      have hnc15 := NB291_292.out
      obtain ⟨hcz16_0, hcz16_1, hfz16_0, hfz16_1⟩ := cz2 BK292.out
      obtain ⟨hcz17_0, hcz17_1, hfz17_0, hfz17_1⟩ := cz2 BK291.out
      have p294 : 0 ≤ (t293 : Int) := of_decide_eq_true ha
      have q294 : t293 < (l0_0.length : Int) := of_decide_eq_true ha
      obtain ⟨ad294, e294, hx294_0, hx294_1, hx294_2⟩ := at_T89 HR0_0.out t293 p294 q294
      cases e294
      replace hx294_0 := (HB.out.cell (World.block_lt_of_cell? w _ hx294_0)).trans hx294_0
      replace hx294_1 := (HB.out.cell (World.block_lt_of_cell? w _ hx294_1)).trans hx294_1
      replace hx294_2 := (HB.out.cell (World.block_lt_of_cell? w _ hx294_2)).trans hx294_2
      replace p294 := eq_true p294
      replace q294 := eq_true q294
      go_wp2_with (first | (go_at_call 59; (with_reducible refine (payload_inside.calls k _ _ l1_1 t295 _ ?side1 ?side2 A14.out).mono ?_); (case side1 => repeat (first | exact (Kd.C_below HR1_1.out HB.out) | (with_reducible refine Kd.C_alloc ?_ _) | (with_reducible refine Kd.C_drewN ?_ _) | (with_reducible refine Kd.C_drew ?_))); (case side2 => exact HC1_1.out); rintro e w' ⟨rfl, ⟨nd, rfl⟩⟩; (try first | exact ⟨rfl, _, World.drewN_drewN _ _ _⟩ | exact ⟨rfl, _, Eq.trans (World.drewN_drewN _ _ _) (congrArg (World.drewN _) (Nat.add_assoc _ _ _))⟩)))
      repeat (go_quiet (first | (go_at_call 59; (with_reducible refine (payload_inside.calls k _ _ l1_1 t295 _ ?side1 ?side2 A14.out).mono ?_); (case side1 => repeat (first | exact (Kd.C_below HR1_1.out HB.out) | (with_reducible refine Kd.C_alloc ?_ _) | (with_reducible refine Kd.C_drewN ?_ _) | (with_reducible refine Kd.C_drew ?_))); (case side2 => exact HC1_1.out); rintro e w' ⟨rfl, ⟨nd, rfl⟩⟩; (try first | exact ⟨rfl, _, World.drewN_drewN _ _ _⟩ | exact ⟨rfl, _, Eq.trans (World.drewN_drewN _ _ _) (congrArg (World.drewN _) (Nat.add_assoc _ _ _))⟩))); try go_wp2_with (first | (go_at_call 59; (with_reducible refine (payload_inside.calls k _ _ l1_1 t295 _ ?side1 ?side2 A14.out).mono ?_); (case side1 => repeat (first | exact (Kd.C_below HR1_1.out HB.out) | (with_reducible refine Kd.C_alloc ?_ _) | (with_reducible refine Kd.C_drewN ?_ _) | (with_reducible refine Kd.C_drew ?_))); (case side2 => exact HC1_1.out); rintro e w' ⟨rfl, ⟨nd, rfl⟩⟩; (try first | exact ⟨rfl, _, World.drewN_drewN _ _ _⟩ | exact ⟨rfl, _, Eq.trans (World.drewN_drewN _ _ _) (congrArg (World.drewN _) (Nat.add_assoc _ _ _))⟩))))
      go_meet
      case rel => exact ⟨_, (!t295), hsr, H', ⟨by first | omega | exact Nat.le_refl _⟩, ⟨pk BK291.out⟩, ⟨pk BK292.out⟩, ⟨bl HB.out⟩⟩
     ·rw [if_neg c13] at H
      have c13b0 : ((l1_1.length : Int) == ((rd_T89 l0_0 t293).f1)) = false := beq_eq_false_iff_ne.mpr c13
      have c13b1 : ((l1_1.length : Int) != ((rd_T89 l0_0 t293).f1)) = true := bne_iff_ne.mpr c13
      have H' := Aside0.mk H
      clear H
      have hnb18 := NB292_291.out
      have hnc18 := NB291_292.out
      obtain ⟨hcz19_0, hcz19_1, hfz19_0, hfz19_1⟩ := cz2 BK292.out
      obtain ⟨hcz20_0, hcz20_1, hfz20_0, hfz20_1⟩ := cz2 BK291.out
      have p294 : 0 ≤ (t293 : Int) := of_decide_eq_true ha
      have q294 : t293 < (l0_0.length : Int) := of_decide_eq_true ha
      obtain ⟨ad294, e294, hx294_0, hx294_1, hx294_2⟩ := at_T89 HR0_0.out t293 p294 q294
      cases e294
      replace hx294_0 := (HB.out.cell (World.block_lt_of_cell? w _ hx294_0)).trans hx294_0
      replace hx294_1 := (HB.out.cell (World.block_lt_of_cell? w _ hx294_1)).trans hx294_1
      replace hx294_2 := (HB.out.cell (World.block_lt_of_cell? w _ hx294_2)).trans hx294_2
      replace p294 := eq_true p294
      replace q294 := eq_true q294
      go_wp2
      repeat (go_quiet (fail); try go_wp2)
      go_meet
      case rel => exact ⟨_, (true), hsr, H', ⟨by first | omega | exact Nat.le_refl _⟩, ⟨pk BK291.out⟩, ⟨pk BK292.out⟩, ⟨bl HB.out⟩⟩
    ·rw [if_neg c12] at H
     exact absurd H (by simp)
   ·rw [if_neg c11] at H
    exact absurd H (by simp)
 case rest =>
  clear HC4
  try clear c1
  try clear p2
  try clear q2
  try clear hx2
  try clear c5
  try clear c7
  try clear c10
  try clear c10b0
  try clear c11
  try clear c11b0
  try clear c12
  try clear c12b0
  try clear c13
  try clear c13b0
  try clear c13b1
  try clear c15
  try clear c18
  try clear hcz20_0 hcz20_1 hfz20_0 hfz20_1
  try clear hcz19_0 hcz19_1 hfz19_0 hfz19_1
  try clear hcz17_0 hcz17_1 hfz17_0 hfz17_1
  try clear hcz16_0 hcz16_1 hfz16_0 hfz16_1
  try clear hcz8_0 hcz8_1 hfz8_0 hfz8_1
  try clear hx294_0
  try clear hx294_1
  try clear hx294_2
  try clear p294
  try clear q294
  obtain ⟨kq, x29_3, rfl, HA, HJ3, BK291, BK292, HB⟩ := hcut
  cases kq with
  | zero => exact absurd HA.out (by simp [payload_fits.j0])
  | succ kj3 =>
   have H := HA.out
   clear HA
   simp only [payload_fits.j0] at H
   by_cases c21 : x29_3 = true
   ·subst c21
    have H1 : (some false) = some r := by rw [if_pos rfl] at H; exact H
    clear H
    have H := H1
    clear H1
    obtain rfl := Option.some.inj H
    go_wp2
    repeat (go_quiet (fail); try go_wp2)
    go_ret
    exact ⟨er0, bl HB.out⟩
   ·replace c21 := Bool.eq_false_iff.mpr c21
    subst c21
    have H1 : (if 0 ≤ t293 then (if t293 < (l0_0.length : Int) then (if ((rd_T89 l0_0 t293).f2) = 3 then ((slices_ContainsFunc_int_int.f kj3 l1_1 78).bind fun t297 => (some t297)) else (some true)) else (none)) else (none)) = some r := by rw [if_neg (show ¬ (false = true) by decide)] at H; exact H
    clear H
    have H := H1
    clear H1
    by_cases c22 : 0 ≤ t293
    ·rw [if_pos c22] at H
     have c22b0 : decide (0 ≤ t293) = true := decide_eq_true c22
     clear c22
     by_cases c23 : t293 < (l0_0.length : Int)
     ·rw [if_pos c23] at H
      have c23b0 : decide (t293 < (l0_0.length : Int)) = true := decide_eq_true c23
      clear c23
      by_cases c24 : ((rd_T89 l0_0 t293).f2) = 3
      ·rw [if_pos c24] at H
       have c24b0 : (((rd_T89 l0_0 t293).f2) == 3) = true := beq_iff_eq.mpr c24
       have c24b1 : (((rd_T89 l0_0 t293).f2) != 3) = false := bne_eq_false_iff_eq.mpr c24
       clear c24
       replace H := Option.bind_eq_some_iff.mp H
       obtain ⟨t297, A250, H⟩ := H
       replace H : (some t297) = some r := H
       have A25 := Aside0.mk A250
       clear A250
       obtain rfl := Option.some.inj H
       have hnb26 := NB291_292.out
       have hnc26 := NB292_291.out
       obtain ⟨hcz27_0, hcz27_1, hfz27_0, hfz27_1⟩ := cz2 BK291.out
       have p296 : 0 ≤ (t293 : Int) := of_decide_eq_true ha
       have q296 : t293 < (l0_0.length : Int) := of_decide_eq_true ha
       obtain ⟨ad296, e296, hx296_0, hx296_1, hx296_2⟩ := at_T89 HR0_0.out t293 p296 q296
       cases e296
       replace hx296_0 := (HB.out.cell (World.block_lt_of_cell? w _ hx296_0)).trans hx296_0
       replace hx296_1 := (HB.out.cell (World.block_lt_of_cell? w _ hx296_1)).trans hx296_1
       replace hx296_2 := (HB.out.cell (World.block_lt_of_cell? w _ hx296_2)).trans hx296_2
       replace p296 := eq_true p296
       replace q296 := eq_true q296
       obtain ⟨hcz28_0, hcz28_1, hfz28_0, hfz28_1⟩ := cz2 BK292.out
       go_wp2_with (first | (go_at_call 77; (with_reducible refine (slices_ContainsFunc_int_int.calls kj3 _ _ l1_1 78 t297 _ ?side1 ?side2 A25.out).mono ?_); (case side1 => repeat (first | exact (Kd.C_below HR1_1.out HB.out) | (with_reducible refine Kd.C_alloc ?_ _) | (with_reducible refine Kd.C_drewN ?_ _) | (with_reducible refine Kd.C_drew ?_))); (case side2 => exact HC1_1.out); rintro e w' ⟨rfl, ⟨nd, rfl⟩⟩; (try first | exact ⟨rfl, _, World.drewN_drewN _ _ _⟩ | exact ⟨rfl, _, Eq.trans (World.drewN_drewN _ _ _) (congrArg (World.drewN _) (Nat.add_assoc _ _ _))⟩)))
       repeat (go_quiet (first | (go_at_call 77; (with_reducible refine (slices_ContainsFunc_int_int.calls kj3 _ _ l1_1 78 t297 _ ?side1 ?side2 A25.out).mono ?_); (case side1 => repeat (first | exact (Kd.C_below HR1_1.out HB.out) | (with_reducible refine Kd.C_alloc ?_ _) | (with_reducible refine Kd.C_drewN ?_ _) | (with_reducible refine Kd.C_drew ?_))); (case side2 => exact HC1_1.out); rintro e w' ⟨rfl, ⟨nd, rfl⟩⟩; (try first | exact ⟨rfl, _, World.drewN_drewN _ _ _⟩ | exact ⟨rfl, _, Eq.trans (World.drewN_drewN _ _ _) (congrArg (World.drewN _) (Nat.add_assoc _ _ _))⟩))); try go_wp2_with (first | (go_at_call 77; (with_reducible refine (slices_ContainsFunc_int_int.calls kj3 _ _ l1_1 78 t297 _ ?side1 ?side2 A25.out).mono ?_); (case side1 => repeat (first | exact (Kd.C_below HR1_1.out HB.out) | (with_reducible refine Kd.C_alloc ?_ _) | (with_reducible refine Kd.C_drewN ?_ _) | (with_reducible refine Kd.C_drew ?_))); (case side2 => exact HC1_1.out); rintro e w' ⟨rfl, ⟨nd, rfl⟩⟩; (try first | exact ⟨rfl, _, World.drewN_drewN _ _ _⟩ | exact ⟨rfl, _, Eq.trans (World.drewN_drewN _ _ _) (congrArg (World.drewN _) (Nat.add_assoc _ _ _))⟩))))
       go_ret
       exact ⟨er0, bl HB.out⟩
      ·rw [if_neg c24] at H
       have c24b0 : (((rd_T89 l0_0 t293).f2) == 3) = false := beq_eq_false_iff_ne.mpr c24
       have c24b1 : (((rd_T89 l0_0 t293).f2) != 3) = true := bne_iff_ne.mpr c24
       obtain rfl := Option.some.inj H
       have hnb29 := NB291_292.out
       have hnc29 := NB292_291.out
       obtain ⟨hcz30_0, hcz30_1, hfz30_0, hfz30_1⟩ := cz2 BK291.out
       have p296 : 0 ≤ (t293 : Int) := of_decide_eq_true ha
       have q296 : t293 < (l0_0.length : Int) := of_decide_eq_true ha
       obtain ⟨ad296, e296, hx296_0, hx296_1, hx296_2⟩ := at_T89 HR0_0.out t293 p296 q296
       cases e296
       replace hx296_0 := (HB.out.cell (World.block_lt_of_cell? w _ hx296_0)).trans hx296_0
       replace hx296_1 := (HB.out.cell (World.block_lt_of_cell? w _ hx296_1)).trans hx296_1
       replace hx296_2 := (HB.out.cell (World.block_lt_of_cell? w _ hx296_2)).trans hx296_2
       replace p296 := eq_true p296
       replace q296 := eq_true q296
       go_wp2
       repeat (go_quiet (fail); try go_wp2)
       go_ret
       exact ⟨er0, bl HB.out⟩
     ·rw [if_neg c23] at H
      exact absurd H (by simp)
    ·rw [if_neg c22] at H
     exact absurd H (by simp)

/-! ### api_FieldSpec_79: function 79 -/
def api_FieldSpec_79.l0 : Nat → List (S93) → Int → Int → ByteArray → Int → Option (Int)
 | 0, _, _, _, _, _ => none
 | k + 1, x0, x7, x8, x299000, x299001 => if x8 < x7 then (if 0 ≤ x8 then (if x8 < (x0.length : Int) then (if (x299000.toList == (((rd_T93 x0 x8).f0).toList) && (x299001 == ((rd_T93 x0 x8).f1))) = true then (some x8) else (api_FieldSpec_79.l0 k x0 x7 (wrap64 (x8 + 1)) x299000 x299001)) else (none)) else (none)) else (some (-1))
def api_FieldSpec_79.f (k : Nat) (l0 : List (S93)) (a1_0 : ByteArray) (a1_1 : Int) : Option (Int) := api_FieldSpec_79.l0 k l0 (l0.length : Int) 0 a1_0 a1_1
theorem api_FieldSpec_79.mono_l : ∀ k, (∀ y0 y1 y2 y3 y4, LeO (api_FieldSpec_79.l0 k y0 y1 y2 y3 y4) (api_FieldSpec_79.l0 (k + 1) y0 y1 y2 y3 y4))
 | 0 => fun _ _ _ _ _ r h => by simp [api_FieldSpec_79.l0] at h
 | k + 1 => by
  have ih0 := api_FieldSpec_79.mono_l k
  ·intro y0 y1 y2 y3 y4
   unfold api_FieldSpec_79.l0
   repeat' first
   | (with_reducible exact ih0 _ _ _ _ _)
   | (with_reducible exact LeO.refl _)
   | (with_reducible exact LeO.none _)
   | (with_reducible refine LeO.ite ?_ ?_)
   | (with_reducible refine LeO.bind ?_ (fun _ => ?_))
   | exact ih0 _ _ _ _ _
   | exact LeO.none _
   | refine LeO.ite ?_ ?_
   | refine LeO.bind ?_ (fun _ => ?_)
theorem api_FieldSpec_79.mono : ∀ a0 a1 a2 k, LeO (api_FieldSpec_79.f k a0 a1 a2) (api_FieldSpec_79.f (k + 1) a0 a1 a2) := by
 intro a0 a1 a2 k
 have ih0 := api_FieldSpec_79.mono_l k
 unfold api_FieldSpec_79.f
 repeat' first
   | (with_reducible exact ih0 _ _ _ _ _)
   | (with_reducible exact LeO.refl _)
   | (with_reducible exact LeO.none _)
   | (with_reducible refine LeO.ite ?_ ?_)
   | (with_reducible refine LeO.bind ?_ (fun _ => ?_))
   | exact ih0 _ _ _ _ _
   | exact LeO.none _
   | refine LeO.ite ?_ ?_
   | refine LeO.bind ?_ (fun _ => ?_)
set_option maxHeartbeats 8000000 in
set_option maxRecDepth 100000 in
theorem api_FieldSpec_79.calls (k : Nat) (A0 : Option Addr) (c0 : Nat) (l0 : List (S93)) (a1_0 : ByteArray) (a1_1 : Int) (r : Int) (w : World) (hr0 : Kd.C k93 w A0 l0.length l0) (hc0 : l0.length ≤ c0) (h : api_FieldSpec_79.f k l0 a1_0 a1_1 = some r) :
  Calls Tryd.prog 79 #[.slice A0 l0.length c0, .agg #[.string a1_0, .int .i64 a1_1]] w fun e w' => e = .returned (.int .i64 r) ∧ Below w.heap.size w w' := by
 have hu93 := Tryd.underlying93
 have HR0 := Aside0.mk hr0
 have HC0 := Aside0.mk hc0
 clear hr0 hc0
 have HB := Aside0.mk (Below.refl w.heap.size w)
 have H : (api_FieldSpec_79.l0 k l0 (l0.length : Int) 0 a1_0 a1_1) = some r := h
 clear h
 have H' := Aside0.mk H
 clear H
 go_enter Tryd.func79, Tryd.ntmps79
 go_wp2_with (first | ((with_reducible refine gate_dst (N := 3) rfl ?_); refine box_event ?hg (N := 3) ?hd (cs := #[.string a1_0, .int .i64 a1_1]) (t := 93) ?hr ?_; (case hd => rfl); (case hg => rfl); (case hr => first | (go_simp; done) | (go_simp; rfl)); intro gb298 hg w3 hbox hb; have BK298 := Aside0.mk (hbox); have GW298 := Aside0.mk (gs (w := w) hg (bl HB.out)); have GE298 := Aside0.mk (gs (w := w) hg (bl HB.out)); replace HB := Aside0.mk (below_step (bl HB.out) hb); clear hb hbox hg))
 repeat (go_quiet (first | ((with_reducible refine gate_dst (N := 3) rfl ?_); refine box_event ?hg (N := 3) ?hd (cs := #[.string a1_0, .int .i64 a1_1]) (t := 93) ?hr ?_; (case hd => rfl); (case hg => rfl); (case hr => first | (go_simp; done) | (go_simp; rfl)); intro gb298 hg w3 hbox hb; have BK298 := Aside0.mk (hbox); have GW298 := Aside0.mk (gs (w := w) hg (bl HB.out)); have GE298 := Aside0.mk (gs (w := w) hg (bl HB.out)); replace HB := Aside0.mk (below_step (bl HB.out) hb); clear hb hbox hg)); try go_wp2_with (first | ((with_reducible refine gate_dst (N := 3) rfl ?_); refine box_event ?hg (N := 3) ?hd (cs := #[.string a1_0, .int .i64 a1_1]) (t := 93) ?hr ?_; (case hd => rfl); (case hg => rfl); (case hr => first | (go_simp; done) | (go_simp; rfl)); intro gb298 hg w3 hbox hb; have BK298 := Aside0.mk (hbox); have GW298 := Aside0.mk (gs (w := w) hg (bl HB.out)); have GE298 := Aside0.mk (gs (w := w) hg (bl HB.out)); replace HB := Aside0.mk (below_step (bl HB.out) hb); clear hb hbox hg)))
 go_loopg [8] k (fun kq v8 w' => ∃ (x8_1 : Int), v8 = .int .i64 x8_1 ∧ Aside0 (api_FieldSpec_79.l0 kq l0 (l0.length : Int) x8_1 a1_0 a1_1 = some r) ∧ Aside0 (kq ≤ k) ∧ Aside0 (w'.heap[gb298]? = some (.cells #[.string a1_0, .int .i64 a1_1] 93 (0, 0))) ∧ Aside0 (Below w.heap.size w w'))
 case atStart => exact ⟨(0), hsr, H', ⟨Nat.le_refl _⟩, ⟨pk BK298.out⟩, ⟨bl HB.out⟩⟩
 case round =>
  clear H'
  try clear p2
  obtain ⟨x8_1, rfl, HA, HK1, BK298, HB⟩ := hrel
  cases gk with
  | zero => exact absurd HA.out (by simp [api_FieldSpec_79.l0])
  | succ k1 =>
   have H := HA.out
   clear HA
   simp only [api_FieldSpec_79.l0] at H
   by_cases c4 : x8_1 < (l0.length : Int)
   ·rw [if_pos c4] at H
    have c4b0 : decide (x8_1 < (l0.length : Int)) = true := decide_eq_true c4
    clear c4
    by_cases c5 : 0 ≤ x8_1
    ·rw [if_pos c5] at H
     have c5b0 : decide (0 ≤ x8_1) = true := decide_eq_true c5
     clear c5
     by_cases c6 : x8_1 < (l0.length : Int)
     ·rw [if_pos c6] at H
      have c6b0 : decide (x8_1 < (l0.length : Int)) = true := decide_eq_true c6
      clear c6
      by_cases c7 : (a1_0.toList == (((rd_T93 l0 x8_1).f0).toList) && (a1_1 == ((rd_T93 l0 x8_1).f1))) = true
      ·rw [if_pos c7] at H
       have c7b0 : (a1_0.toList == (((rd_T93 l0 x8_1).f0).toList) && (a1_1 == ((rd_T93 l0 x8_1).f1))) = true := c7
       (try (have c7b1 : decide (a1_0.toList = (((rd_T93 l0 x8_1).f0).toList) && (a1_1 == ((rd_T93 l0 x8_1).f1))) = true := by simpa using c7))
       (try (have c7b2 : (a1_0.toList == (((rd_T93 l0 x8_1).f0).toList) && (a1_1 == ((rd_T93 l0 x8_1).f1))) = true := by simpa using c7))
       clear c7
       obtain rfl := Option.some.inj H
       obtain ⟨hcz8_0, hcz8_1, hfz8_0, hfz8_1⟩ := cz2 BK298.out
       have p299 : 0 ≤ (x8_1 : Int) := of_decide_eq_true ha
       have q299 : x8_1 < (l0.length : Int) := of_decide_eq_true ha
       obtain ⟨ad299, e299, hx299_0, hx299_1⟩ := at_T93 HR0.out x8_1 p299 q299
       cases e299
       replace hx299_0 := (HB.out.cell (World.block_lt_of_cell? w _ hx299_0)).trans hx299_0
       replace hx299_1 := (HB.out.cell (World.block_lt_of_cell? w _ hx299_1)).trans hx299_1
       replace p299 := eq_true p299
       replace q299 := eq_true q299
       go_wp2
       repeat (go_quiet (fail); try go_wp2)
       go_ret
       exact ⟨er0, bl HB.out⟩
      ·rw [if_neg c7] at H
       have c7b0 : (a1_0.toList == (((rd_T93 l0 x8_1).f0).toList) && (a1_1 == ((rd_T93 l0 x8_1).f1))) = false := by simpa using c7
       (try (have c7b1 : decide (a1_0.toList = (((rd_T93 l0 x8_1).f0).toList) && (a1_1 == ((rd_T93 l0 x8_1).f1))) = false := by simpa using c7))
       (try (have c7b2 : (a1_0.toList == (((rd_T93 l0 x8_1).f0).toList) && (a1_1 == ((rd_T93 l0 x8_1).f1))) = false := by simpa using c7))
       (try (have c7b3 : ¬ (a1_0.toList = (((rd_T93 l0 x8_1).f0).toList) && (a1_1 == ((rd_T93 l0 x8_1).f1))) := by simpa using c7))
       clear c7
       have H' := Aside0.mk H
       clear H
       obtain ⟨hcz9_0, hcz9_1, hfz9_0, hfz9_1⟩ := cz2 BK298.out
       have p299 : 0 ≤ (x8_1 : Int) := of_decide_eq_true ha
       have q299 : x8_1 < (l0.length : Int) := of_decide_eq_true ha
       obtain ⟨ad299, e299, hx299_0, hx299_1⟩ := at_T93 HR0.out x8_1 p299 q299
       cases e299
       replace hx299_0 := (HB.out.cell (World.block_lt_of_cell? w _ hx299_0)).trans hx299_0
       replace hx299_1 := (HB.out.cell (World.block_lt_of_cell? w _ hx299_1)).trans hx299_1
       replace p299 := eq_true p299
       replace q299 := eq_true q299
       go_wp2
       repeat (go_quiet (fail); try go_wp2)
       go_roundg k1
       case measure => have := HK1.out; omega
       case rel => exact ⟨(wrap64 (x8_1 + 1)), hsr, H', ⟨by have := HK1.out; omega⟩, ⟨pk BK298.out⟩, ⟨bl HB.out⟩⟩
     ·rw [if_neg c6] at H
      exact absurd H (by simp)
    ·rw [if_neg c5] at H
     exact absurd H (by simp)
   ·rw [if_neg c4] at H
    have c4b0 : decide (x8_1 < (l0.length : Int)) = false := decide_eq_false c4
    clear c4
    obtain rfl := Option.some.inj H
    go_wp2
    repeat (go_quiet (fail); try go_wp2)
    go_ret
    exact ⟨er0, bl HB.out⟩

/-! ### api_FieldSpec_54: function 54 -/
def api_FieldSpec_54.f (k : Nat) (l0 : List (S93)) (a1_0 : ByteArray) (a1_1 : Int) : Option (Bool) := (api_FieldSpec_79.f k l0 a1_0 a1_1).bind fun t301 => (some (decide (t301 ≥ 0)))
theorem api_FieldSpec_54.mono : ∀ a0 a1 a2 k, LeO (api_FieldSpec_54.f k a0 a1 a2) (api_FieldSpec_54.f (k + 1) a0 a1 a2) := by
 intro a0 a1 a2 k
 unfold api_FieldSpec_54.f
 repeat' first
   | (with_reducible exact api_FieldSpec_79.mono _ _ _ _)
   | (with_reducible exact LeO.refl _)
   | (with_reducible exact LeO.none _)
   | (with_reducible refine LeO.ite ?_ ?_)
   | (with_reducible refine LeO.bind ?_ (fun _ => ?_))
   | exact api_FieldSpec_79.mono _ _ _ _
   | exact LeO.none _
   | refine LeO.ite ?_ ?_
   | refine LeO.bind ?_ (fun _ => ?_)
set_option maxHeartbeats 8000000 in
set_option maxRecDepth 100000 in
theorem api_FieldSpec_54.calls (k : Nat) (A0 : Option Addr) (c0 : Nat) (l0 : List (S93)) (a1_0 : ByteArray) (a1_1 : Int) (r : Bool) (w : World) (hr0 : Kd.C k93 w A0 l0.length l0) (hc0 : l0.length ≤ c0) (h : api_FieldSpec_54.f k l0 a1_0 a1_1 = some r) :
  Calls Tryd.prog 54 #[.slice A0 l0.length c0, .agg #[.string a1_0, .int .i64 a1_1]] w fun e w' => e = .returned (.bool r) ∧ Below w.heap.size w w' := by
 have hu93 := Tryd.underlying93
 have HR0 := Aside0.mk hr0
 have HC0 := Aside0.mk hc0
 clear hr0 hc0
 have HB := Aside0.mk (Below.refl w.heap.size w)
 have H : ((api_FieldSpec_79.f k l0 a1_0 a1_1).bind fun t301 => (some (decide (t301 ≥ 0)))) = some r := h
 clear h
 replace H := Option.bind_eq_some_iff.mp H
 obtain ⟨t301, A30, H⟩ := H
 replace H : (some (decide (t301 ≥ 0))) = some r := H
 have A3 := Aside0.mk A30
 clear A30
 obtain rfl := Option.some.inj H
 go_enter Tryd.func54, Tryd.ntmps54
 go_wp2_with (first | ((with_reducible refine gate_dst (N := 3) rfl ?_); refine box_event ?hg (N := 3) ?hd (cs := #[.string a1_0, .int .i64 a1_1]) (t := 93) ?hr ?_; (case hd => rfl); (case hg => rfl); (case hr => first | (go_simp; done) | (go_simp; rfl)); intro gb300 hg w4 hbox hb; have BK300 := Aside0.mk (hbox); have GW300 := Aside0.mk (gs (w := w) hg (bl HB.out)); have GE300 := Aside0.mk (gs (w := w) hg (bl HB.out)); replace HB := Aside0.mk (below_step (bl HB.out) hb); clear hb hbox hg; obtain ⟨hcz5_0, hcz5_1, hfz5_0, hfz5_1⟩ := cz2 BK300.out) | ((with_reducible refine gate_callee (f := 79) rfl ?_); refine goesL_ (some 7) rfl rfl Tryd.func79 kr rfl #[.slice A0 l0.length c0, .agg #[.string a1_0, .int .i64 a1_1]] rfl ga ?_; (with_reducible refine (api_FieldSpec_79.calls k _ _ l0 a1_0 a1_1 t301 _ ?side1 ?side2 A3.out).mono ?_); (case side1 => repeat (first | exact (Kd.C_below HR0.out HB.out) | (with_reducible refine Kd.C_alloc ?_ _) | (with_reducible refine Kd.C_drewN ?_ _) | (with_reducible refine Kd.C_drew ?_))); (case side2 => exact HC0.out); rintro e w6 ⟨rfl, hb⟩; refine ⟨_, rfl, ?_⟩; replace BK300 := Aside0.mk (blk_below (pk BK300.out) hb); replace HB := Aside0.mk (below_step (bl HB.out) hb); (try clear hb); (try clear hb2); (try clear hk); (try clear hi)))
 go_ret
 exact ⟨er0, bl HB.out⟩

end Go.Proofs.YtbeljekpknpadaaDoor.PPayU
