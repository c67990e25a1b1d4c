/- asked, code, Open at no disk and at no name, and the methods of no log. -/
import Derived.Test.YtdnfflfofgeokaaDoorWnC
import Derived.Test.YtdnfflfofgeokaaDoorAwake
import Derived.Below
namespace Go.Proofs.YtdnfflfofgeokaaDoor.WalN
open Go.RowKit Go.Extern.Stop Go.Stop Go.Extern Go.Proofs.YtdnfflfofgeokaaDoorW.PrintWords

/-- what the two variables hold -/
structure Gl (p : Value) (w : World) : Prop where
  fine : w.cell? ⟨0, 0, none⟩ = some (.iface 149 p)
  et : w.cell? ⟨1, 0, none⟩ = some (.iface 108 (.agg #[.pointer (some ⟨2, 44, none⟩)]))
theorem Gl.lt {p : Value} {w : World} (h : Gl p w) : 1 < w.heap.size := World.block_lt_of_cell? w _ h.et
theorem Gl.below {p : Value} {w w' : World} (h : Gl p w) (hb : Below w.heap.size w w') : Gl p w' :=
  ⟨(hb.cell (p := ⟨0, 0, none⟩) (Nat.lt_trans Nat.zero_lt_one h.lt)).trans h.fine, (hb.cell (p := ⟨1, 0, none⟩) h.lt).trans h.et⟩

theorem asked_ok {p : Value} {w : World} (h : Gl p w) : Calls Tryd.prog 17 #[.int .i64 0] w fun e w' => e = .returned (.iface 149 p) ∧ w' = w := by
  have h0 := h.fine
  go_enter Tryd.func17, Tryd.ntmps17
  go_wp2
  go_ret
  exact ⟨rfl, rfl⟩
theorem asked_no {c : Int} (hc : c ≠ 0) (w : World) : Calls Tryd.prog 17 #[.int .i64 c] w fun e w' => e = .returned (.iface 74 (.agg #[.int .i64 c])) ∧ w' = w := by
  have hz : (c == 0) = false := by simpa using hc
  go_enter Tryd.func17, Tryd.ntmps17
  go_wp2
  go_ret
  exact ⟨rfl, rfl⟩

theorem code_fine {p : Addr} {w : World} (h : Gl (.pointer (some p)) w) : Calls Tryd.prog 15 #[.iface 149 (.pointer (some p))] w fun e w' => e = .returned (.int .i64 0) ∧ Below w.heap.size w w' := by
  have h0 := (h.below ((Below.refl w.heap.size w).alloc (Nat.le_refl _) (.cells #[.int .i64 0] 74))).fine
  go_enter Tryd.func15, Tryd.ntmps15
  go_wp2_with (first | (go_at_call 27; (with_reducible refine (is_fine p _).mono ?_); rintro e w1 ⟨rfl, rfl⟩) | go_in)
  go_ret
  exact ⟨rfl, (Below.refl w.heap.size w).alloc (Nat.le_refl _) (.cells #[.int .i64 0] 74)⟩
theorem as_hit_below (c : Int) {b : Nat} {w1 : World} {p : Value} (hG : Gl p w1) (hb : w1.heap[b]? = some (.cells #[.int .i64 0] 74 (0, 0))) :
    Calls Tryd.prog 28 #[.iface 74 (.agg #[.int .i64 c]), .iface 77 (.pointer (some ⟨b, 0, none⟩))] w1 fun ev w' => ev = .returned (.bool true) ∧ Below b w1 w' ∧ w'.heap[b]? = some (.cells #[.int .i64 c] 74 (0, 0)) := by
  refine (as_hit c ⟨b, 0, none⟩ (.int .i64 0) w1 hG.et (blk_cell hb 0) (blk_frozen hb 0)).mono ?_
  rintro ev w' ⟨he, hw⟩
  have hlt := blk_lt hb
  have h1 := (((((Below.refl w1.heap.size w1).alloc (Nat.le_refl _) (.cells #[.pointer (some ⟨b, 0, none⟩)] 77)).alloc (by simp) (.cells #[.pointer (some ⟨2, 77, none⟩), .pointer (some ⟨w1.heap.size, 0, none⟩), .int .u64 150] 94)).alloc (by simp; omega) (.cells #[.pointer (some ⟨2, 77, none⟩), .pointer (some ⟨w1.heap.size, 0, none⟩), .int .u64 150] 94)).alloc (by simp; omega) (.cells #[.int .i64 c] 74))
  refine ⟨he, ?_, ?_⟩
  · rw [hw]
    exact (h1.mono (Nat.le_of_lt hlt)).setCell (Nat.le_refl _) _
  · rw [hw]
    exact blk_put ((h1.block b hlt).trans hb) 0 _ rfl
set_option maxHeartbeats 1000000 in
theorem code_refused {p : Value} {w : World} (h : Gl p w) (c : Int) : Calls Tryd.prog 15 #[.iface 74 (.agg #[.int .i64 c])] w fun e w' => e = .returned (.int .i64 c) ∧ Below w.heap.size w w' := by
  have hB := (Below.refl w.heap.size w).alloc (Nat.le_refl _) (.cells #[.int .i64 0] 74)
  have hG := h.below hB
  have h0 := hG.fine
  have HG := Aside0.mk hG
  have HB := Aside0.mk hB
  clear hG hB
  go_enter Tryd.func15, Tryd.ntmps15
  go_wp2_with (first
    | (go_at_call 27; (with_reducible refine (is_refused c p _).mono ?_); rintro e w1 ⟨rfl, rfl⟩)
    | (go_at_call 28; (with_reducible refine (as_hit_below c HG.out (heap_alloc_new w _)).mono ?_); rintro e w2 ⟨rfl, hb2, hx⟩; have x0 := blk_cell hx 0; have HB2 := Aside0.mk hb2; clear hb2 hx)
    | go_in)
  go_ret
  exact ⟨rfl, HB.out.trans HB2.out⟩

/-! ### no disk, no name, no log -/
theorem known_empty (d : Addr) (w : World) : Calls Tryd.prog 30 #[.pointer (some d), .string ⟨#[]⟩] w fun e w' => e = .returned (.int .i64 1) ∧ w' = w := by
  go_enter Tryd.func30, Tryd.ntmps30
  go_wp2
  go_ret
  exact ⟨rfl, rfl⟩
theorem read_empty (d : Addr) (w : World) : Calls Tryd.prog 25 #[.pointer (some d), .string ⟨#[]⟩] w fun e w' => e = .returned (.tuple #[.string ⟨#[]⟩, .int .i64 1]) ∧ w' = w := by
  go_enter Tryd.func25, Tryd.ntmps25
  go_wp2_with (first | (go_at_call 30; (with_reducible refine (known_empty d _).mono ?_); rintro e w1 ⟨rfl, rfl⟩) | go_in)
  go_ret2
  exact ⟨rfl, rfl⟩
theorem begun_empty (d : Addr) (w : World) : Calls Tryd.prog 14 #[.pointer (some d), .string ⟨#[]⟩] w fun e w' => e = .returned (.tuple #[.string ⟨#[]⟩, .iface 74 (.agg #[.int .i64 1])]) ∧ w' = w := by
  go_enter Tryd.func14, Tryd.ntmps14
  go_wp2_with (first
    | (go_at_call 25; (with_reducible refine (read_empty d _).mono ?_); rintro e w1 ⟨rfl, rfl⟩)
    | (go_at_call 17; (with_reducible refine (asked_no (by decide) _).mono ?_); rintro e w1 ⟨rfl, rfl⟩)
    | go_in)
  go_ret2
  exact ⟨rfl, rfl⟩
theorem open_nil (n : ByteArray) (w : World) : Calls Tryd.prog 5 #[.pointer none, .string n] w fun e w' => e = .returned (.tuple #[.pointer none, .slice none 0 0, .int .i64 1]) ∧ w' = w := by
  go_enter Tryd.func5, Tryd.ntmps5
  go_wp2
  go_ret3
  exact ⟨rfl, rfl⟩
theorem open_empty {p : Value} {w : World} (h : Gl p w) (d : Addr) : Calls Tryd.prog 5 #[.pointer (some d), .string ⟨#[]⟩] w fun e w' => e = .returned (.tuple #[.pointer none, .slice none 0 0, .int .i64 1]) ∧ Below w.heap.size w w' := by
  have HG := Aside0.mk h
  clear h
  go_enter Tryd.func5, Tryd.ntmps5
  go_wp2_with (first
    | (go_at_call 14; (with_reducible refine (begun_empty d _).mono ?_); rintro e w1 ⟨rfl, rfl⟩)
    | (go_at_call 15; (with_reducible refine (code_refused HG.out 1).mono ?_); rintro e w2 ⟨rfl, hb⟩; have HB := Aside0.mk hb; clear hb)
    | go_in)
  go_ret3
  exact ⟨rfl, HB.out⟩
theorem new_any (w : World) : Calls Tryd.prog 6 #[] w fun e w' => ∃ d, e = .returned (.pointer (some d)) ∧ Below w.heap.size w w' := by
  have hmm := @run_makeMap Tryd.prog
  go_enter Tryd.func6, Tryd.ntmps6
  go_wp2
  go_ret
  exact ⟨_, rfl, ((Below.refl _ w).alloc (Nat.le_refl _) _).alloc (by simp) _⟩
theorem append_nil (s : Int) (b : ByteArray) (w : World) : Calls Tryd.prog 7 #[.pointer none, .agg #[.int .i64 s, .string b]] w fun e w' => e = .returned (.int .i64 1) ∧ Below w.heap.size w w' := by
  go_enter Tryd.func7, Tryd.ntmps7
  go_wp2
  go_ret
  exact ⟨rfl, (Below.refl _ _).alloc (Nat.le_refl _) _⟩
theorem sync_nil (w : World) : Calls Tryd.prog 8 #[.pointer none] w fun e w' => e = .returned (.int .i64 1) ∧ w' = w := by
  go_enter Tryd.func8, Tryd.ntmps8
  go_wp2
  go_ret
  exact ⟨rfl, rfl⟩
theorem size_nil (w : World) : Calls Tryd.prog 9 #[.pointer none] w fun e w' => e = .returned (.int .i64 0) ∧ w' = w := by
  go_enter Tryd.func9, Tryd.ntmps9
  go_wp2
  go_ret
  exact ⟨rfl, rfl⟩
theorem broken_nil (w : World) : Calls Tryd.prog 10 #[.pointer none] w fun e w' => e = .returned (.bool true) ∧ w' = w := by
  go_enter Tryd.func10, Tryd.ntmps10
  go_wp2
  go_ret
  exact ⟨rfl, rfl⟩
theorem awake_calls (w : World) : Calls Tryd.prog 11 #[] w fun e w' => e = .returned (.bool true) ∧ Below w.heap.size w w' := PWal.lodestarlaw09_awake.calls 400 w awake_true

set_option maxRecDepth 100000 in
set_option maxHeartbeats 4000000 in
theorem none_calls {p : Value} {w : World} (h : Gl p w) (s : Int) (b : ByteArray) : Calls Tryd.prog 3 #[.agg #[.int .i64 s, .string b]] w fun e w' => e = .returned (.bool true) ∧ Below w.heap.size w w' := by
  have HG := Aside0.mk h
  have HC := Aside0.mk (heap_alloc_new w (.cells #[.int .i64 s, .string b] 23))
  have HB0 := Aside0.mk ((Below.refl w.heap.size w).alloc (Nat.le_refl _) (.cells #[.int .i64 s, .string b] 23))
  clear h
  go_enter Tryd.func3, Tryd.ntmps3
  go_wp2_with (first
    | (go_at_call 5; (with_reducible refine (open_nil ⟨#[120]⟩ _).mono ?_); rintro e wx ⟨rfl, rfl⟩)
    | (go_at_call 6; (with_reducible refine (new_any _).mono ?_); rintro e w1 ⟨d, rfl, hb⟩; have HB1 := Aside0.mk (HB0.out.trans (hb.mono HB0.out.size)); have HC1 := Aside0.mk ((hb.block _ (blk_lt HC.out)).trans HC.out); clear hb)
    | (go_at_call 5; (with_reducible refine (open_empty (HG.out.below HB1.out) d).mono ?_); rintro e w2 ⟨rfl, hb⟩; have HB2 := Aside0.mk (HB1.out.trans (hb.mono HB1.out.size)); have hc2 := (hb.block _ (blk_lt HC1.out)).trans HC1.out; have x0 := blk_cell hc2 0; have x1 := blk_cell hc2 1; clear hb hc2)
    | (go_at_call 7; (with_reducible refine (append_nil s b _).mono ?_); rintro e w3 ⟨rfl, hb⟩; have HB3 := Aside0.mk (HB2.out.trans (hb.mono HB2.out.size)); clear hb)
    | (go_at_call 8; (with_reducible refine (sync_nil _).mono ?_); rintro e wx ⟨rfl, rfl⟩)
    | (go_at_call 9; (with_reducible refine (size_nil _).mono ?_); rintro e wx ⟨rfl, rfl⟩)
    | (go_at_call 10; (with_reducible refine (broken_nil _).mono ?_); rintro e wx ⟨rfl, rfl⟩)
    | (go_at_call 11; (with_reducible refine (awake_calls _).mono ?_); rintro e wA ⟨rfl, hb⟩; have HF := Aside0.mk (HB3.out.trans (hb.mono HB3.out.size)); clear hb)
    | go_in)
  go_ret
  exact ⟨rfl, HF.out⟩
end Go.Proofs.YtdnfflfofgeokaaDoor.WalN
