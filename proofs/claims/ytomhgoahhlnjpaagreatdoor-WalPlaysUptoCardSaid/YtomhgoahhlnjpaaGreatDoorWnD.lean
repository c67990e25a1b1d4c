/- asked, code, Open at no disk and at no name, and the methods of no log. -/
import Derived.Test.YtomhgoahhlnjpaaGreatDoorWns
import Derived.Test.YtomhgoahhlnjpaaGreatDoorAwake
import Derived.Below
namespace Go.Proofs.YtomhgoahhlnjpaaGreatDoor.WalN
open Go.RowKit Go.Extern.Stop Go.Stop Go.Extern Go.Proofs.YtomhgoahhlnjpaaGreatDoorW.PrintWords

/-- what the two variables hold -/
structure Gl (p : Value) (w : World) : Prop where
  fine : w.cell? ⟨0, 0, none⟩ = some (.iface 197 p)
  et : w.cell? ⟨1, 0, none⟩ = some (.iface 160 (.agg #[.pointer (some ⟨2, 91, none⟩)]))
theorem Gl.lt {p : Value} {w : World} (h : Gl p w) : 1 < w.heap.size := World.block_lt_of_cell? w _ h.et
theorem Gl.below {p : Value} {w w' : World} (h : Gl p w) (hb : Below w.heap.size w w') : Gl p w' :=
  ⟨(hb.cell (p := ⟨0, 0, none⟩) (Nat.lt_trans Nat.zero_lt_one h.lt)).trans h.fine, (hb.cell (p := ⟨1, 0, none⟩) h.lt).trans h.et⟩

theorem asked_ok {p : Value} {w : World} (h : Gl p w) : Calls Tryz.prog 33 #[.int .i64 0] w fun e w' => e = .returned (.iface 197 p) ∧ w' = w := by
  have h0 := h.fine
  go_enter Tryz.func33, Tryz.ntmps33
  go_wp2
  go_ret
  exact ⟨rfl, rfl⟩
theorem asked_no {c : Int} (hc : c ≠ 0) (w : World) : Calls Tryz.prog 33 #[.int .i64 c] w fun e w' => e = .returned (.iface 125 (.agg #[.int .i64 c])) ∧ w' = w := by
  have hz : (c == 0) = false := by simpa using hc
  go_enter Tryz.func33, Tryz.ntmps33
  go_wp2
  go_ret
  exact ⟨rfl, rfl⟩

theorem code_fine {p : Addr} {w : World} (h : Gl (.pointer (some p)) w) : Calls Tryz.prog 32 #[.iface 197 (.pointer (some p))] w fun e w' => e = .returned (.int .i64 0) ∧ Below w.heap.size w w' := by
  have h0 := (h.below ((Below.refl w.heap.size w).alloc (Nat.le_refl _) (.cells #[.int .i64 0] 125))).fine
  go_enter Tryz.func32, Tryz.ntmps32
  go_wp2_with (first | (go_at_call 53; (with_reducible refine (is_fine p _).mono ?_); rintro e w1 ⟨rfl, rfl⟩) | go_in)
  go_ret
  exact ⟨rfl, (Below.refl w.heap.size w).alloc (Nat.le_refl _) (.cells #[.int .i64 0] 125)⟩
theorem as_hit_below (c : Int) {b : Nat} {w1 : World} {p : Value} (hG : Gl p w1) (hb : w1.heap[b]? = some (.cells #[.int .i64 0] 125 (0, 0))) :
    Calls Tryz.prog 54 #[.iface 125 (.agg #[.int .i64 c]), .iface 128 (.pointer (some ⟨b, 0, none⟩))] w1 fun ev w' => ev = .returned (.bool true) ∧ Below b w1 w' ∧ w'.heap[b]? = some (.cells #[.int .i64 c] 125 (0, 0)) := by
  refine (as_hit c ⟨b, 0, none⟩ (.int .i64 0) w1 hG.et (blk_cell hb 0) (blk_frozen hb 0)).mono ?_
  rintro ev w' ⟨he, hw⟩
  have hlt := blk_lt hb
  have h1 := (((((Below.refl w1.heap.size w1).alloc (Nat.le_refl _) (.cells #[.pointer (some ⟨b, 0, none⟩)] 128)).alloc (by simp) (.cells #[.pointer (some ⟨2, 128, none⟩), .pointer (some ⟨w1.heap.size, 0, none⟩), .int .u64 150] 150)).alloc (by simp; omega) (.cells #[.pointer (some ⟨2, 128, none⟩), .pointer (some ⟨w1.heap.size, 0, none⟩), .int .u64 150] 150)).alloc (by simp; omega) (.cells #[.int .i64 c] 125))
  refine ⟨he, ?_, ?_⟩
  · rw [hw]
    exact (h1.mono (Nat.le_of_lt hlt)).setCell (Nat.le_refl _) _
  · rw [hw]
    exact blk_put ((h1.block b hlt).trans hb) 0 _ rfl
set_option maxHeartbeats 1000000 in
theorem code_refused {p : Value} {w : World} (h : Gl p w) (c : Int) : Calls Tryz.prog 32 #[.iface 125 (.agg #[.int .i64 c])] w fun e w' => e = .returned (.int .i64 c) ∧ Below w.heap.size w w' := by
  have hB := (Below.refl w.heap.size w).alloc (Nat.le_refl _) (.cells #[.int .i64 0] 125)
  have hG := h.below hB
  have h0 := hG.fine
  have HG := Aside0.mk hG
  have HB := Aside0.mk hB
  clear hG hB
  go_enter Tryz.func32, Tryz.ntmps32
  go_wp2_with (first
    | (go_at_call 53; (with_reducible refine (is_refused c p _).mono ?_); rintro e w1 ⟨rfl, rfl⟩)
    | (go_at_call 54; (with_reducible refine (as_hit_below c HG.out (heap_alloc_new w _)).mono ?_); rintro e w2 ⟨rfl, hb2, hx⟩; have x0 := blk_cell hx 0; have HB2 := Aside0.mk hb2; clear hb2 hx)
    | go_in)
  go_ret
  exact ⟨rfl, HB.out.trans HB2.out⟩

/-! ### no disk, no name, no log -/
theorem known_empty (d : Addr) (w : World) : Calls Tryz.prog 26 #[.pointer (some d), .string ⟨#[]⟩] w fun e w' => e = .returned (.int .i64 1) ∧ w' = w := by
  go_enter Tryz.func26, Tryz.ntmps26
  go_wp2
  go_ret
  exact ⟨rfl, rfl⟩
theorem read_empty (d : Addr) (w : World) : Calls Tryz.prog 8 #[.pointer (some d), .string ⟨#[]⟩] w fun e w' => e = .returned (.tuple #[.string ⟨#[]⟩, .int .i64 1]) ∧ w' = w := by
  go_enter Tryz.func8, Tryz.ntmps8
  go_wp2_with (first | (go_at_call 26; (with_reducible refine (known_empty d _).mono ?_); rintro e w1 ⟨rfl, rfl⟩) | go_in)
  go_ret2
  exact ⟨rfl, rfl⟩
theorem begun_empty (d : Addr) (w : World) : Calls Tryz.prog 31 #[.pointer (some d), .string ⟨#[]⟩] w fun e w' => e = .returned (.tuple #[.string ⟨#[]⟩, .iface 125 (.agg #[.int .i64 1])]) ∧ w' = w := by
  go_enter Tryz.func31, Tryz.ntmps31
  go_wp2_with (first
    | (go_at_call 8; (with_reducible refine (read_empty d _).mono ?_); rintro e w1 ⟨rfl, rfl⟩)
    | (go_at_call 33; (with_reducible refine (asked_no (by decide) _).mono ?_); rintro e w1 ⟨rfl, rfl⟩)
    | go_in)
  go_ret2
  exact ⟨rfl, rfl⟩
theorem open_nil (n : ByteArray) (w : World) : Calls Tryz.prog 15 #[.pointer none, .string n] w fun e w' => e = .returned (.tuple #[.pointer none, .slice none 0 0, .int .i64 1]) ∧ w' = w := by
  go_enter Tryz.func15, Tryz.ntmps15
  go_wp2
  go_ret3
  exact ⟨rfl, rfl⟩
theorem open_empty {p : Value} {w : World} (h : Gl p w) (d : Addr) : Calls Tryz.prog 15 #[.pointer (some d), .string ⟨#[]⟩] w fun e w' => e = .returned (.tuple #[.pointer none, .slice none 0 0, .int .i64 1]) ∧ Below w.heap.size w w' := by
  have HG := Aside0.mk h
  clear h
  go_enter Tryz.func15, Tryz.ntmps15
  go_wp2_with (first
    | (go_at_call 31; (with_reducible refine (begun_empty d _).mono ?_); rintro e w1 ⟨rfl, rfl⟩)
    | (go_at_call 32; (with_reducible refine (code_refused HG.out 1).mono ?_); rintro e w2 ⟨rfl, hb⟩; have HB := Aside0.mk hb; clear hb)
    | go_in)
  go_ret3
  exact ⟨rfl, HB.out⟩
theorem new_any (w : World) : Calls Tryz.prog 4 #[] w fun e w' => ∃ d, e = .returned (.pointer (some d)) ∧ Below w.heap.size w w' := by
  have hmm := @run_makeMap Tryz.prog
  go_enter Tryz.func4, Tryz.ntmps4
  go_wp2
  go_ret
  exact ⟨_, rfl, ((Below.refl _ w).alloc (Nat.le_refl _) _).alloc (by simp) _⟩
theorem append_nil (s : Int) (b : ByteArray) (w : World) : Calls Tryz.prog 17 #[.pointer none, .agg #[.int .i64 s, .string b]] w fun e w' => e = .returned (.int .i64 1) ∧ Below w.heap.size w w' := by
  go_enter Tryz.func17, Tryz.ntmps17
  go_wp2
  go_ret
  exact ⟨rfl, (Below.refl _ _).alloc (Nat.le_refl _) _⟩
theorem sync_nil (w : World) : Calls Tryz.prog 19 #[.pointer none] w fun e w' => e = .returned (.int .i64 1) ∧ w' = w := by
  go_enter Tryz.func19, Tryz.ntmps19
  go_wp2
  go_ret
  exact ⟨rfl, rfl⟩
theorem size_nil (w : World) : Calls Tryz.prog 10 #[.pointer none] w fun e w' => e = .returned (.int .i64 0) ∧ w' = w := by
  go_enter Tryz.func10, Tryz.ntmps10
  go_wp2
  go_ret
  exact ⟨rfl, rfl⟩
theorem broken_nil (w : World) : Calls Tryz.prog 11 #[.pointer none] w fun e w' => e = .returned (.bool true) ∧ w' = w := by
  go_enter Tryz.func11, Tryz.ntmps11
  go_wp2
  go_ret
  exact ⟨rfl, rfl⟩
theorem awake_calls (w : World) : Calls Tryz.prog 5 #[] w fun e w' => e = .returned (.bool true) ∧ Below w.heap.size w w' := PWal.lodestarlaw09_awake.calls 400 w awake_true

end Go.Proofs.YtomhgoahhlnjpaaGreatDoor.WalN
