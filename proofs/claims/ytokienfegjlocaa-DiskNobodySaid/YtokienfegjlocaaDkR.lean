/- DiskNobody, walked. -/
import Derived.Test.YtokienfegjlocaaDkQ
namespace Go.Proofs.Ytokienfegjlocaa.Dk
open Go.RowKit Go.Maps Go.ChangeMaps Go.WideAt Go.WideMaps Go.Sort Go.Proofs.YtokienfegjlocaaW.PrintWords

set_option maxRecDepth 100000 in
set_option maxHeartbeats 4000000 in
theorem nobody_calls (k n nn : Int) (a b : ByteArray) (A1 A2 : Option Addr) (m1 c1 m2 c2 : Nat) (w : World) :
    Calls Try.prog 7 #[.agg #[.int .i64 k, .string a, .string b, .int .i64 n, .slice A1 m1 c1, .int .i64 nn, .slice A2 m2 c2]] w fun e w' => e = .returned (.bool true) ∧ Below w.heap.size w w' := by
  go_enter Try.func7, Try.ntmps7
  go_wp2_with (first
    | (go_at_call 9; (with_reducible refine (write_nil a b _).mono ?_); rintro e wx ⟨rfl, rfl⟩)
    | (go_at_call 14; (with_reducible refine (read_nil a _).mono ?_); rintro e wx ⟨rfl, rfl⟩)
    | (go_at_call 13; (with_reducible refine (crash_nil nn A2 m2 c2 _).mono ?_); rintro e w1 ⟨rfl, hb1⟩; have hx := (hb1.block w.heap.size (blk_lt (heap_alloc_new w (.cells #[.int .i64 k, .string a, .string b, .int .i64 n, .slice A1 m1 c1, .int .i64 nn, .slice A2 m2 c2] 55)))).trans (heap_alloc_new w _); have x1 := blk_cell hx 1; have x2 := blk_cell hx 2; have x3 := blk_cell hx 3; have x4 := blk_cell hx 4; have HB1 := Aside0.mk (((Below.refl w.heap.size w).alloc (Nat.le_refl _) (.cells #[.int .i64 k, .string a, .string b, .int .i64 n, .slice A1 m1 c1, .int .i64 nn, .slice A2 m2 c2] 55)).trans (hb1.mono (by simp))); clear hb1 hx)
    | (go_at_call 20; (with_reducible refine (cut_nil a n _).mono ?_); rintro e wx ⟨rfl, rfl⟩)
    | (go_at_call 10; (with_reducible refine (sync_nil a _).mono ?_); rintro e wx ⟨rfl, rfl⟩)
    | (go_at_call 12; (with_reducible refine (rename_nil a b _).mono ?_); rintro e wx ⟨rfl, rfl⟩)
    | (go_at_call 21; (with_reducible refine (remove_nil a _).mono ?_); rintro e wx ⟨rfl, rfl⟩)
    | (go_at_call 11; (with_reducible refine (syncNames_nil _).mono ?_); rintro e wx ⟨rfl, rfl⟩)
    | (go_at_call 16; (with_reducible refine (plan_nil _ _).mono ?_); rintro e wx ⟨rfl, rfl⟩)
    | (go_at_call 17; (with_reducible refine (steps_nil _).mono ?_); rintro e wx ⟨rfl, rfl⟩)
    | (go_at_call 22; (with_reducible refine (names_nil _).mono ?_); rintro e wx ⟨rfl, rfl⟩)
    | (go_at_call 15; (with_reducible refine (sure_calls _).mono ?_); rintro e wS ⟨rfl, hb2⟩; have HB2 := Aside0.mk hb2; clear hb2)
    | go_in)
  go_ret
  exact ⟨rfl, HB1.out.trans (HB2.out.mono HB1.out.size)⟩

end Go.Proofs.Ytokienfegjlocaa.Dk
