/- The disk's methods, walked: what the statements ask of a disk whatever the input is. -/
import Derived.Test.YtokienfegjlocaaDkP
namespace Go.Proofs.Ytokienfegjlocaa.Dk
open Go.RowKit Go.Maps Go.ChangeMaps Go.WideAt Go.WideMaps Go.Sort Go.Proofs.YtokienfegjlocaaW.PrintWords

def sq0 : DS := { D := .map [], fs := [], opn := [], steps := 0, plan := [], puts := 0 }
def sq1 : DS := { D := .map [(.string [97], .lit (.int .i64 0))], fs := [(⟨#[111, 108, 100]⟩, 0)], opn := [⟨⟨#[]⟩, ⟨#[97]⟩, none, 0⟩], steps := 1, plan := [], puts := 1 }
def sq2 : DS := { D := .map [(.string [97], .lit (.int .i64 0))], fs := [(⟨#[111, 108, 100]⟩, 3)], opn := [⟨⟨#[]⟩, ⟨#[97]⟩, none, 0⟩], steps := 2, plan := [], puts := 1 }
def sq3 : DS := { D := .map [(.string [97], .lit (.int .i64 0))], fs := [(⟨#[111, 108, 100]⟩, 3)], opn := [], steps := 3, plan := [], puts := 1 }
def sq4 : DS := { D := .map [(.string [97], .lit (.int .i64 0)), (.string [98], .lit (.int .i64 1))], fs := [(⟨#[111, 108, 100]⟩, 3), (⟨#[110, 101, 119]⟩, 0)], opn := [⟨⟨#[]⟩, ⟨#[98]⟩, none, 0⟩], steps := 4, plan := [], puts := 2 }
def sq5 : DS := { D := .map [(.string [97], .lit (.int .i64 0)), (.string [98], .lit (.int .i64 1))], fs := [(⟨#[111, 108, 100]⟩, 3), (⟨#[110, 101, 119]⟩, 3)], opn := [⟨⟨#[]⟩, ⟨#[98]⟩, none, 0⟩], steps := 5, plan := [], puts := 2 }
def sq6 : DS := { D := .map [(.string [97], .lit (.int .i64 1))], fs := [(⟨#[111, 108, 100]⟩, 3), (⟨#[110, 101, 119]⟩, 3)], opn := [⟨⟨#[]⟩, ⟨#[98]⟩, none, 0⟩, ⟨⟨#[98]⟩, ⟨#[97]⟩, some 0, 1⟩], steps := 6, plan := [], puts := 3 }
def sq7 : DS := { D := .map [(.string [97], .lit (.int .i64 0)), (.string [98], .lit (.int .i64 1))], fs := [(⟨#[111, 108, 100]⟩, 3), (⟨#[110, 101, 119]⟩, 3)], opn := [⟨⟨#[]⟩, ⟨#[98]⟩, none, 0⟩], steps := 6, plan := [], puts := 5 }
def sq8 : DS := { D := .map [(.string [97], .lit (.int .i64 0)), (.string [98], .lit (.int .i64 1))], fs := [(⟨#[111, 108, 100]⟩, 3), (⟨#[110, 101, 119]⟩, 3)], opn := [], steps := 6, plan := [], puts := 5 }
theorem sq0_eq : DS.new = sq0 := rfl
theorem sq1_eq : sq0.write ⟨#[97]⟩ ⟨#[111, 108, 100]⟩ = (sq1, 3, 0) := by kernel_rfl
theorem sq2_eq : sq1.sync ⟨#[97]⟩ = (sq2, 0) := by kernel_rfl
theorem sq3_eq : sq2.syncNames = (sq3, 0) := by kernel_rfl
theorem sq4_eq : sq3.write ⟨#[98]⟩ ⟨#[110, 101, 119]⟩ = (sq4, 3, 0) := by kernel_rfl
theorem sq5_eq : sq4.sync ⟨#[98]⟩ = (sq5, 0) := by kernel_rfl
theorem sq6_eq : sq5.rename ⟨#[98]⟩ ⟨#[97]⟩ = (sq6, 0) := by kernel_rfl
theorem sq6_names : sq6.names = [[97]] := by
  show ([[97]] : List (List UInt8)).mergeSort leB = [[97]]
  simp
theorem sq6_remove : sq6.remove ⟨#[113]⟩ = (sq6, 20) := by kernel_rfl
theorem sq7_names : sq7.names = [[97], [98]] := by
  show ([[97], [98]] : List (List UInt8)).mergeSort leB = [[97], [98]]
  exact List.mergeSort_of_pairwise (by decide)
theorem sq8_set : (DS.settle [] 0 [[97], [98]] sq7).map (fun R => ({ R with opn := [], plan := [] } : DS)) = some sq8 := by kernel_rfl
theorem sq8_eq : sq6.crash 1 [] = some sq8 := by
  have h1 : sq6.unroll (sq6.opn.length - (max (1 : Int) 0).toNat) = sq7 := by kernel_rfl
  unfold DS.crash
  rw [h1]
  dsimp only
  rw [sq7_names]
  exact sq8_set
theorem sq8_a : sq8.read ⟨#[97]⟩ = (⟨#[111, 108, 100]⟩, 0) := by kernel_rfl
theorem sq8_b : sq8.read ⟨#[98]⟩ = (⟨#[110, 101, 119]⟩, 0) := by kernel_rfl
theorem sq8_plan : sq8.planned [⟨1, 1, 0⟩] = (sq8, 1) := by kernel_rfl

section
variable {B : Nat} {w : World} {d : Nat}
theorem sz_lit (l : List UInt8) (h : l.length ≤ 64) : (⟨l.toArray⟩ : ByteArray).size ≤ maxLen := by
  have h9 : maxLen = 9223372036854775807 := rfl
  show l.toArray.size ≤ maxLen
  rw [List.size_toArray]
  omega
theorem sqc1 (h : Live B w d sq0) (hB : B ≤ w.heap.size) : Calls Try.prog 9 #[.pointer (some ⟨d, 0, none⟩), .string ⟨#[97]⟩, .string ⟨#[111, 108, 100]⟩] w fun e w' => e = .returned (.tuple #[.int .i64 3, .int .i64 0]) ∧ Live B w' d sq1 ∧ Below B w w' := by
  have h2 := write_live h hB ⟨#[97]⟩ ⟨#[111, 108, 100]⟩ (by decide) (by decide) (by decide) (by decide) (by decide) (by decide) (by decide) (by decide)
  rw [sq1_eq] at h2
  exact h2
theorem sqc2 (h : Live B w d sq1) (hB : B ≤ w.heap.size) : Calls Try.prog 10 #[.pointer (some ⟨d, 0, none⟩), .string ⟨#[97]⟩] w fun e w' => e = .returned (.int .i64 0) ∧ Live B w' d sq2 ∧ Below B w w' := by
  have h2 := sync_live h hB ⟨#[97]⟩ (by decide) (by decide) (by decide)
  rw [sq2_eq] at h2
  exact h2
theorem sqc3 (h : Live B w d sq2) (hB : B ≤ w.heap.size) : Calls Try.prog 11 #[.pointer (some ⟨d, 0, none⟩)] w fun e w' => e = .returned (.int .i64 0) ∧ Live B w' d sq3 ∧ Below B w w' := by
  have h2 := syncNames_live h hB (by decide) (by decide)
  rw [sq3_eq] at h2
  exact h2
theorem sqc4 (h : Live B w d sq3) (hB : B ≤ w.heap.size) : Calls Try.prog 9 #[.pointer (some ⟨d, 0, none⟩), .string ⟨#[98]⟩, .string ⟨#[110, 101, 119]⟩] w fun e w' => e = .returned (.tuple #[.int .i64 3, .int .i64 0]) ∧ Live B w' d sq4 ∧ Below B w w' := by
  have h2 := write_live h hB ⟨#[98]⟩ ⟨#[110, 101, 119]⟩ (by decide) (by decide) (by decide) (by decide) (by decide) (by decide) (by decide) (by decide)
  rw [sq4_eq] at h2
  exact h2
theorem sqc5 (h : Live B w d sq4) (hB : B ≤ w.heap.size) : Calls Try.prog 10 #[.pointer (some ⟨d, 0, none⟩), .string ⟨#[98]⟩] w fun e w' => e = .returned (.int .i64 0) ∧ Live B w' d sq5 ∧ Below B w w' := by
  have h2 := sync_live h hB ⟨#[98]⟩ (by decide) (by decide) (by decide)
  rw [sq5_eq] at h2
  exact h2
theorem sqc6 (h : Live B w d sq5) (hB : B ≤ w.heap.size) : Calls Try.prog 12 #[.pointer (some ⟨d, 0, none⟩), .string ⟨#[98]⟩, .string ⟨#[97]⟩] w fun e w' => e = .returned (.int .i64 0) ∧ Live B w' d sq6 ∧ Below B w w' := by
  have h2 := rename_live h hB ⟨#[98]⟩ ⟨#[97]⟩ (by decide) (by decide) (by decide) (by decide) (by decide) (by decide)
  rw [sq6_eq] at h2
  exact h2
theorem sqc7 (h : Live B w d sq6) (hB : B ≤ w.heap.size) : Calls Try.prog 21 #[.pointer (some ⟨d, 0, none⟩), .string ⟨#[113]⟩] w fun e w' => e = .returned (.int .i64 20) ∧ Live B w' d sq6 ∧ Below B w w' := by
  have h2 := remove_live h hB ⟨#[113]⟩ (by decide) (by decide) (by decide) (by decide)
  rw [sq6_remove] at h2
  exact h2
theorem sqc_steps (h : Live B w d sq6) : Calls Try.prog 17 #[.pointer (some ⟨d, 0, none⟩)] w fun e w' => e = .returned (.int .i64 6) ∧ w' = w := steps_live h
theorem sqc_names (h : Live B w d sq6) (hB : B ≤ w.heap.size) : Calls Try.prog 22 #[.pointer (some ⟨d, 0, none⟩)] w fun e w' => ∃ A c, e = .returned (.slice A 1 c) ∧ Live B w' d sq6 ∧ Below B w w' := by
  have h2 := names_live h hB (by decide)
  rw [sq6_names] at h2
  refine h2.mono ?_
  rintro e w' ⟨A, c, he, _, hl, hb⟩
  exact ⟨A, c, he, hl, hb⟩
theorem ints_nil (w : World) : IntsAt w (.slice none 0 0) [] := ⟨none, 0, rfl, fun i x hx => by simp at hx⟩
theorem sqc8 (h : Live B w d sq6) (hB : B ≤ w.heap.size) : Calls Try.prog 13 #[.pointer (some ⟨d, 0, none⟩), .agg #[.int .i64 1, .slice none 0 0]] w fun e w' => e = .returned (.tuple #[]) ∧ Live B w' d sq8 ∧ Below B w w' :=
  crash_live h (Below.refl _ _) hB 1 [] (ints_nil w) (fun _ k hk => by cases hk) (by decide) (by decide) (by decide) sq8_eq
theorem sqc_ra (h : Live B w d sq8) : Calls Try.prog 14 #[.pointer (some ⟨d, 0, none⟩), .string ⟨#[97]⟩] w fun e w' => e = .returned (.tuple #[.string ⟨#[111, 108, 100]⟩, .int .i64 0]) ∧ w' = w := by
  have h2 := read_live h ⟨#[97]⟩ (by decide)
  rw [sq8_a] at h2
  exact h2
theorem sqc_rb (h : Live B w d sq8) : Calls Try.prog 14 #[.pointer (some ⟨d, 0, none⟩), .string ⟨#[98]⟩] w fun e w' => e = .returned (.tuple #[.string ⟨#[110, 101, 119]⟩, .int .i64 0]) ∧ w' = w := by
  have h2 := read_live h ⟨#[98]⟩ (by decide)
  rw [sq8_b] at h2
  exact h2
theorem plan_one {w : World} {g : Nat} (s k n : Int) (h : w.heap[g]? = some (.cells #[.int .i64 s, .int .i64 k, .int .i64 n] 41 (0, 0))) : PlanAt w (.slice (some ⟨g, 0, none⟩) 1 1) [⟨s, k, n⟩] := by
  refine ⟨_, 1, rfl, Nat.le_refl _, fun i f hf => ?_⟩
  cases i with
  | zero =>
    simp at hf
    subst hf
    exact ⟨g, 0, rfl, fun j u hu => (blk_cell h _).trans (by simpa [faultV] using hu)⟩
  | succ i => simp at hf
theorem sqc9 (h : Live B w d sq8) (hB : B ≤ w.heap.size) {g : Nat} (hg : w.heap[g]? = some (.cells #[.int .i64 1, .int .i64 1, .int .i64 0] 41 (0, 0))) : Calls Try.prog 16 #[.pointer (some ⟨d, 0, none⟩), .slice (some ⟨g, 0, none⟩) 1 1] w fun e w' => e = .returned (.int .i64 1) ∧ Live B w' d sq8 ∧ Below B w w' := by
  have h2 := plan_live h hB (plan_one 1 1 0 hg) (by simp)
  rw [sq8_plan] at h2
  exact h2

set_option maxRecDepth 100000 in
set_option maxHeartbeats 4000000 in
theorem sure_calls (w : World) : Calls Try.prog 15 #[] w fun e w' => e = .returned (.bool true) ∧ Below w.heap.size w w' := by
  go_enter Try.func15, Try.ntmps15
  go_wp2_with (first
    | (go_at_call 8; (with_reducible refine (new_live (Nat.le_refl w.heap.size)).mono ?_); rintro e w0 ⟨d, rfl, hl, hb⟩; have L0 := Aside0.mk (And.intro (show Live w.heap.size w0 d sq0 from hl) (And.intro hb.size hb)); clear hl hb)
    | (go_at_call 9; (with_reducible refine (sqc1 L0.out.1 L0.out.2.1).mono ?_); rintro e wL1 ⟨rfl, hl, hb⟩; have L1 := Aside0.mk (And.intro hl (And.intro (Nat.le_trans L0.out.2.1 hb.size) (L0.out.2.2.trans hb))); clear hl hb)
    | (go_at_call 10; (with_reducible refine (sqc2 L1.out.1 L1.out.2.1).mono ?_); rintro e wL2 ⟨rfl, hl, hb⟩; have L2 := Aside0.mk (And.intro hl (And.intro (Nat.le_trans L1.out.2.1 hb.size) (L1.out.2.2.trans hb))); clear hl hb)
    | (go_at_call 11; (with_reducible refine (sqc3 L2.out.1 L2.out.2.1).mono ?_); rintro e wL3 ⟨rfl, hl, hb⟩; have L3 := Aside0.mk (And.intro hl (And.intro (Nat.le_trans L2.out.2.1 hb.size) (L2.out.2.2.trans hb))); clear hl hb)
    | (go_at_call 9; (with_reducible refine (sqc4 L3.out.1 L3.out.2.1).mono ?_); rintro e wL4 ⟨rfl, hl, hb⟩; have L4 := Aside0.mk (And.intro hl (And.intro (Nat.le_trans L3.out.2.1 hb.size) (L3.out.2.2.trans hb))); clear hl hb)
    | (go_at_call 10; (with_reducible refine (sqc5 L4.out.1 L4.out.2.1).mono ?_); rintro e wL5 ⟨rfl, hl, hb⟩; have L5 := Aside0.mk (And.intro hl (And.intro (Nat.le_trans L4.out.2.1 hb.size) (L4.out.2.2.trans hb))); clear hl hb)
    | (go_at_call 12; (with_reducible refine (sqc6 L5.out.1 L5.out.2.1).mono ?_); rintro e wL6 ⟨rfl, hl, hb⟩; have L6 := Aside0.mk (And.intro hl (And.intro (Nat.le_trans L5.out.2.1 hb.size) (L5.out.2.2.trans hb))); clear hl hb)
    | (go_at_call 17; (with_reducible refine (sqc_steps L6.out.1).mono ?_); rintro e wx ⟨rfl, rfl⟩)
    | (go_at_call 22; (with_reducible refine (sqc_names L6.out.1 L6.out.2.1).mono ?_); rintro e wL7 ⟨A, c, rfl, hl, hb⟩; have L7 := Aside0.mk (And.intro hl (And.intro (Nat.le_trans L6.out.2.1 hb.size) (L6.out.2.2.trans hb))); clear hl hb)
    | (go_at_call 21; (with_reducible refine (sqc7 L7.out.1 L7.out.2.1).mono ?_); rintro e wL8 ⟨rfl, hl, hb⟩; have L8 := Aside0.mk (And.intro hl (And.intro (Nat.le_trans L7.out.2.1 hb.size) (L7.out.2.2.trans hb))); clear hl hb)
    | (go_at_call 13; (with_reducible refine (sqc8 L8.out.1 L8.out.2.1).mono ?_); rintro e wL9 ⟨rfl, hl, hb⟩; have L9 := Aside0.mk (And.intro hl (And.intro (Nat.le_trans L8.out.2.1 hb.size) (L8.out.2.2.trans hb))); clear hl hb)
    | (go_at_call 14; (with_reducible refine (sqc_ra L9.out.1).mono ?_); rintro e wx ⟨rfl, rfl⟩)
    | (go_at_call 14; (with_reducible refine (sqc_rb L9.out.1).mono ?_); rintro e wx ⟨rfl, rfl⟩)
    | (go_at_call 16; (with_reducible refine (sqc9 (L9.out.1.below ((Below.refl _ _).alloc (Nat.le_refl _) (.cells #[.int .i64 1, .int .i64 1, .int .i64 0] 41))) (Nat.le_trans L9.out.2.1 ((Below.refl _ _).alloc (Nat.le_refl _) (.cells #[.int .i64 1, .int .i64 1, .int .i64 0] 41)).size) (heap_alloc_new _ _)).mono ?_); rintro e wF ⟨rfl, hl, hb⟩; have L10 := Aside0.mk ((L9.out.2.2.alloc L9.out.2.1 (.cells #[.int .i64 1, .int .i64 1, .int .i64 0] 41)).trans hb); clear hl hb)
    | go_in)
  go_ret
  exact ⟨rfl, L10.out⟩

end

end Go.Proofs.Ytokienfegjlocaa.Dk
