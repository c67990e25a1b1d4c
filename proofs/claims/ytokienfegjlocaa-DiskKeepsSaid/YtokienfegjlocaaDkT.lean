/- DiskSwaps, walked. -/
import Derived.Test.YtokienfegjlocaaDkQ
namespace Go.Proofs.Ytokienfegjlocaa.Dk
open Go.RowKit Go.Maps Go.ChangeMaps Go.WideAt Go.WideMaps Go.Sort Go.Proofs.YtokienfegjlocaaW.PrintWords

theorem empty_app (x : ByteArray) : (⟨#[]⟩ : ByteArray) ++ x = x := ByteArray.empty_append
theorem moreOf_nonneg (l : List Int) (i : Nat) : 0 ≤ moreOf l i := by
  unfold moreOf
  split
  · exact Int.le_refl _
  · exact Int.le_max_left ..
theorem settleF_same (x : ByteArray) {m : Int} (h : 0 ≤ m) : settleF (x, (x.size : Int)) m = (x, (x.size : Int)) := by
  unfold settleF
  have h1 : (x.size : Int) + min m ((x.size : Int) - (x.size : Int)) = (x.size : Int) := by omega
  dsimp only
  rw [h1, Int.toNat_natCast, ByteArray.extract_zero_size]
theorem settle_same {l : List Int} {i : Nat} {nm : List UInt8} {r : List (List UInt8)} {T : DS} {j : Nat} {x : ByteArray} (hf : T.find ⟨nm.toArray⟩ = some j) (hx : T.fileAt j = (x, (x.size : Int))) (hs : T.setFile j (x, (x.size : Int)) = T) :
    DS.settle l i (nm :: r) T = DS.settle l (i + 1) r T := by
  have e : DS.settle l i (nm :: r) T = match T.find ⟨nm.toArray⟩ with
    | none => none
    | some j => if 0 ≤ (T.fileAt j).2 ∧ (T.fileAt j).2 ≤ ((T.fileAt j).1.size : Int) then DS.settle l (i + 1) r (T.setFile j (settleF (T.fileAt j) (moreOf l i))) else none := rfl
  rw [e, hf]
  dsimp only
  rw [hx, if_pos ⟨Int.natCast_nonneg _, Int.le_refl _⟩, settleF_same x (moreOf_nonneg l i), hs]
theorem crash_of {S T R : DS} {n : Int} {l : List Int} {m : Nat} (hm : S.opn.length - (max n 0).toNat = m) (hT : S.unroll m = T) {N : List (List UInt8)} (hN : (strKeys T.D).mergeSort leB = N) (hR : T.settle l 0 N = some R) : S.crash n l = some { R with opn := [], plan := [] } := by
  unfold DS.crash DS.names
  rw [hm, hT]
  dsimp only
  rw [hN, hR]
  rfl
theorem IntsAt.below {w w' : World} {v : Value} {l : List Int} (h : IntsAt w v l) (hb : Below w.heap.size w w') : IntsAt w' v l := by
  obtain ⟨A, c, rfl, hcell⟩ := h
  refine ⟨A, c, rfl, fun i x hx => ?_⟩
  obtain ⟨b, o, rfl, hj⟩ := hcell i x hx
  exact ⟨b, o, rfl, (hb.cell (p := ⟨b, o + i, none⟩) (World.block_lt_of_cell? w _ hj)).trans hj⟩

def sw1 (x : ByteArray) : DS := { D := .map [(.string [97], .lit (.int .i64 0))], fs := [(x, 0)], opn := [⟨⟨#[]⟩, ⟨#[97]⟩, none, 0⟩], steps := 1, plan := [], puts := 1 }
def sw2 (x : ByteArray) : DS := { D := .map [(.string [97], .lit (.int .i64 0))], fs := [(x, (x.size : Int))], opn := [⟨⟨#[]⟩, ⟨#[97]⟩, none, 0⟩], steps := 2, plan := [], puts := 1 }
def sw3 (x : ByteArray) : DS := { D := .map [(.string [97], .lit (.int .i64 0))], fs := [(x, (x.size : Int))], opn := [], steps := 3, plan := [], puts := 1 }
def sw4 (x y : ByteArray) : DS := { D := .map [(.string [97], .lit (.int .i64 0)), (.string [98], .lit (.int .i64 1))], fs := [(x, (x.size : Int)), (y, 0)], opn := [⟨⟨#[]⟩, ⟨#[98]⟩, none, 0⟩], steps := 4, plan := [], puts := 2 }
def sw5 (x y : ByteArray) : DS := { D := .map [(.string [97], .lit (.int .i64 0)), (.string [98], .lit (.int .i64 1))], fs := [(x, (x.size : Int)), (y, (y.size : Int))], opn := [⟨⟨#[]⟩, ⟨#[98]⟩, none, 0⟩], steps := 5, plan := [], puts := 2 }
def sw6 (x y : ByteArray) : DS := { D := .map [(.string [97], .lit (.int .i64 1))], fs := [(x, (x.size : Int)), (y, (y.size : Int))], opn := [⟨⟨#[]⟩, ⟨#[98]⟩, none, 0⟩, ⟨⟨#[98]⟩, ⟨#[97]⟩, some 0, 1⟩], steps := 6, plan := [], puts := 3 }
def sw7 (x y : ByteArray) : DS := { D := .map [(.string [97], .lit (.int .i64 1))], fs := [(x, (x.size : Int)), (y, (y.size : Int))], opn := [], steps := 7, plan := [], puts := 3 }
theorem sw1_eq (x : ByteArray) : DS.new.write ⟨#[97]⟩ x = (sw1 x, (x.size : Int), 0) := by
  have h : DS.new.write ⟨#[97]⟩ x = (sw1 (⟨#[]⟩ ++ x), (x.size : Int), 0) := by kernel_rfl
  rw [h, empty_app]
theorem sw2_eq (x : ByteArray) : (sw1 x).sync ⟨#[97]⟩ = (sw2 x, 0) := by kernel_rfl
theorem sw3_eq (x : ByteArray) : (sw2 x).syncNames = (sw3 x, 0) := by kernel_rfl
theorem sw4_eq (x y : ByteArray) : (sw3 x).write ⟨#[98]⟩ y = (sw4 x y, (y.size : Int), 0) := by
  have h : (sw3 x).write ⟨#[98]⟩ y = (sw4 x (⟨#[]⟩ ++ y), (y.size : Int), 0) := by kernel_rfl
  rw [h, empty_app]
theorem sw5_eq (x y : ByteArray) : (sw4 x y).sync ⟨#[98]⟩ = (sw5 x y, 0) := by kernel_rfl
theorem sw6_eq (x y : ByteArray) : (sw5 x y).rename ⟨#[98]⟩ ⟨#[97]⟩ = (sw6 x y, 0) := by kernel_rfl
theorem sw7_eq (x y : ByteArray) : (sw6 x y).syncNames = (sw7 x y, 0) := by kernel_rfl
def swR (D : DataW Unit) (o : List Chg) (x y : ByteArray) (n p : Nat) : DS := { D := D, fs := [(x, (x.size : Int)), (y, (y.size : Int))], opn := o, steps := n, plan := [], puts := p }
theorem ms1 (k : List UInt8) : ([k] : List (List UInt8)).mergeSort leB = [k] := by simp
theorem ms2 : ([[97], [98]] : List (List UInt8)).mergeSort leB = [[97], [98]] := List.mergeSort_of_pairwise (by decide)
theorem swA (x y : ByteArray) (n : Int) (l : List Int) (h : n < 2) : ∃ R, (sw6 x y).crash n l = some R ∧ R.read ⟨#[97]⟩ = (x, 0) := by
  by_cases h1 : n < 1
  · have hm : (sw6 x y).opn.length - (max n 0).toNat = 2 := by
      show 2 - (max n 0).toNat = 2
      omega
    have hT : (sw6 x y).unroll 2 = swR (.map [(.string [97], .lit (.int .i64 0))]) [] x y 6 5 := by kernel_rfl
    refine ⟨_, crash_of (R := swR (.map [(.string [97], .lit (.int .i64 0))]) [] x y 6 5) hm hT (ms1 [97]) ?_, ?_⟩
    · rw [settle_same (j := 0) (x := x) (by kernel_rfl) (by kernel_rfl) (by kernel_rfl)]
      rfl
    · kernel_rfl
  · have hm : (sw6 x y).opn.length - (max n 0).toNat = 1 := by
      show 2 - (max n 0).toNat = 1
      omega
    have hT : (sw6 x y).unroll 1 = swR (.map [(.string [97], .lit (.int .i64 0)), (.string [98], .lit (.int .i64 1))]) [⟨⟨#[]⟩, ⟨#[98]⟩, none, 0⟩] x y 6 5 := by kernel_rfl
    refine ⟨_, crash_of (R := swR (.map [(.string [97], .lit (.int .i64 0)), (.string [98], .lit (.int .i64 1))]) [⟨⟨#[]⟩, ⟨#[98]⟩, none, 0⟩] x y 6 5) hm hT ms2 ?_, ?_⟩
    · rw [settle_same (j := 0) (x := x) (by kernel_rfl) (by kernel_rfl) (by kernel_rfl), settle_same (j := 1) (x := y) (by kernel_rfl) (by kernel_rfl) (by kernel_rfl)]
      rfl
    · kernel_rfl
theorem swB (x y : ByteArray) (n : Int) (l : List Int) (h : 2 ≤ n) : ∃ R, (sw6 x y).crash n l = some R ∧ R.read ⟨#[97]⟩ = (y, 0) := by
  have hm : (sw6 x y).opn.length - (max n 0).toNat = 0 := by
    show 2 - (max n 0).toNat = 0
    omega
  refine ⟨_, crash_of (R := sw6 x y) hm rfl (ms1 [97]) ?_, ?_⟩
  · rw [settle_same (j := 1) (x := y) (by kernel_rfl) (by kernel_rfl) (by kernel_rfl)]
    rfl
  · kernel_rfl
theorem swC (x y : ByteArray) (n : Int) (l : List Int) : ∃ R, (sw7 x y).crash n l = some R ∧ R.read ⟨#[97]⟩ = (y, 0) := by
  have hm : (sw7 x y).opn.length - (max n 0).toNat = 0 := by
    show 0 - (max n 0).toNat = 0
    omega
  refine ⟨_, crash_of (R := sw7 x y) hm rfl (ms1 [97]) ?_, ?_⟩
  · rw [settle_same (j := 1) (x := y) (by kernel_rfl) (by kernel_rfl) (by kernel_rfl)]
    rfl
  · kernel_rfl
section
variable {B : Nat} {w : World} {d : Nat}
theorem mx {x : ByteArray} (h : x.size ≤ 140737488355328) : x.size ≤ maxLen := Nat.le_trans h (by decide)
theorem swc1 {x : ByteArray} (hx : x.size ≤ 140737488355328) (h : Live B w d DS.new) (hB : B ≤ w.heap.size) : Calls Try.prog 9 #[.pointer (some ⟨d, 0, none⟩), .string ⟨#[97]⟩, .string x] w fun e w' => e = .returned (.tuple #[.int .i64 (x.size : Int), .int .i64 0]) ∧ Live B w' d (sw1 x) ∧ Below B w w' := by
  have h2 := write_live h hB ⟨#[97]⟩ x (by decide) (of_decide_eq_true rfl) (of_decide_eq_true rfl) (of_decide_eq_true rfl) (of_decide_eq_true rfl) (fun f hf => by cases hf) (mx hx) (fun f hf => by cases hf)
  rw [sw1_eq] at h2
  exact h2
theorem swc2 {x : ByteArray} (h : Live B w d (sw1 x)) (hB : B ≤ w.heap.size) : Calls Try.prog 10 #[.pointer (some ⟨d, 0, none⟩), .string ⟨#[97]⟩] w fun e w' => e = .returned (.int .i64 0) ∧ Live B w' d (sw2 x) ∧ Below B w w' := by
  have h2 := sync_live h hB ⟨#[97]⟩ (by decide) (of_decide_eq_true rfl) (of_decide_eq_true rfl)
  rw [sw2_eq] at h2
  exact h2
theorem swc3 {x : ByteArray} (h : Live B w d (sw2 x)) (hB : B ≤ w.heap.size) : Calls Try.prog 11 #[.pointer (some ⟨d, 0, none⟩)] w fun e w' => e = .returned (.int .i64 0) ∧ Live B w' d (sw3 x) ∧ Below B w w' := by
  have h2 := syncNames_live h hB (of_decide_eq_true rfl) (of_decide_eq_true rfl)
  rw [sw3_eq] at h2
  exact h2
theorem swc4 {x y : ByteArray} (hx : x.size ≤ 140737488355328) (hy : y.size ≤ 140737488355328) (h : Live B w d (sw3 x)) (hB : B ≤ w.heap.size) : Calls Try.prog 9 #[.pointer (some ⟨d, 0, none⟩), .string ⟨#[98]⟩, .string y] w fun e w' => e = .returned (.tuple #[.int .i64 (y.size : Int), .int .i64 0]) ∧ Live B w' d (sw4 x y) ∧ Below B w w' := by
  have h2 := write_live h hB ⟨#[98]⟩ y (by decide) (of_decide_eq_true rfl) (of_decide_eq_true rfl) (of_decide_eq_true rfl) (of_decide_eq_true rfl) (fun f hf => by simp [sw3] at hf; subst hf; have h9 : maxLen = 9223372036854775807 := rfl; show x.size + y.size ≤ maxLen; omega) (mx hy) (fun f hf => by cases hf)
  rw [sw4_eq] at h2
  exact h2
theorem swc5 {x y : ByteArray} (h : Live B w d (sw4 x y)) (hB : B ≤ w.heap.size) : Calls Try.prog 10 #[.pointer (some ⟨d, 0, none⟩), .string ⟨#[98]⟩] w fun e w' => e = .returned (.int .i64 0) ∧ Live B w' d (sw5 x y) ∧ Below B w w' := by
  have h2 := sync_live h hB ⟨#[98]⟩ (by decide) (of_decide_eq_true rfl) (of_decide_eq_true rfl)
  rw [sw5_eq] at h2
  exact h2
theorem swc6 {x y : ByteArray} (h : Live B w d (sw5 x y)) (hB : B ≤ w.heap.size) : Calls Try.prog 12 #[.pointer (some ⟨d, 0, none⟩), .string ⟨#[98]⟩, .string ⟨#[97]⟩] w fun e w' => e = .returned (.int .i64 0) ∧ Live B w' d (sw6 x y) ∧ Below B w w' := by
  have h2 := rename_live h hB ⟨#[98]⟩ ⟨#[97]⟩ (by decide) (by decide) (of_decide_eq_true rfl) (of_decide_eq_true rfl) (of_decide_eq_true rfl) (of_decide_eq_true rfl)
  rw [sw6_eq] at h2
  exact h2
theorem swc7 {x y : ByteArray} (h : Live B w d (sw6 x y)) (hB : B ≤ w.heap.size) : Calls Try.prog 11 #[.pointer (some ⟨d, 0, none⟩)] w fun e w' => e = .returned (.int .i64 0) ∧ Live B w' d (sw7 x y) ∧ Below B w w' := by
  have h2 := syncNames_live h hB (of_decide_eq_true rfl) (of_decide_eq_true rfl)
  rw [sw7_eq] at h2
  exact h2
theorem swcA {x y : ByteArray} (hx : x.size ≤ 140737488355328) (hy : y.size ≤ 140737488355328) (n : Int) (l : List Int) (hn : n < 2) {vb : Value} (hb : IntsAt w vb l) (hbo : l ≠ [] → ∀ k, vb.ownBlock = some k → k < B) (h : Live B w d (sw6 x y)) (hB : B ≤ w.heap.size) :
    Calls Try.prog 13 #[.pointer (some ⟨d, 0, none⟩), .agg #[.int .i64 n, vb]] w fun e w' => e = .returned (.tuple #[]) ∧ (∃ R : DS, R.read ⟨#[97]⟩ = (x, 0) ∧ Live B w' d R) ∧ Below B w w' := by
  obtain ⟨R, hc, hr⟩ := swA x y n l hn
  refine (crash_live h (Below.refl _ _) hB n l hb (fun hne k hk => .inl (hbo hne k hk)) (of_decide_eq_true rfl) (by intro c hc; simp [sw6] at hc; rcases hc with rfl | rfl <;> exact ⟨by decide, by decide⟩) (fun f hf => by simp [sw6] at hf; rcases hf with rfl | rfl; exact mx hx; exact mx hy) hc).mono ?_
  rintro e w' ⟨he, hl, hbl⟩
  exact ⟨he, ⟨R, hr, hl⟩, hbl⟩
theorem swcB {x y : ByteArray} (hx : x.size ≤ 140737488355328) (hy : y.size ≤ 140737488355328) (n : Int) (l : List Int) (hn : 2 ≤ n) {vb : Value} (hb : IntsAt w vb l) (hbo : l ≠ [] → ∀ k, vb.ownBlock = some k → k < B) (h : Live B w d (sw6 x y)) (hB : B ≤ w.heap.size) :
    Calls Try.prog 13 #[.pointer (some ⟨d, 0, none⟩), .agg #[.int .i64 n, vb]] w fun e w' => e = .returned (.tuple #[]) ∧ (∃ R : DS, R.read ⟨#[97]⟩ = (y, 0) ∧ Live B w' d R) ∧ Below B w w' := by
  obtain ⟨R, hc, hr⟩ := swB x y n l hn
  refine (crash_live h (Below.refl _ _) hB n l hb (fun hne k hk => .inl (hbo hne k hk)) (of_decide_eq_true rfl) (by intro c hc; simp [sw6] at hc; rcases hc with rfl | rfl <;> exact ⟨by decide, by decide⟩) (fun f hf => by simp [sw6] at hf; rcases hf with rfl | rfl; exact mx hx; exact mx hy) hc).mono ?_
  rintro e w' ⟨he, hl, hbl⟩
  exact ⟨he, ⟨R, hr, hl⟩, hbl⟩
theorem swcC {x y : ByteArray} (hx : x.size ≤ 140737488355328) (hy : y.size ≤ 140737488355328) (n : Int) (l : List Int) {vb : Value} (hb : IntsAt w vb l) (hbo : l ≠ [] → ∀ k, vb.ownBlock = some k → k < B) (h : Live B w d (sw7 x y)) (hB : B ≤ w.heap.size) :
    Calls Try.prog 13 #[.pointer (some ⟨d, 0, none⟩), .agg #[.int .i64 n, vb]] w fun e w' => e = .returned (.tuple #[]) ∧ (∃ R : DS, R.read ⟨#[97]⟩ = (y, 0) ∧ Live B w' d R) ∧ Below B w w' := by
  obtain ⟨R, hc, hr⟩ := swC x y n l
  refine (crash_live h (Below.refl _ _) hB n l hb (fun hne k hk => .inl (hbo hne k hk)) (of_decide_eq_true rfl) (by intro c hc; cases hc) (fun f hf => by simp [sw7] at hf; rcases hf with rfl | rfl; exact mx hx; exact mx hy) hc).mono ?_
  rintro e w' ⟨he, hl, hbl⟩
  exact ⟨he, ⟨R, hr, hl⟩, hbl⟩
theorem swcR {R : DS} {z : ByteArray} (hr : R.read ⟨#[97]⟩ = (z, 0)) (h : Live B w d R) : Calls Try.prog 14 #[.pointer (some ⟨d, 0, none⟩), .string ⟨#[97]⟩] w fun e w' => e = .returned (.tuple #[.string z, .int .i64 0]) ∧ w' = w := by
  have h2 := read_live h ⟨#[97]⟩ (by decide)
  rw [hr] at h2
  exact h2
end

theorem ints_lt {w : World} {v : Value} {l : List Int} (h : IntsAt w v l) (hne : l ≠ []) : ∀ k, v.ownBlock = some k → k < w.heap.size := by
  obtain ⟨A, c, rfl, hcell⟩ := h
  intro k hk
  cases l with
  | nil => exact absurd rfl hne
  | cons x r =>
    obtain ⟨b, o, rfl, hj⟩ := hcell 0 x rfl
    cases hk
    exact World.block_lt_of_cell? w _ hj
theorem Below.drewN {B : Nat} {a w : World} (h : Below B a w) (n : Nat) : Below B a (w.drewN n) := ⟨h.os, h.tape, h.output, h.size, h.block⟩
set_option maxRecDepth 100000 in
set_option maxHeartbeats 4000000 in
theorem swaps_calls (x y : ByteArray) (n : Int) (l : List Int) (sy : Bool) (hx : x.size ≤ 140737488355328) (hy : y.size ≤ 140737488355328) {A : Option Addr} {c : Nat} (w : World) (hb : IntsAt w (.slice A l.length c) l) :
    Calls Try.prog 3 #[.agg #[.string x, .string y], .agg #[.int .i64 n, .slice A l.length c], .bool sy] w fun e w' => e = .returned (.bool true) ∧ Below w.heap.size w w' := by
  have HX := Aside0.mk hx
  have HY := Aside0.mk hy
  have HI := Aside0.mk hb
  clear hx hy hb
  cases sy with
  | true =>
    go_enter Try.func3, Try.ntmps3
    go_wp2
    go_quiet (fail)
    have HW := Aside0.mk (Below.drewN ((((Below.refl w.heap.size w).alloc (Nat.le_refl _) (.cells #[.string x, .string y] 22)).alloc (by simp) (.cells #[.int .i64 n, .slice A l.length c] 25))) nq)
    have HC : Aside0 ((((w.alloc (.cells #[.string x, .string y] 22)).alloc (.cells #[.int .i64 n, .slice A l.length c] 25)).drewN nq).heap[w.heap.size + 1]? = some (.cells #[.int .i64 n, .slice A l.length c] 25 (0, 0))) := ⟨by
      have h1 := heap_alloc_new (w.alloc (.cells #[.string x, .string y] 22)) (.cells #[.int .i64 n, .slice A l.length c] 25)
      have h2 : (w.alloc (.cells #[.string x, .string y] 22)).heap.size = w.heap.size + 1 := by simp
      rw [h2] at h1
      exact h1⟩
    generalize ((w.alloc (.cells #[.string x, .string y] 22)).alloc (.cells #[.int .i64 n, .slice A l.length c] 25)).drewN nq = W1 at HW HC ⊢
    generalize w.heap.size + 1 = g4 at HC ⊢
    have HG : Aside0 (g4 < W1.heap.size) := ⟨blk_lt HC.out⟩
    have H40 : Aside0 (W1.cell? ⟨g4, 0, none⟩ = some (.int .i64 n)) := ⟨blk_cell HC.out 0⟩
    have H41 : Aside0 (W1.cell? ⟨g4, 1, none⟩ = some (.slice A l.length c)) := ⟨blk_cell HC.out 1⟩
    have HS : Aside0 (w.heap.size ≤ W1.heap.size) := ⟨HW.out.size⟩
    have HO : Aside0 (l ≠ [] → ∀ k, (Value.slice A l.length c).ownBlock = some k → k < W1.heap.size) := ⟨fun hne k hk => Nat.lt_of_lt_of_le (ints_lt HI.out hne k hk) HW.out.size⟩
    go_wp2_with (first
      | (go_at_call 8; (with_reducible refine (new_live (Nat.le_refl W1.heap.size)).mono ?_); rintro e w0 ⟨d, rfl, hl, hb⟩; have L0 := Aside0.mk (And.intro hl (And.intro hb.size hb)); clear hl hb)
      | (go_at_call 9; (with_reducible refine (swc1 HX.out L0.out.1 L0.out.2.1).mono ?_); rintro e wL1 ⟨rfl, hl, hb⟩; have L1 := Aside0.mk (And.intro hl (And.intro (Nat.le_trans L0.out.2.1 hb.size) (L0.out.2.2.trans hb))); clear hl hb)
      | (go_at_call 10; (with_reducible refine (swc2 L1.out.1 L1.out.2.1).mono ?_); rintro e wL2 ⟨rfl, hl, hb⟩; have L2 := Aside0.mk (And.intro hl (And.intro (Nat.le_trans L1.out.2.1 hb.size) (L1.out.2.2.trans hb))); clear hl hb)
      | (go_at_call 11; (with_reducible refine (swc3 L2.out.1 L2.out.2.1).mono ?_); rintro e wL3 ⟨rfl, hl, hb⟩; have L3 := Aside0.mk (And.intro hl (And.intro (Nat.le_trans L2.out.2.1 hb.size) (L2.out.2.2.trans hb))); clear hl hb)
      | (go_at_call 9; (with_reducible refine (swc4 HX.out HY.out L3.out.1 L3.out.2.1).mono ?_); rintro e wL4 ⟨rfl, hl, hb⟩; have L4 := Aside0.mk (And.intro hl (And.intro (Nat.le_trans L3.out.2.1 hb.size) (L3.out.2.2.trans hb))); clear hl hb)
      | (go_at_call 10; (with_reducible refine (swc5 L4.out.1 L4.out.2.1).mono ?_); rintro e wL5 ⟨rfl, hl, hb⟩; have L5 := Aside0.mk (And.intro hl (And.intro (Nat.le_trans L4.out.2.1 hb.size) (L4.out.2.2.trans hb))); clear hl hb)
      | (go_at_call 12; (with_reducible refine (swc6 L5.out.1 L5.out.2.1).mono ?_); rintro e wL6 ⟨rfl, hl, hb⟩; have L6 := Aside0.mk (And.intro hl (And.intro (Nat.le_trans L5.out.2.1 hb.size) (L5.out.2.2.trans hb))); clear hl hb)
      | (go_at_call 11; (with_reducible refine (swc7 L6.out.1 L6.out.2.1).mono ?_); rintro e wL7 ⟨rfl, hl, hb⟩; have L7 := Aside0.mk (And.intro hl (And.intro (Nat.le_trans L6.out.2.1 hb.size) (L6.out.2.2.trans hb))); have z0 := (L7.out.2.2.cell (p := ⟨g4, 0, none⟩) HG.out).trans H40.out; have z1 := (L7.out.2.2.cell (p := ⟨g4, 1, none⟩) HG.out).trans H41.out; clear hl hb)
      | (go_at_call 13; (with_reducible refine (swcC HX.out HY.out n l (HI.out.below (HW.out.trans (L7.out.2.2.mono HS.out))) HO.out L7.out.1 L7.out.2.1).mono ?_); rintro e wL8 ⟨rfl, ⟨R, hr, hl⟩, hb⟩; have HR := Aside0.mk hr; have L8 := Aside0.mk (And.intro hl (And.intro (Nat.le_trans L7.out.2.1 hb.size) (L7.out.2.2.trans hb))); clear z0 z1; have z0 := (L8.out.2.2.cell (p := ⟨g4, 0, none⟩) HG.out).trans H40.out; have z1 := (L8.out.2.2.cell (p := ⟨g4, 1, none⟩) HG.out).trans H41.out; clear hr hl hb)
      | (go_at_call 14; (with_reducible refine (swcR HR.out L8.out.1).mono ?_); rintro e wx ⟨rfl, rfl⟩)
      | (go_at_call 15; (with_reducible refine (sure_calls _).mono ?_); rintro e wS ⟨rfl, hb⟩; have HF := Aside0.mk (HW.out.trans ((L8.out.2.2.mono HS.out).trans (hb.mono (Nat.le_trans HS.out L8.out.2.1)))); clear hb)
      | go_in)
    all_goals
      go_ret
      exact ⟨rfl, HF.out⟩

  | false =>
    rcases Int.lt_or_le n 2 with hn | hn
    · have HN := Aside0.mk hn
      go_enter Try.func3, Try.ntmps3
      go_wp2
      go_quiet (fail)
      have HW := Aside0.mk (Below.drewN ((((Below.refl w.heap.size w).alloc (Nat.le_refl _) (.cells #[.string x, .string y] 22)).alloc (by simp) (.cells #[.int .i64 n, .slice A l.length c] 25))) nq)
      have HC : Aside0 ((((w.alloc (.cells #[.string x, .string y] 22)).alloc (.cells #[.int .i64 n, .slice A l.length c] 25)).drewN nq).heap[w.heap.size + 1]? = some (.cells #[.int .i64 n, .slice A l.length c] 25 (0, 0))) := ⟨by
        have h1 := heap_alloc_new (w.alloc (.cells #[.string x, .string y] 22)) (.cells #[.int .i64 n, .slice A l.length c] 25)
        have h2 : (w.alloc (.cells #[.string x, .string y] 22)).heap.size = w.heap.size + 1 := by simp
        rw [h2] at h1
        exact h1⟩
      generalize ((w.alloc (.cells #[.string x, .string y] 22)).alloc (.cells #[.int .i64 n, .slice A l.length c] 25)).drewN nq = W1 at HW HC ⊢
      generalize w.heap.size + 1 = g4 at HC ⊢
      have HG : Aside0 (g4 < W1.heap.size) := ⟨blk_lt HC.out⟩
      have H40 : Aside0 (W1.cell? ⟨g4, 0, none⟩ = some (.int .i64 n)) := ⟨blk_cell HC.out 0⟩
      have H41 : Aside0 (W1.cell? ⟨g4, 1, none⟩ = some (.slice A l.length c)) := ⟨blk_cell HC.out 1⟩
      have HS : Aside0 (w.heap.size ≤ W1.heap.size) := ⟨HW.out.size⟩
      have HO : Aside0 (l ≠ [] → ∀ k, (Value.slice A l.length c).ownBlock = some k → k < W1.heap.size) := ⟨fun hne k hk => Nat.lt_of_lt_of_le (ints_lt HI.out hne k hk) HW.out.size⟩
      go_wp2_with (first
        | (go_at_call 8; (with_reducible refine (new_live (Nat.le_refl W1.heap.size)).mono ?_); rintro e w0 ⟨d, rfl, hl, hb⟩; have L0 := Aside0.mk (And.intro hl (And.intro hb.size hb)); clear hl hb)
        | (go_at_call 9; (with_reducible refine (swc1 HX.out L0.out.1 L0.out.2.1).mono ?_); rintro e wL1 ⟨rfl, hl, hb⟩; have L1 := Aside0.mk (And.intro hl (And.intro (Nat.le_trans L0.out.2.1 hb.size) (L0.out.2.2.trans hb))); clear hl hb)
        | (go_at_call 10; (with_reducible refine (swc2 L1.out.1 L1.out.2.1).mono ?_); rintro e wL2 ⟨rfl, hl, hb⟩; have L2 := Aside0.mk (And.intro hl (And.intro (Nat.le_trans L1.out.2.1 hb.size) (L1.out.2.2.trans hb))); clear hl hb)
        | (go_at_call 11; (with_reducible refine (swc3 L2.out.1 L2.out.2.1).mono ?_); rintro e wL3 ⟨rfl, hl, hb⟩; have L3 := Aside0.mk (And.intro hl (And.intro (Nat.le_trans L2.out.2.1 hb.size) (L2.out.2.2.trans hb))); clear hl hb)
        | (go_at_call 9; (with_reducible refine (swc4 HX.out HY.out L3.out.1 L3.out.2.1).mono ?_); rintro e wL4 ⟨rfl, hl, hb⟩; have L4 := Aside0.mk (And.intro hl (And.intro (Nat.le_trans L3.out.2.1 hb.size) (L3.out.2.2.trans hb))); clear hl hb)
        | (go_at_call 10; (with_reducible refine (swc5 L4.out.1 L4.out.2.1).mono ?_); rintro e wL5 ⟨rfl, hl, hb⟩; have L5 := Aside0.mk (And.intro hl (And.intro (Nat.le_trans L4.out.2.1 hb.size) (L4.out.2.2.trans hb))); clear hl hb)
        | (go_at_call 12; (with_reducible refine (swc6 L5.out.1 L5.out.2.1).mono ?_); rintro e wL6 ⟨rfl, hl, hb⟩; have L6 := Aside0.mk (And.intro hl (And.intro (Nat.le_trans L5.out.2.1 hb.size) (L5.out.2.2.trans hb))); have z0 := (L6.out.2.2.cell (p := ⟨g4, 0, none⟩) HG.out).trans H40.out; have z1 := (L6.out.2.2.cell (p := ⟨g4, 1, none⟩) HG.out).trans H41.out; clear hl hb)
        | (go_at_call 13; (with_reducible refine (swcA HX.out HY.out n l HN.out (HI.out.below (HW.out.trans (L6.out.2.2.mono HS.out))) HO.out L6.out.1 L6.out.2.1).mono ?_); rintro e wL8 ⟨rfl, ⟨R, hr, hl⟩, hb⟩; have HR := Aside0.mk hr; have L8 := Aside0.mk (And.intro hl (And.intro (Nat.le_trans L6.out.2.1 hb.size) (L6.out.2.2.trans hb))); clear z0 z1; have z0 := (L8.out.2.2.cell (p := ⟨g4, 0, none⟩) HG.out).trans H40.out; have z1 := (L8.out.2.2.cell (p := ⟨g4, 1, none⟩) HG.out).trans H41.out; clear hr hl hb)
        | (go_at_call 14; (with_reducible refine (swcR HR.out L8.out.1).mono ?_); rintro e wx ⟨rfl, rfl⟩)
        | (go_at_call 15; (with_reducible refine (sure_calls _).mono ?_); rintro e wS ⟨rfl, hb⟩; have HF := Aside0.mk (HW.out.trans ((L8.out.2.2.mono HS.out).trans (hb.mono (Nat.le_trans HS.out L8.out.2.1)))); clear hb)
        | go_in)
      all_goals
        go_ret
        exact ⟨rfl, HF.out⟩

    · have HN := Aside0.mk hn
      go_enter Try.func3, Try.ntmps3
      go_wp2
      go_quiet (fail)
      have HW := Aside0.mk (Below.drewN ((((Below.refl w.heap.size w).alloc (Nat.le_refl _) (.cells #[.string x, .string y] 22)).alloc (by simp) (.cells #[.int .i64 n, .slice A l.length c] 25))) nq)
      have HC : Aside0 ((((w.alloc (.cells #[.string x, .string y] 22)).alloc (.cells #[.int .i64 n, .slice A l.length c] 25)).drewN nq).heap[w.heap.size + 1]? = some (.cells #[.int .i64 n, .slice A l.length c] 25 (0, 0))) := ⟨by
        have h1 := heap_alloc_new (w.alloc (.cells #[.string x, .string y] 22)) (.cells #[.int .i64 n, .slice A l.length c] 25)
        have h2 : (w.alloc (.cells #[.string x, .string y] 22)).heap.size = w.heap.size + 1 := by simp
        rw [h2] at h1
        exact h1⟩
      generalize ((w.alloc (.cells #[.string x, .string y] 22)).alloc (.cells #[.int .i64 n, .slice A l.length c] 25)).drewN nq = W1 at HW HC ⊢
      generalize w.heap.size + 1 = g4 at HC ⊢
      have HG : Aside0 (g4 < W1.heap.size) := ⟨blk_lt HC.out⟩
      have H40 : Aside0 (W1.cell? ⟨g4, 0, none⟩ = some (.int .i64 n)) := ⟨blk_cell HC.out 0⟩
      have H41 : Aside0 (W1.cell? ⟨g4, 1, none⟩ = some (.slice A l.length c)) := ⟨blk_cell HC.out 1⟩
      have HS : Aside0 (w.heap.size ≤ W1.heap.size) := ⟨HW.out.size⟩
      have HO : Aside0 (l ≠ [] → ∀ k, (Value.slice A l.length c).ownBlock = some k → k < W1.heap.size) := ⟨fun hne k hk => Nat.lt_of_lt_of_le (ints_lt HI.out hne k hk) HW.out.size⟩
      go_wp2_with (first
        | (go_at_call 8; (with_reducible refine (new_live (Nat.le_refl W1.heap.size)).mono ?_); rintro e w0 ⟨d, rfl, hl, hb⟩; have L0 := Aside0.mk (And.intro hl (And.intro hb.size hb)); clear hl hb)
        | (go_at_call 9; (with_reducible refine (swc1 HX.out L0.out.1 L0.out.2.1).mono ?_); rintro e wL1 ⟨rfl, hl, hb⟩; have L1 := Aside0.mk (And.intro hl (And.intro (Nat.le_trans L0.out.2.1 hb.size) (L0.out.2.2.trans hb))); clear hl hb)
        | (go_at_call 10; (with_reducible refine (swc2 L1.out.1 L1.out.2.1).mono ?_); rintro e wL2 ⟨rfl, hl, hb⟩; have L2 := Aside0.mk (And.intro hl (And.intro (Nat.le_trans L1.out.2.1 hb.size) (L1.out.2.2.trans hb))); clear hl hb)
        | (go_at_call 11; (with_reducible refine (swc3 L2.out.1 L2.out.2.1).mono ?_); rintro e wL3 ⟨rfl, hl, hb⟩; have L3 := Aside0.mk (And.intro hl (And.intro (Nat.le_trans L2.out.2.1 hb.size) (L2.out.2.2.trans hb))); clear hl hb)
        | (go_at_call 9; (with_reducible refine (swc4 HX.out HY.out L3.out.1 L3.out.2.1).mono ?_); rintro e wL4 ⟨rfl, hl, hb⟩; have L4 := Aside0.mk (And.intro hl (And.intro (Nat.le_trans L3.out.2.1 hb.size) (L3.out.2.2.trans hb))); clear hl hb)
        | (go_at_call 10; (with_reducible refine (swc5 L4.out.1 L4.out.2.1).mono ?_); rintro e wL5 ⟨rfl, hl, hb⟩; have L5 := Aside0.mk (And.intro hl (And.intro (Nat.le_trans L4.out.2.1 hb.size) (L4.out.2.2.trans hb))); clear hl hb)
        | (go_at_call 12; (with_reducible refine (swc6 L5.out.1 L5.out.2.1).mono ?_); rintro e wL6 ⟨rfl, hl, hb⟩; have L6 := Aside0.mk (And.intro hl (And.intro (Nat.le_trans L5.out.2.1 hb.size) (L5.out.2.2.trans hb))); have z0 := (L6.out.2.2.cell (p := ⟨g4, 0, none⟩) HG.out).trans H40.out; have z1 := (L6.out.2.2.cell (p := ⟨g4, 1, none⟩) HG.out).trans H41.out; clear hl hb)
        | (go_at_call 13; (with_reducible refine (swcB HX.out HY.out n l HN.out (HI.out.below (HW.out.trans (L6.out.2.2.mono HS.out))) HO.out L6.out.1 L6.out.2.1).mono ?_); rintro e wL8 ⟨rfl, ⟨R, hr, hl⟩, hb⟩; have HR := Aside0.mk hr; have L8 := Aside0.mk (And.intro hl (And.intro (Nat.le_trans L6.out.2.1 hb.size) (L6.out.2.2.trans hb))); clear z0 z1; have z0 := (L8.out.2.2.cell (p := ⟨g4, 0, none⟩) HG.out).trans H40.out; have z1 := (L8.out.2.2.cell (p := ⟨g4, 1, none⟩) HG.out).trans H41.out; clear hr hl hb)
        | (go_at_call 14; (with_reducible refine (swcR HR.out L8.out.1).mono ?_); rintro e wx ⟨rfl, rfl⟩)
        | (go_at_call 15; (with_reducible refine (sure_calls _).mono ?_); rintro e wS ⟨rfl, hb⟩; have HF := Aside0.mk (HW.out.trans ((L8.out.2.2.mono HS.out).trans (hb.mono (Nat.le_trans HS.out L8.out.2.1)))); clear hb)
        | go_in)
      all_goals
        go_ret
        exact ⟨rfl, HF.out⟩


end Go.Proofs.Ytokienfegjlocaa.Dk
