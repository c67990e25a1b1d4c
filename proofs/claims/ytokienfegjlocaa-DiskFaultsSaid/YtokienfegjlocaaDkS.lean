/- DiskFaults, walked. -/
import Derived.Test.YtokienfegjlocaaDkQ
namespace Go.Proofs.Ytokienfegjlocaa.Dk
open Go.RowKit Go.Maps Go.ChangeMaps Go.WideAt Go.WideMaps Go.Sort Go.Proofs.YtokienfegjlocaaW.PrintWords

def sfP (k n : Int) : DS := { D := .map [], fs := [], opn := [], steps := 0, plan := [⟨1, k, n⟩], puts := 0 }
def sfN : DS := { D := .map [], fs := [], opn := [], steps := 1, plan := [], puts := 0 }
def sfC (x : ByteArray) (n : Int) : DS := { D := .map [(.string [102], .lit (.int .i64 0))], fs := [(x, 0)], opn := [⟨⟨#[]⟩, ⟨#[102]⟩, none, 0⟩], steps := n, plan := [], puts := 1 }
theorem sfP2 (n : Int) (h : 0 ≤ n) : DS.new.planned [⟨1, 2, n⟩] = (sfP 2 n, 0) := by
  have h1 : planOk DS.new.steps [⟨1, 2, n⟩] = true := by
    simp [planOk, faultBad, DS.new]
    omega
  unfold DS.planned
  rw [if_neg (by simp), if_pos h1]
  rfl
theorem sfP1 : DS.new.planned [⟨1, 1, 0⟩] = (sfP 1 0, 0) := by kernel_rfl
theorem sfP3 : DS.new.planned [⟨1, 3, 0⟩] = (sfP 3 0, 0) := by kernel_rfl
theorem sfW2 (s : ByteArray) (n : Int) : (sfP 2 n).write ⟨#[102]⟩ s = (sfC (⟨#[]⟩ ++ cutS s n) 1, ((cutS s n).size : Int), 22) := by kernel_rfl
theorem sfW1 (s : ByteArray) : (sfP 1 0).write ⟨#[102]⟩ s = (sfN, 0, 22) := by kernel_rfl
theorem sfW3 (s : ByteArray) : (sfP 3 0).write ⟨#[102]⟩ s = (sfN, 0, 23) := by kernel_rfl
theorem sfRC (x : ByteArray) (n : Int) : (sfC x n).read ⟨#[102]⟩ = (x, 0) := by kernel_rfl
theorem sfRN : sfN.read ⟨#[102]⟩ = (⟨#[]⟩, 20) := by kernel_rfl
theorem sfXC (x s : ByteArray) : (sfC x 1).write ⟨#[102]⟩ s = (sfC (x ++ s) 2, (s.size : Int), 0) := by kernel_rfl
theorem sfXN (s : ByteArray) : sfN.write ⟨#[102]⟩ s = (sfC (⟨#[]⟩ ++ s) 2, (s.size : Int), 0) := by kernel_rfl

section
variable {B : Nat} {w : World} {d : Nat}
theorem sfp2 {n : Int} (hn : 0 ≤ n) (h : Live B w d DS.new) (hB : B ≤ w.heap.size) {g : Nat} (hg : w.heap[g]? = some (.cells #[.int .i64 1, .int .i64 2, .int .i64 n] 41 (0, 0))) : Calls Try.prog 16 #[.pointer (some ⟨d, 0, none⟩), .slice (some ⟨g, 0, none⟩) 1 1] w fun e w' => e = .returned (.int .i64 0) ∧ Live B w' d (sfP 2 n) ∧ Below B w w' := by
  have h2 := plan_live h hB (plan_one 1 2 n hg) (by simp)
  rw [sfP2 n hn] at h2
  exact h2
theorem sfp1 (h : Live B w d DS.new) (hB : B ≤ w.heap.size) {g : Nat} (hg : w.heap[g]? = some (.cells #[.int .i64 1, .int .i64 1, .int .i64 0] 41 (0, 0))) : Calls Try.prog 16 #[.pointer (some ⟨d, 0, none⟩), .slice (some ⟨g, 0, none⟩) 1 1] w fun e w' => e = .returned (.int .i64 0) ∧ Live B w' d (sfP 1 0) ∧ Below B w w' := by
  have h2 := plan_live h hB (plan_one 1 1 0 hg) (by simp)
  rw [sfP1] at h2
  exact h2
theorem sfp3 (h : Live B w d DS.new) (hB : B ≤ w.heap.size) {g : Nat} (hg : w.heap[g]? = some (.cells #[.int .i64 1, .int .i64 3, .int .i64 0] 41 (0, 0))) : Calls Try.prog 16 #[.pointer (some ⟨d, 0, none⟩), .slice (some ⟨g, 0, none⟩) 1 1] w fun e w' => e = .returned (.int .i64 0) ∧ Live B w' d (sfP 3 0) ∧ Below B w w' := by
  have h2 := plan_live h hB (plan_one 1 3 0 hg) (by simp)
  rw [sfP3] at h2
  exact h2
theorem sfw2 {n : Int} (hn : 0 ≤ n) {s : ByteArray} (hs : s.size ≤ 140737488355328) (h : Live B w d (sfP 2 n)) (hB : B ≤ w.heap.size) : Calls Try.prog 9 #[.pointer (some ⟨d, 0, none⟩), .string ⟨#[102]⟩, .string s] w fun e w' => e = .returned (.tuple #[.int .i64 ((cutS s n).size : Int), .int .i64 22]) ∧ Live B w' d (sfC (⟨#[]⟩ ++ cutS s n) 1) ∧ Below B w w' := by
  have h9 : maxLen = 9223372036854775807 := rfl
  have h2 := write_live h hB ⟨#[102]⟩ s (by decide) (of_decide_eq_true rfl) (of_decide_eq_true rfl) (of_decide_eq_true rfl) (of_decide_eq_true rfl) (fun f hf => by cases hf) (by omega) (fun f hf => by simp [sfP] at hf; subst hf; exact hn)
  rw [sfW2] at h2
  exact h2
theorem sfw1 {s : ByteArray} (hs : s.size ≤ 140737488355328) (h : Live B w d (sfP 1 0)) (hB : B ≤ w.heap.size) : Calls Try.prog 9 #[.pointer (some ⟨d, 0, none⟩), .string ⟨#[102]⟩, .string s] w fun e w' => e = .returned (.tuple #[.int .i64 0, .int .i64 22]) ∧ Live B w' d sfN ∧ Below B w w' := by
  have h9 : maxLen = 9223372036854775807 := rfl
  have h2 := write_live h hB ⟨#[102]⟩ s (by decide) (of_decide_eq_true rfl) (of_decide_eq_true rfl) (of_decide_eq_true rfl) (of_decide_eq_true rfl) (fun f hf => by cases hf) (by omega) (by decide)
  rw [sfW1] at h2
  exact h2
theorem sfw3 {s : ByteArray} (hs : s.size ≤ 140737488355328) (h : Live B w d (sfP 3 0)) (hB : B ≤ w.heap.size) : Calls Try.prog 9 #[.pointer (some ⟨d, 0, none⟩), .string ⟨#[102]⟩, .string s] w fun e w' => e = .returned (.tuple #[.int .i64 0, .int .i64 23]) ∧ Live B w' d sfN ∧ Below B w w' := by
  have h9 : maxLen = 9223372036854775807 := rfl
  have h2 := write_live h hB ⟨#[102]⟩ s (by decide) (of_decide_eq_true rfl) (of_decide_eq_true rfl) (of_decide_eq_true rfl) (of_decide_eq_true rfl) (fun f hf => by cases hf) (by omega) (by decide)
  rw [sfW3] at h2
  exact h2
theorem sfxn {s : ByteArray} (hs : s.size ≤ 140737488355328) (h : Live B w d sfN) (hB : B ≤ w.heap.size) : Calls Try.prog 9 #[.pointer (some ⟨d, 0, none⟩), .string ⟨#[102]⟩, .string s] w fun e w' => e = .returned (.tuple #[.int .i64 (s.size : Int), .int .i64 0]) ∧ Live B w' d (sfC (⟨#[]⟩ ++ s) 2) ∧ Below B w w' := by
  have h9 : maxLen = 9223372036854775807 := rfl
  have h2 := write_live h hB ⟨#[102]⟩ s (by decide) (of_decide_eq_true rfl) (of_decide_eq_true rfl) (of_decide_eq_true rfl) (of_decide_eq_true rfl) (fun f hf => by cases hf) (by omega) (fun f hf => by cases hf)
  rw [sfXN] at h2
  exact h2
theorem sfxc {x : ByteArray} (hx : x.size ≤ 140737488355328) {s : ByteArray} (hs : s.size ≤ 140737488355328) (h : Live B w d (sfC x 1)) (hB : B ≤ w.heap.size) : Calls Try.prog 9 #[.pointer (some ⟨d, 0, none⟩), .string ⟨#[102]⟩, .string s] w fun e w' => e = .returned (.tuple #[.int .i64 (s.size : Int), .int .i64 0]) ∧ Live B w' d (sfC (x ++ s) 2) ∧ Below B w w' := by
  have h9 : maxLen = 9223372036854775807 := rfl
  have h2 := write_live h hB ⟨#[102]⟩ s (by decide) (of_decide_eq_true rfl) (of_decide_eq_true rfl) (of_decide_eq_true rfl) (of_decide_eq_true rfl) (fun f hf => by simp [sfC] at hf; subst hf; show x.size + s.size ≤ maxLen; omega) (by omega) (fun f hf => by cases hf)
  rw [sfXC] at h2
  exact h2
theorem sfrc {x : ByteArray} {n : Int} (h : Live B w d (sfC x n)) : Calls Try.prog 14 #[.pointer (some ⟨d, 0, none⟩), .string ⟨#[102]⟩] w fun e w' => e = .returned (.tuple #[.string x, .int .i64 0]) ∧ w' = w := by
  have h2 := read_live h ⟨#[102]⟩ (by decide)
  rw [sfRC] at h2
  exact h2
theorem sfrn (h : Live B w d sfN) : Calls Try.prog 14 #[.pointer (some ⟨d, 0, none⟩), .string ⟨#[102]⟩] w fun e w' => e = .returned (.tuple #[.string ⟨#[]⟩, .int .i64 20]) ∧ w' = w := by
  have h2 := read_live h ⟨#[102]⟩ (by decide)
  rw [sfRN] at h2
  exact h2
theorem sfst {x : ByteArray} {n : Int} (h : Live B w d (sfC x n)) : Calls Try.prog 17 #[.pointer (some ⟨d, 0, none⟩)] w fun e w' => e = .returned (.int .i64 n) ∧ w' = w := steps_live h
end

theorem two_allocs {B : Nat} {w w0 : World} {d : Nat} {S : DS} (h : Live B w0 d S) (hB : B ≤ w0.heap.size) (hb : Below B w w0) (C : Obj) :
    Live B ((w0.alloc C).alloc C) d S ∧ B ≤ ((w0.alloc C).alloc C).heap.size ∧ ((w0.alloc C).alloc C).heap[w0.heap.size + 1]? = some C ∧ Below B w ((w0.alloc C).alloc C) := by
  have b1 : Below w0.heap.size w0 ((w0.alloc C).alloc C) := ((Below.refl _ _).alloc (Nat.le_refl _) C).alloc (by simp) C
  refine ⟨h.below b1, Nat.le_trans hB b1.size, ?_, hb.trans (b1.mono hB)⟩
  have h1 := heap_alloc_new (w0.alloc C) C
  have h2 : (w0.alloc C).heap.size = w0.heap.size + 1 := by simp
  rw [h2] at h1
  exact h1

set_option maxRecDepth 100000 in
set_option maxHeartbeats 4000000 in
theorem faults_calls (s : ByteArray) (kind n : Int) (hs : s.size ≤ 140737488355328) (w : World) : Calls Try.prog 5 #[.string s, .int .i64 kind, .int .i64 n] w fun e w' => e = .returned (.bool true) ∧ Below w.heap.size w w' := by
  obtain ⟨nn, hnn⟩ : ∃ nn, nn = max 0 (min n 1048576) := ⟨_, rfl⟩
  have HN : Aside0 (0 ≤ nn) := ⟨by omega⟩
  have HS := Aside0.mk hs
  have hn2 : max 0 (min n 1048576) = nn := hnn.symm
  have hc : kind.tmod 3 = -2 ∨ kind.tmod 3 = -1 ∨ kind.tmod 3 = 0 ∨ kind.tmod 3 = 1 ∨ kind.tmod 3 = 2 := by
    have h1 := Int.tmod_lt_of_pos kind (by decide : (0 : Int) < 3)
    have h2 := Int.lt_tmod_of_pos kind (by decide : (0 : Int) < 3)
    omega
  have HX : Aside0 (((⟨#[]⟩ : ByteArray) ++ cutS s nn).size ≤ 140737488355328) := ⟨by rw [ByteArray.size_append]; have h1 : (cutS s nn).size ≤ s.size := (by unfold cutS; simp; omega); have h2 : (⟨#[]⟩ : ByteArray).size = 0 := rfl; omega⟩
  have hq1 : ((cutS s nn).size : Int) = min nn (s.size : Int) := by unfold cutS; simp; omega
  have hq2 : ((⟨#[]⟩ : ByteArray) ++ cutS s nn) = s.extract 0 (min nn (s.size : Int)).toNat := by unfold cutS; exact ByteArray.empty_append
  clear hs hnn
  rcases hc with hk | hk | hk | hk | hk
  · go_enter Try.func5, Try.ntmps5
    go_wp2_with (first
      | (go_at_call 8; (with_reducible refine (new_live (Nat.le_refl w.heap.size)).mono ?_); rintro e w0 ⟨d, rfl, hl, hb⟩; have HPl := Aside0.mk (two_allocs hl hb.size hb (.cells #[.int .i64 1, .int .i64 2, .int .i64 nn] 41)); clear hl hb)
      | (go_at_call 16; (with_reducible refine (sfp2 HN.out HPl.out.1 HPl.out.2.1 HPl.out.2.2.1).mono ?_); rintro e wL1 ⟨rfl, hl, hb⟩; have L1 := Aside0.mk (And.intro hl (And.intro (Nat.le_trans HPl.out.2.1 hb.size) (HPl.out.2.2.2.trans hb))); clear hl hb)
      | (go_at_call 9; (with_reducible refine (sfw2 HN.out HS.out L1.out.1 L1.out.2.1).mono ?_); rintro e wL2 ⟨rfl, hl, hb⟩; have L2 := Aside0.mk (And.intro hl (And.intro (Nat.le_trans L1.out.2.1 hb.size) (L1.out.2.2.trans hb))); clear hl hb)
      | (go_at_call 14; (with_reducible refine (sfrc L2.out.1).mono ?_); rintro e wx ⟨rfl, rfl⟩)
      | (go_at_call 9; (with_reducible refine (sfxc HX.out HS.out L2.out.1 L2.out.2.1).mono ?_); rintro e wL3 ⟨rfl, hl, hb⟩; have L3 := Aside0.mk (And.intro hl (And.intro (Nat.le_trans L2.out.2.1 hb.size) (L2.out.2.2.trans hb))); clear hl hb)
      | (go_at_call 17; (with_reducible refine (sfst L3.out.1).mono ?_); rintro e wy ⟨rfl, rfl⟩)
      | (go_at_call 15; (with_reducible refine (sure_calls _).mono ?_); rintro e wS ⟨rfl, hb⟩; have HF := Aside0.mk (L3.out.2.2.trans (hb.mono L3.out.2.1)); clear hb)
      | go_in)
    go_ret
    exact ⟨rfl, HF.out⟩

  · go_enter Try.func5, Try.ntmps5
    go_wp2_with (first
      | (go_at_call 8; (with_reducible refine (new_live (Nat.le_refl w.heap.size)).mono ?_); rintro e w0 ⟨d, rfl, hl, hb⟩; have HPl := Aside0.mk (two_allocs hl hb.size hb (.cells #[.int .i64 1, .int .i64 3, .int .i64 0] 41)); clear hl hb)
      | (go_at_call 16; (with_reducible refine (sfp3 HPl.out.1 HPl.out.2.1 HPl.out.2.2.1).mono ?_); rintro e wL1 ⟨rfl, hl, hb⟩; have L1 := Aside0.mk (And.intro hl (And.intro (Nat.le_trans HPl.out.2.1 hb.size) (HPl.out.2.2.2.trans hb))); clear hl hb)
      | (go_at_call 9; (with_reducible refine (sfw3 HS.out L1.out.1 L1.out.2.1).mono ?_); rintro e wL2 ⟨rfl, hl, hb⟩; have L2 := Aside0.mk (And.intro hl (And.intro (Nat.le_trans L1.out.2.1 hb.size) (L1.out.2.2.trans hb))); clear hl hb)
      | (go_at_call 14; (with_reducible refine (sfrn L2.out.1).mono ?_); rintro e wx ⟨rfl, rfl⟩)
      | (go_at_call 9; (with_reducible refine (sfxn HS.out L2.out.1 L2.out.2.1).mono ?_); rintro e wL3 ⟨rfl, hl, hb⟩; have L3 := Aside0.mk (And.intro hl (And.intro (Nat.le_trans L2.out.2.1 hb.size) (L2.out.2.2.trans hb))); clear hl hb)
      | (go_at_call 17; (with_reducible refine (sfst L3.out.1).mono ?_); rintro e wy ⟨rfl, rfl⟩)
      | (go_at_call 15; (with_reducible refine (sure_calls _).mono ?_); rintro e wS ⟨rfl, hb⟩; have HF := Aside0.mk (L3.out.2.2.trans (hb.mono L3.out.2.1)); clear hb)
      | go_in)
    go_ret
    exact ⟨rfl, HF.out⟩

  · go_enter Try.func5, Try.ntmps5
    go_wp2_with (first
      | (go_at_call 8; (with_reducible refine (new_live (Nat.le_refl w.heap.size)).mono ?_); rintro e w0 ⟨d, rfl, hl, hb⟩; have HPl := Aside0.mk (two_allocs hl hb.size hb (.cells #[.int .i64 1, .int .i64 1, .int .i64 0] 41)); clear hl hb)
      | (go_at_call 16; (with_reducible refine (sfp1 HPl.out.1 HPl.out.2.1 HPl.out.2.2.1).mono ?_); rintro e wL1 ⟨rfl, hl, hb⟩; have L1 := Aside0.mk (And.intro hl (And.intro (Nat.le_trans HPl.out.2.1 hb.size) (HPl.out.2.2.2.trans hb))); clear hl hb)
      | (go_at_call 9; (with_reducible refine (sfw1 HS.out L1.out.1 L1.out.2.1).mono ?_); rintro e wL2 ⟨rfl, hl, hb⟩; have L2 := Aside0.mk (And.intro hl (And.intro (Nat.le_trans L1.out.2.1 hb.size) (L1.out.2.2.trans hb))); clear hl hb)
      | (go_at_call 14; (with_reducible refine (sfrn L2.out.1).mono ?_); rintro e wx ⟨rfl, rfl⟩)
      | (go_at_call 9; (with_reducible refine (sfxn HS.out L2.out.1 L2.out.2.1).mono ?_); rintro e wL3 ⟨rfl, hl, hb⟩; have L3 := Aside0.mk (And.intro hl (And.intro (Nat.le_trans L2.out.2.1 hb.size) (L2.out.2.2.trans hb))); clear hl hb)
      | (go_at_call 17; (with_reducible refine (sfst L3.out.1).mono ?_); rintro e wy ⟨rfl, rfl⟩)
      | (go_at_call 15; (with_reducible refine (sure_calls _).mono ?_); rintro e wS ⟨rfl, hb⟩; have HF := Aside0.mk (L3.out.2.2.trans (hb.mono L3.out.2.1)); clear hb)
      | go_in)
    go_ret
    exact ⟨rfl, HF.out⟩

  · go_enter Try.func5, Try.ntmps5
    go_wp2_with (first
      | (go_at_call 8; (with_reducible refine (new_live (Nat.le_refl w.heap.size)).mono ?_); rintro e w0 ⟨d, rfl, hl, hb⟩; have HPl := Aside0.mk (two_allocs hl hb.size hb (.cells #[.int .i64 1, .int .i64 2, .int .i64 nn] 41)); clear hl hb)
      | (go_at_call 16; (with_reducible refine (sfp2 HN.out HPl.out.1 HPl.out.2.1 HPl.out.2.2.1).mono ?_); rintro e wL1 ⟨rfl, hl, hb⟩; have L1 := Aside0.mk (And.intro hl (And.intro (Nat.le_trans HPl.out.2.1 hb.size) (HPl.out.2.2.2.trans hb))); clear hl hb)
      | (go_at_call 9; (with_reducible refine (sfw2 HN.out HS.out L1.out.1 L1.out.2.1).mono ?_); rintro e wL2 ⟨rfl, hl, hb⟩; have L2 := Aside0.mk (And.intro hl (And.intro (Nat.le_trans L1.out.2.1 hb.size) (L1.out.2.2.trans hb))); clear hl hb)
      | (go_at_call 14; (with_reducible refine (sfrc L2.out.1).mono ?_); rintro e wx ⟨rfl, rfl⟩)
      | (go_at_call 9; (with_reducible refine (sfxc HX.out HS.out L2.out.1 L2.out.2.1).mono ?_); rintro e wL3 ⟨rfl, hl, hb⟩; have L3 := Aside0.mk (And.intro hl (And.intro (Nat.le_trans L2.out.2.1 hb.size) (L2.out.2.2.trans hb))); clear hl hb)
      | (go_at_call 17; (with_reducible refine (sfst L3.out.1).mono ?_); rintro e wy ⟨rfl, rfl⟩)
      | (go_at_call 15; (with_reducible refine (sure_calls _).mono ?_); rintro e wS ⟨rfl, hb⟩; have HF := Aside0.mk (L3.out.2.2.trans (hb.mono L3.out.2.1)); clear hb)
      | go_in)
    go_ret
    exact ⟨rfl, HF.out⟩

  · go_enter Try.func5, Try.ntmps5
    go_wp2_with (first
      | (go_at_call 8; (with_reducible refine (new_live (Nat.le_refl w.heap.size)).mono ?_); rintro e w0 ⟨d, rfl, hl, hb⟩; have HPl := Aside0.mk (two_allocs hl hb.size hb (.cells #[.int .i64 1, .int .i64 3, .int .i64 0] 41)); clear hl hb)
      | (go_at_call 16; (with_reducible refine (sfp3 HPl.out.1 HPl.out.2.1 HPl.out.2.2.1).mono ?_); rintro e wL1 ⟨rfl, hl, hb⟩; have L1 := Aside0.mk (And.intro hl (And.intro (Nat.le_trans HPl.out.2.1 hb.size) (HPl.out.2.2.2.trans hb))); clear hl hb)
      | (go_at_call 9; (with_reducible refine (sfw3 HS.out L1.out.1 L1.out.2.1).mono ?_); rintro e wL2 ⟨rfl, hl, hb⟩; have L2 := Aside0.mk (And.intro hl (And.intro (Nat.le_trans L1.out.2.1 hb.size) (L1.out.2.2.trans hb))); clear hl hb)
      | (go_at_call 14; (with_reducible refine (sfrn L2.out.1).mono ?_); rintro e wx ⟨rfl, rfl⟩)
      | (go_at_call 9; (with_reducible refine (sfxn HS.out L2.out.1 L2.out.2.1).mono ?_); rintro e wL3 ⟨rfl, hl, hb⟩; have L3 := Aside0.mk (And.intro hl (And.intro (Nat.le_trans L2.out.2.1 hb.size) (L2.out.2.2.trans hb))); clear hl hb)
      | (go_at_call 17; (with_reducible refine (sfst L3.out.1).mono ?_); rintro e wy ⟨rfl, rfl⟩)
      | (go_at_call 15; (with_reducible refine (sure_calls _).mono ?_); rintro e wS ⟨rfl, hb⟩; have HF := Aside0.mk (L3.out.2.2.trans (hb.mono L3.out.2.1)); clear hb)
      | go_in)
    go_ret
    exact ⟨rfl, HF.out⟩


end Go.Proofs.Ytokienfegjlocaa.Dk
