/- DiskKeeps, walked. -/
import Derived.Test.YtokienfegjlocaaDkT
namespace Go.Proofs.Ytokienfegjlocaa.Dk
open Go.RowKit Go.Maps Go.ChangeMaps Go.WideAt Go.WideMaps Go.Sort Go.Proofs.YtokienfegjlocaaW.PrintWords

def sk (x : ByteArray) (n : Int) (o : List Chg) (k : Int) : DS := { D := .map [(.string [102], .lit (.int .i64 0))], fs := [(x, n)], opn := o, steps := k, plan := [], puts := 1 }
theorem sk1_eq (x : ByteArray) : DS.new.write ⟨#[102]⟩ x = (sk x 0 [⟨⟨#[]⟩, ⟨#[102]⟩, none, 0⟩] 1, (x.size : Int), 0) := by
  have h : DS.new.write ⟨#[102]⟩ x = (sk (⟨#[]⟩ ++ x) 0 [⟨⟨#[]⟩, ⟨#[102]⟩, none, 0⟩] 1, (x.size : Int), 0) := by kernel_rfl
  rw [h, empty_app]
theorem sk2_eq (x : ByteArray) : (sk x 0 [⟨⟨#[]⟩, ⟨#[102]⟩, none, 0⟩] 1).sync ⟨#[102]⟩ = (sk x x.size [⟨⟨#[]⟩, ⟨#[102]⟩, none, 0⟩] 2, 0) := by kernel_rfl
theorem sk3_eq (x : ByteArray) : (sk x x.size [⟨⟨#[]⟩, ⟨#[102]⟩, none, 0⟩] 2).syncNames = (sk x x.size [] 3, 0) := by kernel_rfl
theorem sk4_eq (x y : ByteArray) : (sk x x.size [] 3).write ⟨#[102]⟩ y = (sk (x ++ y) x.size [] 4, (y.size : Int), 0) := by kernel_rfl
theorem skR_eq (z : ByteArray) : (sk z z.size [] 4).read ⟨#[102]⟩ = (z, 0) := by kernel_rfl
theorem settle_go {l : List Int} {i : Nat} {nm : List UInt8} {r : List (List UInt8)} {T : DS} {j : Nat} (hf : T.find ⟨nm.toArray⟩ = some j) (h0 : 0 ≤ (T.fileAt j).2) (h1 : (T.fileAt j).2 ≤ ((T.fileAt j).1.size : Int)) :
    DS.settle l i (nm :: r) T = DS.settle l (i + 1) r (T.setFile j (settleF (T.fileAt j) (moreOf l i))) := by
  have e : DS.settle l i (nm :: r) T = match T.find ⟨nm.toArray⟩ with
    | none => none
    | some j => if 0 ≤ (T.fileAt j).2 ∧ (T.fileAt j).2 ≤ ((T.fileAt j).1.size : Int) then DS.settle l (i + 1) r (T.setFile j (settleF (T.fileAt j) (moreOf l i))) else none := rfl
  rw [e, hf]
  dsimp only
  rw [if_pos ⟨h0, h1⟩]
theorem sk_opn (x : ByteArray) (n : Int) (k m : Int) : (sk x n [] k).opn.length - (max m 0).toNat = 0 := by
  show 0 - (max m 0).toNat = 0
  omega
theorem skS (z : ByteArray) (n : Int) (l : List Int) : (sk z z.size [] 4).crash n l = some (sk z z.size [] 4) := by
  refine crash_of (R := sk z z.size [] 4) (sk_opn z _ 4 n) rfl (ms1 [102]) ?_
  rw [settle_same (j := 0) (x := z) (by kernel_rfl) (by kernel_rfl) (by kernel_rfl)]
  rfl
theorem skC (x y : ByteArray) (n : Int) (l : List Int) : ∃ z, (sk (x ++ y) x.size [] 4).crash n l = some (sk z z.size [] 4) ∧ (x ++ y).extract 0 z.size = z ∧ x.size ≤ z.size ∧ z.size ≤ x.size + y.size := by
  have hs : (x ++ y).size = x.size + y.size := ByteArray.size_append
  have hm := moreOf_nonneg l 0
  obtain ⟨k, hk⟩ : ∃ k : Nat, ((x.size : Int) + min (moreOf l 0) (((x ++ y).size : Int) - (x.size : Int))).toNat = k := ⟨_, rfl⟩
  have hk2 : x.size ≤ k ∧ k ≤ x.size + y.size := by omega
  have hz : ((x ++ y).extract 0 k).size = k := by rw [ByteArray.size_extract]; omega
  refine ⟨(x ++ y).extract 0 k, ?_, by rw [hz], by rw [hz]; exact hk2.1, by rw [hz]; exact hk2.2⟩
  show DS.crash _ n l = _
  refine crash_of (T := sk (x ++ y) x.size [] 4) (R := sk ((x ++ y).extract 0 k) (((x ++ y).extract 0 k).size : Int) [] 4) (sk_opn _ _ 4 n) rfl (ms1 [102]) ?_
  rw [settle_go (T := sk (x ++ y) x.size [] 4) (j := 0) (by kernel_rfl) (by show 0 ≤ (x.size : Int); omega) (by show (x.size : Int) ≤ ((x ++ y).size : Int); omega)]
  have he : settleF ((sk (x ++ y) x.size [] 4).fileAt 0) (moreOf l 0) = ((x ++ y).extract 0 k, (((x ++ y).extract 0 k).size : Int)) := by
    show settleF (x ++ y, (x.size : Int)) (moreOf l 0) = _
    unfold settleF
    dsimp only
    rw [hk]
  rw [he]
  rfl

section
variable {B : Nat} {w : World} {d : Nat}
theorem skc1 {x : ByteArray} (hx : x.size ≤ 140737488355328) (h : Live B w d DS.new) (hB : B ≤ w.heap.size) : Calls Try.prog 9 #[.pointer (some ⟨d, 0, none⟩), .string ⟨#[102]⟩, .string x] w fun e w' => e = .returned (.tuple #[.int .i64 (x.size : Int), .int .i64 0]) ∧ Live B w' d (sk x 0 [⟨⟨#[]⟩, ⟨#[102]⟩, none, 0⟩] 1) ∧ Below B w w' := by
  have h2 := write_live h hB ⟨#[102]⟩ x (by decide) (of_decide_eq_true rfl) (of_decide_eq_true rfl) (of_decide_eq_true rfl) (of_decide_eq_true rfl) (fun f hf => by cases hf) (mx hx) (fun f hf => by cases hf)
  rw [sk1_eq] at h2
  exact h2
theorem skc2 {x : ByteArray} (h : Live B w d (sk x 0 [⟨⟨#[]⟩, ⟨#[102]⟩, none, 0⟩] 1)) (hB : B ≤ w.heap.size) : Calls Try.prog 10 #[.pointer (some ⟨d, 0, none⟩), .string ⟨#[102]⟩] w fun e w' => e = .returned (.int .i64 0) ∧ Live B w' d (sk x x.size [⟨⟨#[]⟩, ⟨#[102]⟩, none, 0⟩] 2) ∧ Below B w w' := by
  have h2 := sync_live h hB ⟨#[102]⟩ (by decide) (of_decide_eq_true rfl) (of_decide_eq_true rfl)
  rw [sk2_eq] at h2
  exact h2
theorem skc3 {x : ByteArray} (h : Live B w d (sk x x.size [⟨⟨#[]⟩, ⟨#[102]⟩, none, 0⟩] 2)) (hB : B ≤ w.heap.size) : Calls Try.prog 11 #[.pointer (some ⟨d, 0, none⟩)] w fun e w' => e = .returned (.int .i64 0) ∧ Live B w' d (sk x x.size [] 3) ∧ Below B w w' := by
  have h2 := syncNames_live h hB (of_decide_eq_true rfl) (of_decide_eq_true rfl)
  rw [sk3_eq] at h2
  exact h2
theorem skc4 {x y : ByteArray} (hx : x.size ≤ 140737488355328) (hy : y.size ≤ 140737488355328) (h : Live B w d (sk x x.size [] 3)) (hB : B ≤ w.heap.size) : Calls Try.prog 9 #[.pointer (some ⟨d, 0, none⟩), .string ⟨#[102]⟩, .string y] w fun e w' => e = .returned (.tuple #[.int .i64 (y.size : Int), .int .i64 0]) ∧ Live B w' d (sk (x ++ y) x.size [] 4) ∧ Below B w w' := by
  have h2 := write_live h hB ⟨#[102]⟩ y (by decide) (of_decide_eq_true rfl) (of_decide_eq_true rfl) (of_decide_eq_true rfl) (of_decide_eq_true rfl) (fun f hf => by simp [sk] at hf; subst hf; have h9 : maxLen = 9223372036854775807 := rfl; show x.size + y.size ≤ maxLen; omega) (mx hy) (fun f hf => by cases hf)
  rw [sk4_eq] at h2
  exact h2
theorem skc5 {x y z : ByteArray} (hx : x.size ≤ 140737488355328) (hy : y.size ≤ 140737488355328) (n : Int) (l : List Int) (hz : (sk (x ++ y) x.size [] 4).crash n l = some (sk z z.size [] 4)) {vb : Value} (hb : IntsAt w vb l) (hbo : l ≠ [] → ∀ k, vb.ownBlock = some k → k < B) (h : Live B w d (sk (x ++ y) x.size [] 4)) (hB : B ≤ w.heap.size) :
    Calls Try.prog 13 #[.pointer (some ⟨d, 0, none⟩), .agg #[.int .i64 n, vb]] w fun e w' => e = .returned (.tuple #[]) ∧ Live B w' d (sk z z.size [] 4) ∧ Below B w w' :=
  crash_live h (Below.refl _ _) hB n l hb (fun hne k hk => .inl (hbo hne k hk)) (of_decide_eq_true rfl) (by intro c hc; cases hc) (fun f hf => by simp [sk] at hf; subst hf; have h9 : maxLen = 9223372036854775807 := rfl; show (x ++ y).size ≤ maxLen; rw [ByteArray.size_append]; omega) hz
theorem ints_one {w : World} {g : Nat} {n : Int} (h : w.heap[g]? = some (.cells #[.int .i64 n] 3 (0, 0))) : IntsAt w (.slice (some ⟨g, 0, none⟩) 1 1) [n] := by
  refine ⟨_, 1, rfl, fun i x hx => ?_⟩
  cases i with
  | zero =>
    simp at hx
    subst hx
    exact ⟨g, 0, rfl, blk_cell h 0⟩
  | succ i => simp at hx
theorem skc6 {z : ByteArray} (hz : z.size ≤ maxLen) {n : Int} (h : Live B w d (sk z z.size [] 4)) (hB : B ≤ w.heap.size) :
    Calls Try.prog 13 #[.pointer (some ⟨d, 0, none⟩), .agg #[.int .i64 n, .slice (some ⟨w.heap.size, 0, none⟩) 1 1]] (w.alloc (.cells #[.int .i64 n] 3)) fun e w' => e = .returned (.tuple #[]) ∧ Live B w' d (sk z z.size [] 4) ∧ Below B w w' := by
  have hb1 := (Below.refl w.heap.size w).alloc (Nat.le_refl _) (.cells #[.int .i64 n] 3)
  refine (crash_live h hb1 hB n [n] (ints_one (heap_alloc_new w _)) (fun _ k hk => .inr (by cases hk; exact Nat.le_refl _)) (of_decide_eq_true rfl) (by intro c hc; cases hc) (fun f hf => by simp [sk] at hf; subst hf; exact hz) (skS z n [n])).mono ?_
  rintro e w' ⟨he, hl, hb⟩
  exact ⟨he, hl, (hb1.mono hB).trans hb⟩
theorem skcR {z : ByteArray} (h : Live B w d (sk z z.size [] 4)) : Calls Try.prog 14 #[.pointer (some ⟨d, 0, none⟩), .string ⟨#[102]⟩] w fun e w' => e = .returned (.tuple #[.string z, .int .i64 0]) ∧ w' = w := by
  have h2 := read_live h ⟨#[102]⟩ (by decide)
  rw [skR_eq] at h2
  exact h2
end

set_option maxRecDepth 100000 in
set_option maxHeartbeats 4000000 in
theorem keeps_calls (x y : ByteArray) (n times : Int) (l : List Int) (hx : x.size ≤ 140737488355328) (hy : y.size ≤ 140737488355328) {A : Option Addr} {c : Nat} (w : World) (hb : IntsAt w (.slice A l.length c) l) :
    Calls Try.prog 4 #[.agg #[.string x, .string y], .agg #[.int .i64 n, .slice A l.length c], .int .i64 times] w fun e w' => e = .returned (.bool true) ∧ Below w.heap.size w w' := by
  have HX := Aside0.mk hx
  have HY := Aside0.mk hy
  have HI := Aside0.mk hb
  obtain ⟨z, hz, hz1, hz2, hz3⟩ := skC x y n l
  have HZ := Aside0.mk hz
  have hcat : ¬ 9223372036854775807 < x.size + y.size := by omega
  have hz4 : (z.size : Int) ≤ (x.size : Int) + (y.size : Int) := by omega
  have hz5 : (x.size : Int) ≤ (z.size : Int) := by omega
  clear hb hz
  go_enter Try.func4, Try.ntmps4
  go_wp2
  go_quiet (fail)
  have HW := Aside0.mk (Below.drewN ((((Below.refl w.heap.size w).alloc (Nat.le_refl _) (.cells #[.string x, .string y] 22)).alloc (by simp) (.cells #[.int .i64 n, .slice A l.length c] 25))) nq)
  have HC : Aside0 ((((w.alloc (.cells #[.string x, .string y] 22)).alloc (.cells #[.int .i64 n, .slice A l.length c] 25)).drewN nq).heap[w.heap.size + 1]? = some (.cells #[.int .i64 n, .slice A l.length c] 25 (0, 0))) := ⟨by
    have h1 := heap_alloc_new (w.alloc (.cells #[.string x, .string y] 22)) (.cells #[.int .i64 n, .slice A l.length c] 25)
    have h2 : (w.alloc (.cells #[.string x, .string y] 22)).heap.size = w.heap.size + 1 := by simp
    rw [h2] at h1
    exact h1⟩
  generalize ((w.alloc (.cells #[.string x, .string y] 22)).alloc (.cells #[.int .i64 n, .slice A l.length c] 25)).drewN nq = W1 at HW HC ⊢
  generalize w.heap.size + 1 = g4 at HC ⊢
  have HG : Aside0 (g4 < W1.heap.size) := ⟨blk_lt HC.out⟩
  have H40 : Aside0 (W1.cell? ⟨g4, 0, none⟩ = some (.int .i64 n)) := ⟨blk_cell HC.out 0⟩
  have H41 : Aside0 (W1.cell? ⟨g4, 1, none⟩ = some (.slice A l.length c)) := ⟨blk_cell HC.out 1⟩
  have HS : Aside0 (w.heap.size ≤ W1.heap.size) := ⟨HW.out.size⟩
  have HO : Aside0 (l ≠ [] → ∀ k, (Value.slice A l.length c).ownBlock = some k → k < W1.heap.size) := ⟨fun hne k hk => Nat.lt_of_lt_of_le (ints_lt HI.out hne k hk) HW.out.size⟩
  go_wp2_with (first
    | (go_at_call 8; (with_reducible refine (new_live (Nat.le_refl W1.heap.size)).mono ?_); rintro e w0 ⟨d, rfl, hl, hb⟩; have L0 := Aside0.mk (And.intro hl (And.intro hb.size hb)); clear hl hb)
    | (go_at_call 9; (with_reducible refine (skc1 HX.out L0.out.1 L0.out.2.1).mono ?_); rintro e wL1 ⟨rfl, hl, hb⟩; have L1 := Aside0.mk (And.intro hl (And.intro (Nat.le_trans L0.out.2.1 hb.size) (L0.out.2.2.trans hb))); clear hl hb)
    | (go_at_call 10; (with_reducible refine (skc2 L1.out.1 L1.out.2.1).mono ?_); rintro e wL2 ⟨rfl, hl, hb⟩; have L2 := Aside0.mk (And.intro hl (And.intro (Nat.le_trans L1.out.2.1 hb.size) (L1.out.2.2.trans hb))); clear hl hb)
    | (go_at_call 11; (with_reducible refine (skc3 L2.out.1 L2.out.2.1).mono ?_); rintro e wL3 ⟨rfl, hl, hb⟩; have L3 := Aside0.mk (And.intro hl (And.intro (Nat.le_trans L2.out.2.1 hb.size) (L2.out.2.2.trans hb))); clear hl hb)
    | (go_at_call 9; (with_reducible refine (skc4 HX.out HY.out L3.out.1 L3.out.2.1).mono ?_); rintro e wL4 ⟨rfl, hl, hb⟩; have L4 := Aside0.mk (And.intro hl (And.intro (Nat.le_trans L3.out.2.1 hb.size) (L3.out.2.2.trans hb))); have z0 := (L4.out.2.2.cell (p := ⟨g4, 0, none⟩) HG.out).trans H40.out; have z1 := (L4.out.2.2.cell (p := ⟨g4, 1, none⟩) HG.out).trans H41.out; clear hl hb)
    | (go_at_call 13; (with_reducible refine (skc5 HX.out HY.out n l HZ.out (HI.out.below (HW.out.trans (L4.out.2.2.mono HS.out))) HO.out L4.out.1 L4.out.2.1).mono ?_); rintro e wL5 ⟨rfl, hl, hb⟩; have L5 := Aside0.mk (And.intro hl (And.intro (Nat.le_trans L4.out.2.1 hb.size) (L4.out.2.2.trans hb))); clear z0 z1 hl hb)
    | (go_at_call 14; (with_reducible refine (skcR L5.out.1).mono ?_); rintro e wx ⟨rfl, rfl⟩)
    | go_in)
  have HT := Aside0.mk (And.intro (HW.out.trans (L5.out.2.2.mono HS.out)) (Nat.le_trans HS.out L5.out.2.1))
  have HZs : Aside0 (z.size ≤ maxLen) := ⟨by have h9 : maxLen = 9223372036854775807 := rfl; omega⟩
  go_loopw [14] (fun vi wr => ∃ i : Nat, vi = .int .i64 i ∧ i ≤ 5 ∧ Aside0 (Live W1.heap.size wr d (sk z z.size [] 4) ∧ W1.heap.size ≤ wr.heap.size ∧ Below W1.heap.size W1 wr)) (fun vi _ => 5 - (intOf vi).toNat)
  case atStart => exact ⟨0, rfl, Nat.zero_le _, L5⟩
  case round =>
    obtain ⟨i, rfl, hi, L6⟩ := hrel
    by_cases ht : (i : Int) < times
    · by_cases h5 : i < 5
      · have hd1 : decide ((i : Int) < times) = true := by simpa using ht
        have hd2 : decide ((i : Int) < 5) = true := by simp; omega
        go_wp2_with (first
          | (go_at_call 13; (with_reducible refine (skc6 HZs.out (n := times) L6.out.1 L6.out.2.1).mono ?_); rintro e wL7 ⟨rfl, hl, hb⟩; have L7 := Aside0.mk (And.intro hl (And.intro (Nat.le_trans L6.out.2.1 hb.size) (L6.out.2.2.trans hb))); clear hl hb)
          | (go_at_call 14; (with_reducible refine (skcR L7.out.1).mono ?_); rintro e wx ⟨rfl, rfl⟩)
          | go_in)
        go_simp
        have hms := meas h5
        exact ⟨⟨i + 1, by simp, by omega⟩, by simpa [intOf] using hms⟩
      · have hd1 : decide ((i : Int) < times) = true := by simpa using ht
        have hd2 : decide ((i : Int) < 5) = false := by simp; omega
        go_wp2_with (first
          | (go_at_call 15; (with_reducible refine (sure_calls _).mono ?_); rintro e wS ⟨rfl, hb⟩; have HF := Aside0.mk (HW.out.trans ((L6.out.2.2.mono HS.out).trans (hb.mono (Nat.le_trans HS.out L6.out.2.1)))); clear hb)
          | go_in)
        go_ret
        exact ⟨rfl, HF.out⟩
    · have hd1 : decide ((i : Int) < times) = false := by simpa using ht
      go_wp2_with (first
        | (go_at_call 15; (with_reducible refine (sure_calls _).mono ?_); rintro e wS ⟨rfl, hb⟩; have HF := Aside0.mk (HW.out.trans ((L6.out.2.2.mono HS.out).trans (hb.mono (Nat.le_trans HS.out L6.out.2.1)))); clear hb)
        | go_in)
      go_ret
      exact ⟨rfl, HF.out⟩


end Go.Proofs.Ytokienfegjlocaa.Dk
