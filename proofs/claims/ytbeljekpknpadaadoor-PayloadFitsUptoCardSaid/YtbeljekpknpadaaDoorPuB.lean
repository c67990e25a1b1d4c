/- Two points are the same just if all of them is: the program's loops and the document's answer the same; a copy is the same. -/
import Derived.Test.YtbeljekpknpadaaDoorPuA0
namespace Go.Proofs.YtbeljekpknpadaaDoor.PPayUL
open Go.RowKit Go.Proofs.YtbeljekpknpadaaDoor.PPayU Go.Proofs.YtbeljekpknpadaaDoorW.PrintWords Go.Proofs.YtbeljekpknpadaaDoorW.PrintLast Go.Proofs.YtbeljekpknpadaaDoorW.PrintMore
set_option linter.unusedVariables false
set_option linter.unusedSimpArgs false

theorem w64 {x : Int} (h0 : -9223372036854775808 ≤ x) (h : x ≤ 9223372036854775807) : wrap64 x = x := by unfold wrap64; omega
theorem succ_nat (i n : Nat) (h : i < n) (hn : n ≤ 4611686018427387904) : wrap64 ((i : Int) + 1) = ((i + 1 : Nat) : Int) := wrap_succ_nat i n h hn
theorem rd61 (l : List S61) (i : Nat) (h : i < l.length) : rd_T61 l (i : Int) = l[i] := by simp [rd_T61, List.getD_eq_getElem?_getD, h]
theorem rd59 (l : List S59) (i : Nat) (h : i < l.length) : rd_T59 l (i : Int) = l[i] := by simp [rd_T59, List.getD_eq_getElem?_getD, h]
theorem rdI (l : List Int) (i : Nat) (h : i < l.length) : rd l (i : Int) = l[i] := by simp [rd, List.getD_eq_getElem?_getD, h]

/-! ### equality, as a Bool -/
def eqL {α : Type} (e : α → α → Bool) : List α → List α → Bool
  | [], [] => true
  | x :: l, y :: m => e x y && eqL e l m
  | _, _ => false
def eqI (x y : Int) : Bool := decide (x = y)
def eqV (x y : S59) : Bool := decide (x.f0.toList = y.f0.toList) && eqL eqI x.f1 y.f1
def eqF (x y : S61) : Bool := (x.f0.toList == y.f0.toList) && ((x.f1.f0 == y.f1.f0) && ((x.f1.f1 == y.f1.f1) && (x.f1.f2.toList == y.f1.f2.toList)))
theorem eqL_drop {α : Type} (e : α → α → Bool) (l m : List α) (i : Nat) (h1 : i < l.length) (h2 : i < m.length) : eqL e (l.drop i) (m.drop i) = (e l[i] m[i] && eqL e (l.drop (i + 1)) (m.drop (i + 1))) := by
  rw [List.drop_eq_getElem_cons h1, List.drop_eq_getElem_cons h2, eqL]
theorem eqL_end {α : Type} (e : α → α → Bool) (l m : List α) (h : l.length = m.length) : eqL e (l.drop l.length) (m.drop l.length) = true := by
  rw [List.drop_eq_nil_of_le (Nat.le_refl _), List.drop_eq_nil_of_le (by omega)]
  rfl
theorem eqL_len {α : Type} (e : α → α → Bool) : ∀ l m : List α, l.length ≠ m.length → eqL e l m = false
  | [], [], h => absurd rfl h
  | [], _ :: _, _ => rfl
  | _ :: _, [], _ => rfl
  | x :: l, y :: m, h => by
    rw [eqL, eqL_len e l m (by simpa using h), Bool.and_false]
theorem eqL_iff {α : Type} (e : α → α → Bool) (he : ∀ x y, e x y = true ↔ x = y) : ∀ l m : List α, eqL e l m = true ↔ l = m
  | [], [] => by simp [eqL]
  | [], _ :: _ => by simp [eqL]
  | _ :: _, [] => by simp [eqL]
  | x :: l, y :: m => by
    rw [eqL, Bool.and_eq_true, he, eqL_iff e he l m, List.cons.injEq]
theorem eqI_iff (x y : Int) : eqI x y = true ↔ x = y := by simp [eqI]
theorem str_iff (a b : ByteArray) : a.toList = b.toList ↔ a = b := by
  rw [Lib.toList_data, Lib.toList_data]
  constructor
  · intro h
    cases a
    cases b
    simp only at h
    rw [Array.ext' h]
  · rintro rfl
    rfl
theorem eqV_iff (x y : S59) : eqV x y = true ↔ x = y := by
  cases x
  cases y
  simp [eqV, str_iff, eqL_iff eqI eqI_iff]
theorem eqF_iff (x y : S61) : eqF x y = true ↔ x = y := by
  obtain ⟨x0, x1, x2, x3⟩ := x
  obtain ⟨y0, y1, y2, y3⟩ := y
  simp [eqF, str_iff]
def eqP (a0 : Int) (l1 : List S59) (l2 : List S61) (b0 : Int) (m1 : List S59) (m2 : List S61) : Bool := decide (a0 = b0) && (eqL eqF l2 m2 && eqL eqV l1 m1)
theorem eqP_iff (a0 : Int) (l1 : List S59) (l2 : List S61) (b0 : Int) (m1 : List S59) (m2 : List S61) : eqP a0 l1 l2 b0 m1 m2 = true ↔ a0 = b0 ∧ l1 = m1 ∧ l2 = m2 := by
  simp only [eqP, Bool.and_eq_true, decide_eq_true_eq, eqL_iff eqF eqF_iff, eqL_iff eqV eqV_iff]
  constructor
  · rintro ⟨h1, h2, h3⟩
    exact ⟨h1, h3, h2⟩
  · rintro ⟨h1, h2, h3⟩
    exact ⟨h1, h3, h2⟩

/-! ### the program's loops -/
theorem ne_eqF (x y : S61) : (!((x.f0.toList) == (y.f0.toList)) || ((!((x.f1.f0) == (y.f1.f0)) || (!((x.f1.f1) == (y.f1.f1)) || (!((x.f1.f2.toList) == (y.f1.f2.toList))))))) = !eqF x y := by
  simp only [eqF, Bool.not_and]
def wt59 : List S59 → Nat
  | [] => 0
  | x :: l => x.f1.length + 4 + wt59 l
theorem wt59_le : ∀ (l : List S59) (i : Nat) (h : i < l.length), l[i].f1.length + 4 + wt59 (l.drop (i + 1)) = wt59 (l.drop i)
  | l, i, h => by
    rw [List.drop_eq_getElem_cons h, wt59]
theorem wt59_drop (l : List S59) : ∀ i, wt59 (l.drop i) ≤ wt59 l := by
  induction l with
  | nil => intro i; simp
  | cons x l ih =>
    intro i
    cases i with
    | zero => simp
    | succ i =>
      have := ih i
      simp only [List.drop_succ_cons, wt59]
      omega
theorem wt59_get (l : List S59) (i : Nat) (h : i < l.length) : l[i].f1.length + 4 ≤ wt59 l := by
  have h1 := wt59_le l i h
  have h2 := wt59_drop l i
  omega
theorem wt59_len : ∀ l : List S59, l.length ≤ wt59 l
  | [] => by simp
  | x :: l => by
    have := wt59_len l
    simp only [wt59, List.length_cons]
    omega
end Go.Proofs.YtbeljekpknpadaaDoor.PPayUL
