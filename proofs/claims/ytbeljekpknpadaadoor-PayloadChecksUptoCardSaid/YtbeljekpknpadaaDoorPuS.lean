/- What the document's Same answers. -/
import Derived.Test.YtbeljekpknpadaaDoorPPayUx3
import Derived.Test.YtbeljekpknpadaaDoorPuE
namespace Go.Proofs.YtbeljekpknpadaaDoor.PPayUL
open Go.RowKit Go.Proofs.YtbeljekpknpadaaDoor.PPayU Go.Proofs.YtbeljekpknpadaaDoorW.PrintWords Go.Proofs.YtbeljekpknpadaaDoorW.PrintLast Go.Proofs.YtbeljekpknpadaaDoorW.PrintMore
set_option linter.unusedVariables false
set_option linter.unusedSimpArgs false

/-! ### the document's loops -/
theorem ref_fields (a0 : Int) (l1 : List S59) (l : List S61) (b0 : Int) (m1 : List S59) (m : List S61) (hlm : l.length = m.length) (h : l.length ≤ 4611686018427387904) : ∀ (n i k : Nat), l.length - i = n → i ≤ l.length → n + 1 ≤ k → lodestarref05_Same.l2 k (i : Int) a0 l1 l b0 m1 m = some (eqL eqF (l.drop i) (m.drop i))
  | 0, i, k + 1, hn, hi, hk => by
    obtain rfl : i = l.length := by omega
    rw [lodestarref05_Same.l2, if_neg (by omega), eqL_end eqF l m hlm]
  | n + 1, i, k + 1, hn, hi, hk => by
    have h1 : i < l.length := by omega
    have h2 : i < m.length := by omega
    rw [lodestarref05_Same.l2, if_pos (by omega), if_pos (by omega), if_pos (by omega), rd61 l i h1, rd61 m i h2, ne_eqF, eqL_drop eqF l m i h1 h2]
    cases he : eqF l[i] m[i]
    · simp
    · rw [if_neg (by simp), succ_nat i l.length h1 h, ref_fields a0 l1 l b0 m1 m hlm h n (i + 1) k (by omega) (by omega) (by omega)]
      simp
theorem ref_ints (x5 a0 : Int) (l1 : List S59) (l2 : List S61) (b0 : Int) (m1 : List S59) (m2 : List S61) (s : ByteArray) (l : List Int) (t : ByteArray) (m : List Int) (hlm : l.length = m.length) (h : l.length ≤ 4611686018427387904) (R : Nat) (B : Bool)
    (hR : ∀ k, R ≤ k → lodestarref05_Same.l0 k (wrap64 (x5 + 1)) a0 l1 l2 b0 m1 m2 = some B) : ∀ (n i k : Nat), l.length - i = n → i ≤ l.length → n + 1 + R ≤ k →
    lodestarref05_Same.l1 k x5 (i : Int) a0 l1 l2 b0 m1 m2 s l t m = some (eqL eqI (l.drop i) (m.drop i) && B)
  | 0, i, 0, hn, hi, hk => absurd hk (by omega)
  | n + 1, i, 0, hn, hi, hk => absurd hk (by omega)
  | 0, i, k + 1, hn, hi, hk => by
    obtain rfl : i = l.length := by omega
    rw [lodestarref05_Same.l1, if_neg (by omega), eqL_end eqI l m hlm, hR k (by omega), Bool.true_and]
  | n + 1, i, k + 1, hn, hi, hk => by
    have h1 : i < l.length := by omega
    have h2 : i < m.length := by omega
    rw [lodestarref05_Same.l1, if_pos (by omega), if_pos (by omega), if_pos (by omega), rdI l i h1, rdI m i h2, eqL_drop eqI l m i h1 h2]
    by_cases he : l[i] = m[i]
    · rw [if_pos he, succ_nat i l.length h1 h, ref_ints x5 a0 l1 l2 b0 m1 m2 s l t m hlm h R B hR n (i + 1) k (by omega) (by omega) (by omega)]
      simp [eqI, he]
    · rw [if_neg he]
      simp [eqI, he]
theorem ref_vecs (a0 : Int) (l : List S59) (l2 : List S61) (b0 : Int) (m : List S59) (m2 : List S61) (hlm : l.length = m.length) (hf : l2.length = m2.length) (h : wt59 l ≤ 1099511627776) (h2 : l2.length ≤ 1099511627776) : ∀ (n i k : Nat), l.length - i = n → i ≤ l.length → wt59 (l.drop i) + l2.length + 2 ≤ k →
    lodestarref05_Same.l0 k (i : Int) a0 l l2 b0 m m2 = some (eqL eqV (l.drop i) (m.drop i) && eqL eqF l2 m2)
  | 0, i, 0, hn, hi, hk => absurd hk (by omega)
  | n + 1, i, 0, hn, hi, hk => absurd hk (by omega)
  | 0, i, k + 1, hn, hi, hk => by
    obtain rfl : i = l.length := by omega
    have hr := ref_fields a0 l l2 b0 m m2 hf (by omega) l2.length 0 k (by omega) (by omega) (by omega)
    rw [lodestarref05_Same.l0, if_neg (by omega), eqL_end eqV l m hlm, Bool.true_and]
    simpa using hr
  | n + 1, i, k + 1, hn, hi, hk => by
    have h1 : i < l.length := by omega
    have h3 : i < m.length := by omega
    have h4 := wt59_get l i h1
    have h5 := wt59_len l
    have h6 := wt59_le l i h1
    obtain ⟨k, rfl⟩ : ∃ q, k = q + 1 := ⟨k - 1, by omega⟩
    have ih : ∀ q, wt59 (l.drop (i + 1)) + l2.length + 2 ≤ q → lodestarref05_Same.l0 q (wrap64 ((i : Int) + 1)) a0 l l2 b0 m m2 = some (eqL eqV (l.drop (i + 1)) (m.drop (i + 1)) && eqL eqF l2 m2) := by
      intro q hq
      rw [succ_nat i l.length h1 (by omega)]
      exact ref_vecs a0 l l2 b0 m m2 hlm hf h h2 n (i + 1) q (by omega) (by omega) hq
    rw [lodestarref05_Same.l0, if_pos (by omega), if_pos (by omega), if_pos (by omega), rd59 l i h1, rd59 m i h3, eqL_drop eqV l m i h1 h3]
    by_cases he : (l[i].f0).toList = (m[i].f0).toList
    · rw [if_pos he, lodestarref05_Same.j2]
      by_cases hl : l[i].f1.length = m[i].f1.length
      · rw [if_neg (by simp; omega)]
        have hr := ref_ints (i : Int) a0 l l2 b0 m m2 l[i].f0 l[i].f1 m[i].f0 m[i].f1 hl (by omega) _ _ ih l[i].f1.length 0 k (by omega) (by omega) (by omega)
        have e0 : ((0 : Nat) : Int) = 0 := rfl
        rw [e0] at hr
        rw [hr]
        simp [eqV, he, Bool.and_assoc]
      · rw [if_pos (by simp; omega)]
        simp [eqV, eqL_len eqI _ _ hl]
    · rw [if_neg he, lodestarref05_Same.j2, if_pos rfl]
      simp [eqV, he]
theorem ref_same_eq (a0 : Int) (l1 : List S59) (l2 : List S61) (b0 : Int) (m1 : List S59) (m2 : List S61) (h1 : wt59 l1 ≤ 1099511627776) (h2 : l2.length ≤ 1099511627776) (k : Nat) (hk : wt59 l1 + l2.length + 4 ≤ k) :
    lodestarref05_Same.f k a0 l1 l2 b0 m1 m2 = some (eqP a0 l1 l2 b0 m1 m2) := by
  obtain ⟨k, rfl⟩ : ∃ q, k = q + 1 := ⟨k - 1, by omega⟩
  unfold lodestarref05_Same.f eqP
  by_cases h : a0 = b0
  · rw [if_pos h]
    by_cases hl : l1.length = m1.length
    · rw [if_pos (by omega), lodestarref05_Same.j0]
      by_cases hf : l2.length = m2.length
      · rw [if_neg (by simp; omega)]
        have hr := ref_vecs a0 l1 l2 b0 m1 m2 hl hf h1 h2 l1.length 0 k (by omega) (by omega) (by simp; omega)
        have e0 : ((0 : Nat) : Int) = 0 := rfl
        rw [e0] at hr
        rw [hr]
        simp [h, Bool.and_comm]
      · rw [if_pos (by simp; omega)]
        simp [eqL_len eqF _ _ hf]
    · rw [if_neg (by omega), lodestarref05_Same.j0, if_pos rfl]
      simp [eqL_len eqV _ _ hl]
  · rw [if_neg h, lodestarref05_Same.j0, if_pos rfl]
    simp [h]

theorem ref_same_fit (a0 : Int) (l1 : List S59) (l2 : List S61) (b0 : Int) (m1 : List S59) (m2 : List S61) (h : Fit l1 l2) (k : Nat) (hk : 100000000 ≤ k) : lodestarref05_Same.f k a0 l1 l2 b0 m1 m2 = some (eqP a0 l1 l2 b0 m1 m2) := by
  have h1 := h.w
  have h2 := h.n
  exact ref_same_eq a0 l1 l2 b0 m1 m2 (by omega) (by omega) k (by omega)
theorem same_ev (a0 : Int) (l1 : List S59) (l2 : List S61) (h : Fit l1 l2) : Ev (fun k => lodestarref05_Same.f k a0 l1 l2 a0 l1 l2) true := ⟨100000000, fun k hk => by
  have e2 : eqP a0 l1 l2 a0 l1 l2 = true := (eqP_iff ..).2 ⟨rfl, rfl, rfl⟩
  have e := ref_same_fit a0 l1 l2 a0 l1 l2 h k hk
  rw [e2] at e
  exact e⟩
end Go.Proofs.YtbeljekpknpadaaDoor.PPayUL
