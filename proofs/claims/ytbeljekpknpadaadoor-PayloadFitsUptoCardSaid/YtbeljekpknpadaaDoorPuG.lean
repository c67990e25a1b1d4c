/- A copy; what both laws lean on. -/
import Derived.Test.YtbeljekpknpadaaDoorPPayUx14
import Derived.Test.YtbeljekpknpadaaDoorPPayUx4
import Derived.Test.YtbeljekpknpadaaDoorPPayUx8
import Derived.Test.YtbeljekpknpadaaDoorPPayUx9
import Derived.Test.YtbeljekpknpadaaDoorPuV
import Derived.Test.YtbeljekpknpadaaDoorPuA0
namespace Go.Proofs.YtbeljekpknpadaaDoor.PPayUL
open Go.RowKit Go.Proofs.YtbeljekpknpadaaDoor.PPayU Go.Proofs.YtbeljekpknpadaaDoorW.PrintWords Go.Proofs.YtbeljekpknpadaaDoorW.PrintLast Go.Proofs.YtbeljekpknpadaaDoorW.PrintMore
set_option linter.unusedVariables false
set_option linter.unusedSimpArgs false

/-! ### a copy -/
theorem copy_loop (a0 : Int) (l : List S59) (l2 : List S61) (b0 : Int) (m2 : List S61) (h : wt59 l ≤ 1099511627776) : ∀ (n i k : Nat) , l.length - i = n → i ≤ l.length → n + 1 ≤ k →
    lodestarref05_Copy.l0 k (i : Int) a0 l l2 b0 (l.take i) m2 = some (b0, l, m2)
  | 0, i, k + 1, hn, hi, hk => by
    obtain rfl : i = l.length := by omega
    rw [lodestarref05_Copy.l0, if_neg (by omega), List.take_of_length_le (Nat.le_refl _)]
  | n + 1, i, k + 1, hn, hi, hk => by
    have h1 : i < l.length := by omega
    have h4 := wt59_get l i h1
    have h5 := wt59_len l
    rw [lodestarref05_Copy.l0, if_pos (by omega), if_pos (by omega), rd59 l i h1, if_pos (by simp; omega), if_pos (by simp; omega), List.nil_append, succ_nat i l.length h1 (by omega), ← List.take_succ_eq_append_getElem h1]
    exact copy_loop a0 l l2 b0 m2 h n (i + 1) k (by omega) (by omega) (by omega)
theorem copy_eq (a0 : Int) (l1 : List S59) (l2 : List S61) (h1 : wt59 l1 ≤ 1099511627776) (h2 : l2.length ≤ 1099511627776) (k : Nat) (hk : l1.length + 1 ≤ k) : lodestarref05_Copy.f k a0 l1 l2 = some (a0, l1, l2) := by
  unfold lodestarref05_Copy.f
  rw [if_pos (by simp; omega), List.nil_append]
  have := copy_loop a0 l1 l2 a0 l2 h1 l1.length 0 k (by omega) (by omega) hk
  simpa using this
theorem copy_ev (a0 : Int) (l1 : List S59) (l2 : List S61) (h : Fit l1 l2) : Ev (fun k => lodestarref05_Copy.f k a0 l1 l2) (a0, l1, l2) := by
  have h1 := h.w
  have h2 := h.n
  exact ⟨l1.length + 1, fun k hk => copy_eq a0 l1 l2 (by omega) (by omega) k hk⟩
theorem awake_ev : Ev (fun k => lodestarlaw05_awake.f k) true := ⟨64, fun k hk => awake_eq k hk⟩
end Go.Proofs.YtbeljekpknpadaaDoor.PPayUL
