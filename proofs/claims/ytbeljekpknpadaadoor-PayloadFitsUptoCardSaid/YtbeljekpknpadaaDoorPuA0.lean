import Derived.Test.YtbeljekpknpadaaDoorPPayUx9
namespace Go.Proofs.YtbeljekpknpadaaDoor.PPayUL
open Go.RowKit Go.Proofs.YtbeljekpknpadaaDoor.PPayU Go.Proofs.YtbeljekpknpadaaDoorW.PrintWords Go.Proofs.YtbeljekpknpadaaDoorW.PrintLast Go.Proofs.YtbeljekpknpadaaDoorW.PrintMore
set_option linter.unusedVariables false
set_option linter.unusedSimpArgs false

theorem wrap_small (i : Int) (h0 : -9223372036854775808 ≤ i) (h1 : i ≤ 9223372036854775807) : wrap64 i = i := by
  unfold wrap64
  omega
theorem wrap_succ_nat (i n : Nat) (h : i < n) (hn : n ≤ 4611686018427387904) : wrap64 ((i : Int) + 1) = ((i + 1 : Nat) : Int) := by
  unfold wrap64
  omega
/-! ### the first example -/
theorem awake64 : lodestarlaw05_awake.f 64 = some true := by kernel_rfl
theorem awake_eq : ∀ (k : Nat), 64 ≤ k → lodestarlaw05_awake.f k = some true := by
  intro k hk
  obtain ⟨d, rfl⟩ := Nat.exists_eq_add_of_le hk
  clear hk
  induction d with
  | zero => exact awake64
  | succ d ih => exact lodestarlaw05_awake.mono (64 + d) _ ih

end Go.Proofs.YtbeljekpknpadaaDoor.PPayUL
