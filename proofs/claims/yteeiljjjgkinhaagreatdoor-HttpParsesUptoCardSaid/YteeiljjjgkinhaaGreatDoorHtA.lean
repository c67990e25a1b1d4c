import Derived.Test.YteeiljjjgkinhaaGreatDoorPHttpFx15
import Derived.Lib.ItoaNum
namespace Go.Proofs.YteeiljjjgkinhaaGreatDoor.PHttpFL
open Go.RowKit Go.Proofs.YteeiljjjgkinhaaGreatDoor.PHttpF Go.Proofs.YteeiljjjgkinhaaGreatDoorW.PrintWords Go.Proofs.YteeiljjjgkinhaaGreatDoorW.PrintLast Go.Proofs.YteeiljjjgkinhaaGreatDoorW.PrintMore
set_option linter.unusedVariables false
set_option linter.unusedSimpArgs false

theorem wrap_small (i : Int) (h0 : -9223372036854775808 ≤ i) (h1 : i ≤ 9223372036854775807) : wrap64 i = i := by
  unfold wrap64
  omega
theorem mono_add {α : Type} {f : Nat → Option α} (hm : ∀ k, LeO (f k) (f (k + 1))) {k0 : Nat} {r : α} (h : f k0 = some r) : ∀ k, k0 ≤ k → f k = some r := by
  intro k hk
  obtain ⟨d, rfl⟩ := Nat.exists_eq_add_of_le hk
  clear hk
  induction d with
  | zero => exact h
  | succ d ih => exact hm (k0 + d) _ ih

/-! ### the numerals -/
theorem digit_str (u : Nat) : strOfNums [(wrap64 (48 + Int.tmod (u : Int) 10)) % 256] = (⟨#[UInt8.ofNat (48 + u % 10)]⟩ : ByteArray) := by
  have e : Int.tmod (u : Int) 10 = ((u % 10 : Nat) : Int) := by
    rw [Int.tmod_eq_emod_of_nonneg (by omega)]
    omega
  rw [e, wrap_small _ (by omega) (by omega)]
  unfold strOfNums
  have e2 : ((48 + ((u % 10 : Nat) : Int)) % 256).toNat = 48 + u % 10 := by omega
  simp only [List.map_cons, List.map_nil, e2]
theorem app_data (a b : List UInt8) : (⟨a.toArray⟩ ++ ⟨b.toArray⟩ : ByteArray) = ⟨(a ++ b).toArray⟩ := by
  apply ByteArray.ext
  simp [ByteArray.data_append]
theorem size_mk (l : List UInt8) : (⟨l.toArray⟩ : ByteArray).size = l.length := by simp [ByteArray.size]
theorem nDigits_le (u : Nat) : Lib.nDigits u ≤ u + 1 := by
  induction u using Nat.strongRecOn with
  | _ u ih =>
    by_cases h : u < 10
    · rw [Lib.nDigits_small h]; omega
    · rw [Lib.nDigits_big h]
      have := ih (u / 10) (by omega)
      omega
theorem nDigits_le64 (u : Nat) (h : u < 10000000000000000000) : Lib.nDigits u ≤ 19 := by
  by_cases hu : u = 0
  · subst hu; rw [Lib.nDigits_small (by omega)]; omega
  · have hk : ∀ k, k ≤ 18 → 10 ^ k ≤ u → u < 10 ^ (k + 1) → Lib.nDigits u ≤ 19 := fun k hk h1 h2 => by
      rw [Lib.nDigits_unique k u h1 h2]; omega
    rcases Nat.lt_or_ge u (10 ^ 9) with h9 | h9
    · have := Lib.lt_pow_nDigits u
      rcases Nat.lt_or_ge (Lib.nDigits u) 20 with h' | h'
      · omega
      · exfalso
        have hb : ∀ v : Nat, v < 10 ^ 9 → Lib.nDigits v ≤ 10 := by
          intro v
          induction v using Nat.strongRecOn with
          | _ v ih =>
            intro hv
            by_cases h1 : v < 10
            · rw [Lib.nDigits_small h1]; omega
            · by_cases h2 : v < 100
              · rw [Lib.nDigits_unique 1 v (by omega) (by omega)]; omega
              by_cases h3 : v < 1000
              · rw [Lib.nDigits_unique 2 v (by omega) (by omega)]; omega
              by_cases h4 : v < 10000
              · rw [Lib.nDigits_unique 3 v (by omega) (by omega)]; omega
              by_cases h5 : v < 100000
              · rw [Lib.nDigits_unique 4 v (by omega) (by omega)]; omega
              by_cases h6 : v < 1000000
              · rw [Lib.nDigits_unique 5 v (by omega) (by omega)]; omega
              by_cases h7 : v < 10000000
              · rw [Lib.nDigits_unique 6 v (by omega) (by omega)]; omega
              by_cases h8 : v < 100000000
              · rw [Lib.nDigits_unique 7 v (by omega) (by omega)]; omega
              · rw [Lib.nDigits_unique 8 v (by omega) (by omega)]; omega
        have := hb u h9
        omega
    · rcases Nat.lt_or_ge u (10 ^ 10) with g | g
      · exact hk 9 (by omega) h9 g
      rcases Nat.lt_or_ge u (10 ^ 11) with g1 | g1
      · exact hk 10 (by omega) g g1
      rcases Nat.lt_or_ge u (10 ^ 12) with g2 | g2
      · exact hk 11 (by omega) g1 g2
      rcases Nat.lt_or_ge u (10 ^ 13) with g3 | g3
      · exact hk 12 (by omega) g2 g3
      rcases Nat.lt_or_ge u (10 ^ 14) with g4 | g4
      · exact hk 13 (by omega) g3 g4
      rcases Nat.lt_or_ge u (10 ^ 15) with g5 | g5
      · exact hk 14 (by omega) g4 g5
      rcases Nat.lt_or_ge u (10 ^ 16) with g6 | g6
      · exact hk 15 (by omega) g5 g6
      rcases Nat.lt_or_ge u (10 ^ 17) with g7 | g7
      · exact hk 16 (by omega) g6 g7
      rcases Nat.lt_or_ge u (10 ^ 18) with g8 | g8
      · exact hk 17 (by omega) g7 g8
      · exact hk 18 (by omega) g8 (by omega)
theorem itoa_len (n : Int) (h0 : -9223372036854775808 ≤ n) (h1 : n ≤ 9223372036854775807) : (Lib.itoa n).length ≤ 20 := by
  unfold Lib.itoa
  split
  · rw [List.length_cons, Lib.decDigits_length]; have := nDigits_le64 n.natAbs (by omega); omega
  · rw [Lib.decDigits_length]; have := nDigits_le64 n.toNat (by omega); omega
/-! ### the same functions -/
theorem same_method : ∀ k s i, lodestarref04_method.l0 k s i = http_method.l0 k s i
  | 0, _, _ => rfl
  | k + 1, s, i => by
    unfold lodestarref04_method.l0 http_method.l0
    rw [same_method k]
theorem same_path : ∀ k s i, lodestarref04_path.l0 k s i = http_path.l0 k s i
  | 0, _, _ => rfl
  | k + 1, s, i => by
    unfold lodestarref04_path.l0 http_path.l0
    rw [same_path k]
/-! ### the first examples -/
theorem sure64 : lodestarlaw04_sure.f 64 = some true := by kernel_rfl
theorem sure_eq : ∀ (k : Nat), 64 ≤ k → lodestarlaw04_sure.f k = some true := mono_add (fun k => lodestarlaw04_sure.mono k) sure64
end Go.Proofs.YteeiljjjgkinhaaGreatDoor.PHttpFL
