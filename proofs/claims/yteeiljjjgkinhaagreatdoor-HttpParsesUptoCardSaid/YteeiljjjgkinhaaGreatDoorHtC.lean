import Derived.Lib.SplitLaws
import Derived.Lib.CountLaws
import Derived.Lib.CutLaws
import Derived.Lib.IndexMore
import Derived.Lib.IndexLaws
import Derived.Lib.IndexAny
import Derived.Lib.SlTrimSet
import Derived.Lib.ItoaNum
import Derived.Lib.AtoiAll
import Derived.Lib.AtoiAllCases
namespace Go.Proofs.YteeiljjjgkinhaaGreatDoor.HtLists
open Go.Lib

/-! ### places of a text in another one -/
theorem occ_get {s sub : List UInt8} {i : Nat} (h : occAt s sub i = true) : ∀ j, j < sub.length → s[i + j]? = sub[j]? := by
  intro j hj
  unfold occAt at h
  obtain ⟨t, ht⟩ := List.isPrefixOf_iff_prefix.1 h
  have e : (s.drop i)[j]? = s[i + j]? := by rw [List.getElem?_drop]
  rw [← e, ← ht, List.getElem?_append_left hj]
theorem occ_at (X sub rest : List UInt8) : occAt (X ++ (sub ++ rest)) sub X.length = true := by
  unfold occAt
  rw [List.drop_left]
  exact List.isPrefixOf_iff_prefix.2 ⟨rest, rfl⟩
theorem index_at (X sub rest : List UInt8) (h : ∀ j, j < X.length → occAt (X ++ (sub ++ rest)) sub j = false) : index (X ++ (sub ++ rest)) sub = (X.length : Int) :=
  index_first (by simp) (occ_at X sub rest) h
theorem get_left {X Y : List UInt8} {j : Nat} (h : j < X.length) : (X ++ Y)[j]? = X[j]? := List.getElem?_append_left h
theorem noocc_byte {X Y : List UInt8} {c : UInt8} {tl : List UInt8} (hc : c ∉ X) {j : Nat} (hj : j < X.length) : occAt (X ++ Y) (c :: tl) j = false := by
  cases h : occAt (X ++ Y) (c :: tl) j with
  | false => rfl
  | true =>
    exfalso
    have h0 := occ_get h 0 (by simp)
    rw [Nat.add_zero, get_left hj] at h0
    exact hc (List.mem_of_getElem? h0)
theorem index_byte (X rest : List UInt8) (c : UInt8) (tl : List UInt8) (hc : c ∉ X) : index (X ++ ((c :: tl) ++ rest)) (c :: tl) = (X.length : Int) := index_at X (c :: tl) rest (fun _ hj => noocc_byte hc hj)
theorem index_miss (X : List UInt8) (c : UInt8) (tl : List UInt8) (hc : c ∉ X) : index X (c :: tl) = -1 := by
  refine index_none fun j hj => ?_
  cases h : occAt X (c :: tl) j with
  | false => rfl
  | true =>
    exfalso
    have h0 := occ_get h 0 (by simp)
    rw [Nat.add_zero] at h0
    exact hc (List.mem_of_getElem? h0)

/-! ### splits -/
def spl (sep s : List UInt8) : List (List UInt8) := splitK sep 0 (count s sep) s
theorem spl_hit (sep s : List UInt8) (i : Nat) (hs : sep ≠ []) (h : index s sep = (i : Int)) : spl sep s = s.take i :: spl sep (s.drop (i + sep.length)) := by
  unfold spl
  rw [count_hit hs h, Nat.add_comm]
  simp only [splitK, h]
  have e : ((i : Int) == -1) = false := beq_eq_false_iff_ne.2 (by omega)
  rw [e]
  simp
theorem spl_miss (sep s : List UInt8) (h : index s sep = -1) : spl sep s = [s] := by
  unfold spl
  rw [count_miss h]
  rfl
theorem spl_line (X J : List UInt8) (c : UInt8) (tl : List UInt8) (hc : c ∉ X) : spl (c :: tl) (X ++ ((c :: tl) ++ J)) = X :: spl (c :: tl) J := by
  rw [spl_hit (c :: tl) _ X.length (by simp) (index_byte X J c tl hc)]
  congr 1
  · simp
  · congr 1
    rw [← List.append_assoc]
    have : X.length + (c :: tl).length = (X ++ (c :: tl)).length := by simp
    rw [this, List.drop_left]
theorem spl_last (X : List UInt8) (c : UInt8) (tl : List UInt8) (hc : c ∉ X) : spl (c :: tl) X = [X] := spl_miss _ _ (index_miss X c tl hc)
theorem cut_hit (X J : List UInt8) (c : UInt8) (hc : c ∉ X) : cut (X ++ ([c] ++ J)) [c] = (X, J, true) := by
  unfold cut
  rw [index_byte X J c [] hc, if_pos (by omega)]
  simp

/-! ### where a head ends -/
def crlf : List UInt8 := [13, 10]
def crlf2 : List UInt8 := [13, 10, 13, 10]
/-- no carriage return stands two places before another one, nor at the end -/
def CrOk (X : List UInt8) : Prop := ∀ j : Nat, X[j]? = some 13 → ∃ b, X[j + 2]? = some b ∧ b ≠ 13
theorem good_line {X : List UInt8} (h : (13 : UInt8) ∉ X) : CrOk X := fun _ hj => absurd (List.mem_of_getElem? hj) h
theorem good_cons {X J : List UInt8} (h : (13 : UInt8) ∉ X) (hJ : CrOk J) (h0 : ∃ b, J[0]? = some b ∧ b ≠ 13) : CrOk (X ++ (crlf ++ J)) := by
  intro j hj
  rcases Nat.lt_or_ge j X.length with h1 | h1
  · rw [get_left h1] at hj
    exact absurd (List.mem_of_getElem? hj) h
  · rw [List.getElem?_append_right h1] at hj
    obtain ⟨d, rfl⟩ := Nat.exists_eq_add_of_le h1
    rw [Nat.add_sub_cancel_left] at hj
    rw [List.getElem?_append_right (by omega), show X.length + d + 2 - X.length = d + 2 by omega]
    have e : (crlf ++ J)[d + 2]? = J[d]? := by simp [crlf]
    rw [e]
    match d, hj with
    | 0, _ => exact h0
    | 1, hj => simp [crlf] at hj
    | d + 2, hj =>
      have e2 : (crlf ++ J)[d + 2]? = J[d]? := by simp [crlf]
      rw [e2] at hj
      obtain ⟨b, hb, hn⟩ := hJ d hj
      exact ⟨b, hb, hn⟩
theorem index_end {X : List UInt8} (h : CrOk X) (rest : List UInt8) : index (X ++ (crlf2 ++ rest)) crlf2 = (X.length : Int) := by
  refine index_at X crlf2 rest fun j hj => ?_
  cases ho : occAt (X ++ (crlf2 ++ rest)) crlf2 j with
  | false => rfl
  | true =>
    exfalso
    have h0 := occ_get ho 0 (by simp [crlf2])
    have h2 := occ_get ho 2 (by simp [crlf2])
    rw [Nat.add_zero, get_left hj] at h0
    obtain ⟨b, hb, hn⟩ := h j (by rw [h0]; rfl)
    have hlt : j + 2 < X.length := (List.getElem?_eq_some_iff.1 hb).1
    rw [get_left hlt, hb] at h2
    simp [crlf2] at h2
    exact hn h2
theorem index_torn {X : List UInt8} (h : CrOk X) : index (X ++ [13, 10, 13]) crlf2 = -1 := by
  refine index_none fun j hj => ?_
  cases ho : occAt (X ++ [13, 10, 13]) crlf2 j with
  | false => rfl
  | true =>
    exfalso
    have h0 := occ_get ho 0 (by simp [crlf2])
    have h2 := occ_get ho 2 (by simp [crlf2])
    have h3 := occ_get ho 3 (by simp [crlf2])
    have hlt3 : j + 3 < (X ++ [13, 10, 13]).length := by
      have e : (X ++ [13, 10, 13])[j + 3]? = some 10 := by rw [h3]; rfl
      exact (List.getElem?_eq_some_iff.1 e).1
    have hj : j < X.length := by simp at hlt3; omega
    rw [Nat.add_zero, get_left hj] at h0
    obtain ⟨b, hb, hn⟩ := h j (by rw [h0]; rfl)
    have hlt : j + 2 < X.length := (List.getElem?_eq_some_iff.1 hb).1
    rw [get_left hlt, hb] at h2
    simp [crlf2] at h2
    exact hn h2

/-! ### numerals -/
theorem dec_digits (u : Nat) : ∀ b ∈ decDigits u, 48 ≤ b.toNat ∧ b.toNat ≤ 57 := by
  induction u using Nat.strongRecOn with
  | _ u ih =>
    intro b hb
    rw [decDigits] at hb
    split at hb
    · simp at hb
      subst hb
      simp
      omega
    · rcases List.mem_append.1 hb with h | h
      · exact ih (u / 10) (by omega) b h
      · simp at h
        subst h
        simp
        omega
theorem dec_parse (u : Nat) : u < 9223372036854775808 → ∀ r, parseUint10 0 (decDigits u ++ r) = parseUint10 u r := by
  induction u using Nat.strongRecOn with
  | _ u ih =>
    intro hu r
    rw [decDigits]
    split
    · rename_i h
      have e : (UInt8.ofNat (48 + u)).toNat = 48 + u := by simp; omega
      simp only [List.cons_append, List.nil_append, parseUint10, e]
      rw [if_pos (by omega), if_neg (by omega), if_neg (by omega)]
      congr 1
      omega
    · rename_i h
      rw [List.append_assoc, ih (u / 10) (by omega) (by omega)]
      have e : (UInt8.ofNat (48 + u % 10)).toNat = 48 + u % 10 := by simp; omega
      simp only [List.cons_append, List.nil_append, parseUint10, e]
      rw [if_pos (by omega), if_neg (by omega), if_neg (by omega)]
      congr 1
      omega
theorem dec_ne (u : Nat) : decDigits u ≠ [] := by
  intro h
  have := decDigits_length u
  rw [h] at this
  have h1 := nDigits_pos u
  simp at this
  omega
theorem dec_head (u : Nat) (h : 1 < (decDigits u).length) : (decDigits u)[0]? ≠ some 48 := by
  induction u using Nat.strongRecOn with
  | _ u ih =>
    by_cases h1 : u < 10
    · rw [decDigits_one h1] at h; simp at h
    · by_cases h2 : u < 100
      · rw [decDigits_two h1 h2]
        simp
        intro e
        have := congrArg UInt8.toNat e
        simp at this
        omega
      · rw [decDigits, dif_neg h1]
        have hl : 1 < (decDigits (u / 10)).length := by
          rw [decDigits, dif_neg (by omega), List.length_append]
          have h3 := decDigits_length (u / 10 / 10)
          have h4 := nDigits_pos (u / 10 / 10)
          simp
          omega
        rw [get_left (by omega)]
        exact ih (u / 10) (by omega) hl
theorem atoi_dec (u : Nat) (hu : u < 9223372036854775808) : atoiAll (decDigits u) = .ok (u : Int) := by
  have hp := dec_parse u hu []
  rw [List.append_nil] at hp
  have hd := dec_digits u
  have hne := dec_ne u
  cases hl : decDigits u with
  | nil => exact absurd hl hne
  | cons c r =>
    have hc := hd c (by rw [hl]; exact .head _)
    rw [atoiAll_plain c r (by omega) (by omega), ← hl]
    unfold parseMag
    rw [if_neg hne, hp]
    simp only [parseUint10]
    unfold signless
    simp only
    rw [if_neg (by omega)]
end Go.Proofs.YteeiljjjgkinhaaGreatDoor.HtLists
