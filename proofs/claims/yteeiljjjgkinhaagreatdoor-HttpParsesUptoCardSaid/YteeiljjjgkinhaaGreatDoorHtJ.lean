import Derived.Test.YteeiljjjgkinhaaGreatDoorHtC
import Derived.Lib.SlTrimSet
import Derived.Lib.AtoiAllCases
namespace Go.Proofs.YteeiljjjgkinhaaGreatDoor.HtLists
open Go.Lib
set_option linter.unusedVariables false
set_option linter.unusedSimpArgs false

/-! ### blanks at both ends -/
def rdrop (p : UInt8 → Bool) (l : List UInt8) : List UInt8 := (l.reverse.dropWhile p).reverse
theorem dropWhile_snoc (p : UInt8 → Bool) : ∀ (l : List UInt8) (x : UInt8), (l ++ [x]).dropWhile p = if l.dropWhile p = [] then [x].dropWhile p else l.dropWhile p ++ [x]
  | [], x => by simp
  | y :: l, x => by
    by_cases h : p y = true
    · have ih := dropWhile_snoc p l x
      have e : (y :: l).dropWhile p = l.dropWhile p := by simp [List.dropWhile_cons, h]
      have e2 : (y :: (l ++ [x])).dropWhile p = (l ++ [x]).dropWhile p := by simp [List.dropWhile_cons, h]
      rw [List.cons_append, e2, e]
      exact ih
    · simp [List.dropWhile_cons, h]
theorem rdrop_cons (p : UInt8 → Bool) (x : UInt8) (l : List UInt8) : rdrop p (x :: l) = if rdrop p l = [] then (if p x = true then [] else [x]) else x :: rdrop p l := by
  unfold rdrop
  rw [List.reverse_cons, dropWhile_snoc]
  by_cases h : l.reverse.dropWhile p = []
  · rw [if_pos h, if_pos (by rw [h]; rfl)]
    by_cases hx : p x = true
    · simp [hx]
    · simp [hx]
  · rw [if_neg h, if_neg (by simpa using h)]
    simp
theorem trim_comm (p : UInt8 → Bool) : ∀ l : List UInt8, (rdrop p l).dropWhile p = rdrop p (l.dropWhile p)
  | [] => rfl
  | x :: l => by
    by_cases hx : p x = true
    · have e1 : (x :: l).dropWhile p = l.dropWhile p := by simp [List.dropWhile_cons, hx]
      rw [rdrop_cons, e1, ← trim_comm p l]
      by_cases h : rdrop p l = []
      · rw [if_pos h, if_pos hx, h]
      · rw [if_neg h]
        simp [List.dropWhile_cons, hx]
    · have e1 : (x :: l).dropWhile p = x :: l := by simp [List.dropWhile_cons, hx]
      rw [e1, rdrop_cons]
      by_cases h : rdrop p l = []
      · rw [if_pos h, if_neg hx]
        simp [List.dropWhile_cons, hx]
      · rw [if_neg h]
        simp [List.dropWhile_cons, hx]
def blankB (c : UInt8) : Bool := ([32, 9] : List UInt8).contains c
theorem trimS_blank (l : List UInt8) : trimS l [32, 9] = rdrop blankB (l.dropWhile blankB) := by
  rw [← trim_comm]
  rfl
theorem blank_iff (c : UInt8) : blankB c = true ↔ c = 32 ∨ c = 9 := by simp [blankB]

/-! ### digits -/
def valFrom (acc : Nat) (l : List UInt8) : Nat := l.foldl (fun a c => a * 10 + (c.toNat - 48)) acc
theorem valFrom_nil (acc : Nat) : valFrom acc [] = acc := List.foldl_nil
theorem valFrom_cons (acc : Nat) (c : UInt8) (r : List UInt8) : valFrom acc (c :: r) = valFrom (acc * 10 + (c.toNat - 48)) r := List.foldl_cons ..
theorem step_ge (acc d : Nat) : acc ≤ acc * 10 + d := by omega
theorem valFrom_ge (l : List UInt8) : ∀ acc : Nat, acc ≤ valFrom acc l := by
  induction l with
  | nil => intro acc; rw [valFrom_nil]; exact Nat.le_refl _
  | cons c r ih =>
    intro acc
    rw [valFrom_cons]
    exact Nat.le_trans (step_ge acc _) (ih (acc * 10 + (c.toNat - 48)))
theorem parse_digits : ∀ (l : List UInt8) (acc : Nat), acc < 18446744073709551616 → (∀ c ∈ l, 48 ≤ c.toNat ∧ c.toNat ≤ 57) → parseUint10 acc l = .ok (valFrom acc l) ∨ (parseUint10 acc l = .range ∧ 18446744073709551616 ≤ valFrom acc l)
  | [], acc, _, _ => .inl (by simp only [parseUint10, valFrom_nil])
  | c :: r, acc, ha, h => by
    have hc := h c (.head _)
    have hr : ∀ x ∈ r, 48 ≤ x.toNat ∧ x.toNat ≤ 57 := fun x hx => h x (.tail _ hx)
    have hg := valFrom_ge r (acc * 10 + (c.toNat - 48))
    simp only [parseUint10, valFrom_cons]
    obtain ⟨V, hV⟩ : ∃ V, valFrom (acc * 10 + (c.toNat - 48)) r = V := ⟨_, rfl⟩
    have ih := fun h => parse_digits r (acc * 10 + (c.toNat - 48)) h hr
    rw [hV] at hg ih ⊢
    rw [if_pos hc]
    by_cases h1 : 1844674407370955162 ≤ acc
    · rw [if_pos h1]
      exact .inr ⟨rfl, by omega⟩
    · rw [if_neg h1]
      by_cases h2 : 18446744073709551616 ≤ acc * 10 + (c.toNat - 48)
      · rw [if_pos h2]
        exact .inr ⟨rfl, by omega⟩
      · rw [if_neg h2]
        exact ih (by omega)
theorem atoi_digits (l : List UInt8) (hne : l ≠ []) (h : ∀ c ∈ l, 48 ≤ c.toNat ∧ c.toNat ≤ 57) : atoiAll l = .ok ((valFrom 0 l : Nat) : Int) ∨ (atoiAll l = .range ∧ 9223372036854775808 ≤ valFrom 0 l) := by
  cases l with
  | nil => exact absurd rfl hne
  | cons c r =>
    have hc := h c (.head _)
    rw [atoiAll_plain c r (by omega) (by omega)]
    unfold parseMag
    rw [if_neg (by simp)]
    obtain ⟨V, hV⟩ : ∃ V, valFrom 0 (c :: r) = V := ⟨_, rfl⟩
    have hpd := parse_digits (c :: r) 0 (by omega) h
    rw [hV] at hpd ⊢
    rcases hpd with e | ⟨e, hb⟩
    · rw [e]
      unfold signless
      simp only
      by_cases hb : 9223372036854775808 ≤ V
      · rw [if_pos hb]
        exact .inr ⟨rfl, hb⟩
      · rw [if_neg hb]
        exact .inl rfl
    · rw [e]
      exact .inr ⟨rfl, by omega⟩

/-! ### where a text stands in another one, from a place on -/
def FindAt (s t : List UInt8) (a : Nat) (r : Int) : Prop := (r = -1 ∧ ∀ j, a ≤ j → occAt s t j = false) ∨ ∃ i : Nat, r = (i : Int) ∧ a ≤ i ∧ i + t.length ≤ s.length ∧ occAt s t i = true ∧ ∀ j, a ≤ j → j < i → occAt s t j = false
theorem find_index {s t : List UInt8} {r : Int} (h : FindAt s t 0 r) : index s t = r := by
  rcases h with ⟨rfl, h⟩ | ⟨i, rfl, _, hi, ho, hn⟩
  · exact index_none fun j _ => h j (Nat.zero_le _)
  · exact index_first (by omega) ho fun j hj => hn j (Nat.zero_le _) hj
theorem occ_byte (s : List UInt8) (c : UInt8) (i : Nat) : occAt s [c] i = true ↔ s[i]? = some c := by
  unfold occAt
  constructor
  · intro h
    obtain ⟨t, ht⟩ := List.isPrefixOf_iff_prefix.1 h
    have : (s.drop i)[0]? = some c := by rw [← ht]; rfl
    rw [List.getElem?_drop, Nat.add_zero] at this
    exact this
  · intro h
    have hlt : i < s.length := (List.getElem?_eq_some_iff.1 h).1
    refine List.isPrefixOf_iff_prefix.2 ⟨s.drop (i + 1), ?_⟩
    rw [List.drop_eq_getElem_cons hlt, (List.getElem?_eq_some_iff.1 h).2]
    rfl
theorem find_byte {s : List UInt8} {c : UInt8} {r : Int} (h : FindAt s [c] 0 r) : 0 ≤ r ↔ c ∈ s := by
  rcases h with ⟨rfl, h⟩ | ⟨i, rfl, _, hi, ho, hn⟩
  · refine ⟨fun h0 => by omega, fun hm => ?_⟩
    obtain ⟨j, hj⟩ := List.mem_iff_getElem?.1 hm
    have h1 := h j (Nat.zero_le _)
    rw [(occ_byte s c j).2 hj] at h1
    cases h1
  · exact ⟨fun _ => List.mem_of_getElem? ((occ_byte s c i).1 ho), fun _ => by omega⟩
/-- a text cut at its first byte c -/
theorem cut_at {s : List UInt8} {c : UInt8} {a i : Nat} (ha : a ≤ i) (ho : occAt s [c] i = true) (hn : ∀ j, a ≤ j → j < i → occAt s [c] j = false) : s.drop a = (s.drop a).take (i - a) ++ ([c] ++ s.drop (i + 1)) ∧ c ∉ (s.drop a).take (i - a) := by
  have hi := (occ_byte s c i).1 ho
  have hlt : i < s.length := (List.getElem?_eq_some_iff.1 hi).1
  constructor
  · have e : (s.drop a).drop (i - a) = [c] ++ s.drop (i + 1) := by
      rw [List.drop_drop, show a + (i - a) = i by omega, List.drop_eq_getElem_cons hlt, (List.getElem?_eq_some_iff.1 hi).2]
      rfl
    rw [← e, List.take_append_drop]
  · intro hm
    obtain ⟨j, hj⟩ := List.mem_iff_getElem?.1 hm
    have hlt2 : j < i - a := by
      have := (List.getElem?_eq_some_iff.1 hj).1
      simp at this
      omega
    rw [List.getElem?_take, if_pos hlt2, List.getElem?_drop] at hj
    have h1 := hn (a + j) (by omega) (by omega)
    rw [(occ_byte s c (a + j)).2 hj] at h1
    cases h1
end Go.Proofs.YteeiljjjgkinhaaGreatDoor.HtLists
