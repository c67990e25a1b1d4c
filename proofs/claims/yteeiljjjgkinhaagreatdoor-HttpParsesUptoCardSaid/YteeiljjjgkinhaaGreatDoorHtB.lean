import Derived.Test.YteeiljjjgkinhaaGreatDoorHtA
namespace Go.Proofs.YteeiljjjgkinhaaGreatDoor.PHttpFL
open Go.RowKit Go.Proofs.YteeiljjjgkinhaaGreatDoor.PHttpF Go.Proofs.YteeiljjjgkinhaaGreatDoorW.PrintWords Go.Proofs.YteeiljjjgkinhaaGreatDoorW.PrintLast Go.Proofs.YteeiljjjgkinhaaGreatDoorW.PrintMore
set_option linter.unusedVariables false
set_option linter.unusedSimpArgs false

theorem toList_nil (s : ByteArray) : s.toList = [] ↔ s.size = 0 := by
  rw [Lib.toList_data]
  constructor
  · intro h
    show s.data.size = 0
    rw [← Array.length_toList, h]; rfl
  · intro h
    have h' : s.data.toList.length = 0 := by rw [Array.length_toList]; exact h
    exact List.length_eq_zero_iff.1 h'
/-! ### methods and paths -/
def MethOk (s : ByteArray) : Prop := (∀ j : Nat, j < s.size → 65 ≤ bt s j ∧ bt s j ≤ 90) ∧ 1 ≤ s.size ∧ s.size ≤ 16
def PathOk (s : ByteArray) : Prop := (∀ j : Nat, j < s.size → 33 ≤ bt s j ∧ bt s j ≤ 126) ∧ 1 ≤ s.size ∧ bt s 0 = 47
theorem method_l (s : ByteArray) (hs : s.size ≤ 4611686018427387904) : ∀ n i, i + n = s.size → ∃ b, http_method.l0 (n + 1) s (i : Int) = some b ∧ (b = true ↔ (∀ j : Nat, i ≤ j → j < s.size → 65 ≤ bt s j ∧ bt s j ≤ 90) ∧ 1 ≤ s.size ∧ s.size ≤ 16)
  | 0, i, hi => by
    simp only [http_method.l0]
    rw [if_neg (by omega)]
    by_cases h : (s.size : Int) ≥ 1
    · rw [if_pos h]
      refine ⟨_, rfl, ?_⟩
      rw [decide_eq_true_eq]
      exact ⟨fun g => ⟨fun j h1 h2 => by omega, by omega, by omega⟩, fun g => by omega⟩
    · rw [if_neg h]
      exact ⟨_, rfl, ⟨fun g => (by cases g), fun g => by omega⟩⟩
  | n + 1, i, hi => by
    rw [http_method.l0]
    rw [if_pos (by omega), if_pos (by omega)]
    by_cases h1 : bt s i < 65
    · rw [if_pos h1]
      exact ⟨_, rfl, ⟨fun g => (by cases g), fun g => by have := g.1 i (Nat.le_refl _) (by omega); omega⟩⟩
    · rw [if_neg h1]
      by_cases h2 : bt s i > 90
      · rw [if_pos h2]
        exact ⟨_, rfl, ⟨fun g => (by cases g), fun g => by have := g.1 i (Nat.le_refl _) (by omega); omega⟩⟩
      · rw [if_neg h2, wrap_small _ (by omega) (by omega)]
        obtain ⟨b, hb, hiff⟩ := method_l s hs n (i + 1) (by omega)
        refine ⟨b, by rw [show ((i : Int) + 1) = ((i + 1 : Nat) : Int) by omega]; exact hb, hiff.trans ⟨fun g => ⟨fun j g1 g2 => ?_, g.2⟩, fun g => ⟨fun j g1 g2 => g.1 j (by omega) g2, g.2⟩⟩⟩
        by_cases e : j = i
        · subst e; omega
        · exact g.1 j (by omega) g2
theorem method_ev (s : ByteArray) (hs : s.size ≤ 4611686018427387904) : ∃ b, (∀ k, s.size + 1 ≤ k → http_method.f k s = some b) ∧ (b = true ↔ MethOk s) := by
  obtain ⟨b, hb, hiff⟩ := method_l s hs s.size 0 (by omega)
  refine ⟨b, mono_add (fun k => http_method.mono s k) hb, hiff.trans ⟨fun g => ⟨fun j h => g.1 j (by omega) h, g.2⟩, fun g => ⟨fun j _ h => g.1 j h, g.2⟩⟩⟩
theorem path_l (s : ByteArray) (hs : s.size ≤ 4611686018427387904) : ∀ n i, i + n = s.size → ∃ b, http_path.l0 (n + 1) s (i : Int) = some b ∧ (b = true ↔ (∀ j : Nat, i ≤ j → j < s.size → 33 ≤ bt s j ∧ bt s j ≤ 126) ∧ 1 ≤ s.size ∧ bt s 0 = 47)
  | 0, i, hi => by
    simp only [http_path.l0]
    rw [if_neg (by omega)]
    by_cases h : s.toList = []
    · rw [if_pos h]
      have h0 := (toList_nil s).1 h
      exact ⟨_, rfl, ⟨fun g => (by cases g), fun g => by omega⟩⟩
    · rw [if_neg h]
      have h0 : s.size ≠ 0 := fun e => h ((toList_nil s).2 e)
      rw [if_pos (by omega)]
      refine ⟨_, rfl, ?_⟩
      rw [beq_iff_eq]
      exact ⟨fun g => ⟨fun j h1 h2 => by omega, by omega, g⟩, fun g => g.2.2⟩
  | n + 1, i, hi => by
    rw [http_path.l0]
    rw [if_pos (by omega), if_pos (by omega)]
    by_cases h1 : bt s i < 33
    · rw [if_pos h1]
      exact ⟨_, rfl, ⟨fun g => (by cases g), fun g => by have := g.1 i (Nat.le_refl _) (by omega); omega⟩⟩
    · rw [if_neg h1]
      by_cases h2 : bt s i > 126
      · rw [if_pos h2]
        exact ⟨_, rfl, ⟨fun g => (by cases g), fun g => by have := g.1 i (Nat.le_refl _) (by omega); omega⟩⟩
      · rw [if_neg h2, wrap_small _ (by omega) (by omega)]
        obtain ⟨b, hb, hiff⟩ := path_l s hs n (i + 1) (by omega)
        refine ⟨b, by rw [show ((i : Int) + 1) = ((i + 1 : Nat) : Int) by omega]; exact hb, hiff.trans ⟨fun g => ⟨fun j g1 g2 => ?_, g.2⟩, fun g => ⟨fun j g1 g2 => g.1 j (by omega) g2, g.2⟩⟩⟩
        by_cases e : j = i
        · subst e; omega
        · exact g.1 j (by omega) g2
theorem path_ev (s : ByteArray) (hs : s.size ≤ 4611686018427387904) : ∃ b, (∀ k, s.size + 1 ≤ k → http_path.f k s = some b) ∧ (b = true ↔ PathOk s) := by
  obtain ⟨b, hb, hiff⟩ := path_l s hs s.size 0 (by omega)
  refine ⟨b, mono_add (fun k => http_path.mono s k) hb, hiff.trans ⟨fun g => ⟨fun j h => g.1 j (by omega) h, g.2⟩, fun g => ⟨fun j _ h => g.1 j h, g.2⟩⟩⟩
theorem itoa_f (n : Int) (h0 : -9223372036854775808 ≤ n) (h1 : n ≤ 9223372036854775807) : strconv_Itoa_25.f n = some (⟨(Lib.itoa n).toArray⟩ : ByteArray) := by
  unfold strconv_Itoa_25.f
  rw [if_pos ⟨h0, h1⟩]
/-! ### what is written -/
/-- the head that is written -/
def headOf (m p b : ByteArray) : ByteArray := (((((m ++ (⟨#[32]⟩ : ByteArray)) ++ p) ++ (⟨#[32, 72, 84, 84, 80, 47, 49, 46, 49, 13, 10, 67, 111, 110, 116, 101, 110, 116, 45, 76, 101, 110, 103, 116, 104, 58, 32]⟩ : ByteArray)) ++ (⟨(Lib.itoa (b.size : Int)).toArray⟩ : ByteArray)) ++ (⟨#[13, 10, 13, 10]⟩ : ByteArray))
theorem headOf_size (m p b : ByteArray) : (headOf m p b).size = m.size + p.size + (Lib.itoa (b.size : Int)).length + 32 := by
  unfold headOf
  simp only [ByteArray.size_append, size_mk]
  show m.size + 1 + p.size + 27 + _ + 4 = _
  omega
theorem sz1 : (⟨#[32]⟩ : ByteArray).size = 1 := rfl
theorem sz27 : (⟨#[32, 72, 84, 84, 80, 47, 49, 46, 49, 13, 10, 67, 111, 110, 116, 101, 110, 116, 45, 76, 101, 110, 103, 116, 104, 58, 32]⟩ : ByteArray).size = 27 := rfl
theorem sz4 : (⟨#[13, 10, 13, 10]⟩ : ByteArray).size = 4 := rfl
/-- the answer of Write -/
def writeOf (m p b : ByteArray) (ok : Bool) : ByteArray × Int := if ok = true then (if b.size > 262144 then (⟨#[]⟩, 41) else if (headOf m p b).size > 4096 then (⟨#[]⟩, 41) else (headOf m p b ++ b, 0)) else (⟨#[]⟩, 40)
theorem write_j (m p b : ByteArray) (hm : m.size ≤ 4611686018427387904) (hp : p.size ≤ 1073741824) (hb : b.size ≤ 1073741824) (ok : Bool) (k : Nat) : http_Write.j0 (k + 1) (!ok) m p b = some (writeOf m p b ok) := by
  simp only [http_Write.j0]
  unfold writeOf
  have hlen := itoa_len (b.size : Int) (by omega) (by omega)
  have hh := headOf_size m p b
  cases ok with
  | false => rfl
  | true =>
    rw [if_neg (by decide), if_pos (by omega), if_pos (by simp only [ByteArray.size_append, sz1]; omega), if_pos (by simp only [ByteArray.size_append, sz1]; omega), itoa_f _ (by omega) (by omega)]
    simp only [Option.bind_some]
    rw [if_pos (by simp only [ByteArray.size_append, size_mk, List.length_cons, List.length_nil]; omega), if_pos (by simp only [ByteArray.size_append, size_mk, List.length_cons, List.length_nil]; omega)]
    by_cases h1 : b.size > 262144
    · rw [if_pos (by omega), if_pos trivial, if_pos h1]
    · rw [if_neg (by omega), if_pos trivial, if_neg h1]
      show (if ((headOf m p b).size : Int) > 4096 then some ((⟨#[]⟩ : ByteArray), (41 : Int)) else (if (headOf m p b).size + b.size ≤ 9223372036854775807 then some (headOf m p b ++ b, (0 : Int)) else none)) = _
      by_cases h2 : (headOf m p b).size > 4096
      · rw [if_pos (show ((headOf m p b).size : Int) > 4096 by omega), if_pos h2]
      · rw [if_neg (show ¬ ((headOf m p b).size : Int) > 4096 by omega), if_neg h2, if_pos (show (headOf m p b).size + b.size ≤ 9223372036854775807 by omega)]
theorem write_ev (m p b : ByteArray) (hm : m.size ≤ 1073741824) (hp : p.size ≤ 1073741824) (hb : b.size ≤ 1073741824) : ∃ ok : Bool, (∀ k, m.size + p.size + 2 ≤ k → http_Write.f k m p b = some (writeOf m p b ok)) ∧ (ok = true ↔ MethOk m ∧ PathOk p) := by
  obtain ⟨b1, e1, i1⟩ := method_ev m (by omega)
  obtain ⟨b2, e2, i2⟩ := path_ev p (by omega)
  refine ⟨b1 && b2, fun k hk => ?_, by rw [Bool.and_eq_true, i1, i2]⟩
  unfold http_Write.f
  rw [e1 k (by omega)]
  simp only [Option.bind_some]
  obtain ⟨k', rfl⟩ : ∃ k', k = k' + 1 := ⟨k - 1, by omega⟩
  cases b1 with
  | true =>
    rw [if_pos rfl, e2 _ (by omega)]
    simp only [Option.bind_some, Bool.true_and]
    exact write_j m p b (by omega) hp hb b2 k'
  | false =>
    rw [if_neg (by decide)]
    exact write_j m p b (by omega) hp hb false k'
/-! ### what is printed -/
theorem reason_ev (n : Int) : ∃ r, http_Reason.f n = some r ∧ r.size ≤ 30 := by
  unfold http_Reason.f
  by_cases h1 : n = 200
  · rw [if_pos h1]; exact ⟨_, rfl, by decide⟩
  rw [if_neg h1]
  by_cases h2 : n = 400
  · rw [if_pos h2]; exact ⟨_, rfl, by decide⟩
  rw [if_neg h2]
  by_cases h3 : n = 404
  · rw [if_pos h3]; exact ⟨_, rfl, by decide⟩
  rw [if_neg h3]
  by_cases h4 : n = 405
  · rw [if_pos h4]; exact ⟨_, rfl, by decide⟩
  rw [if_neg h4]
  by_cases h5 : n = 413
  · rw [if_pos h5]; exact ⟨_, rfl, by decide⟩
  rw [if_neg h5]
  by_cases h6 : n = 422
  · rw [if_pos h6]; exact ⟨_, rfl, by decide⟩
  rw [if_neg h6]
  by_cases h7 : n = 500
  · rw [if_pos h7]; exact ⟨_, rfl, by decide⟩
  rw [if_neg h7]
  by_cases h8 : n = 507
  · rw [if_pos h8]; exact ⟨_, rfl, by decide⟩
  rw [if_neg h8]
  exact ⟨_, rfl, by decide⟩
theorem sz9 : (⟨#[72, 84, 84, 80, 47, 49, 46, 49, 32]⟩ : ByteArray).size = 9 := rfl
theorem sz50 : (⟨#[13, 10, 67, 111, 110, 116, 101, 110, 116, 45, 84, 121, 112, 101, 58, 32, 97, 112, 112, 108, 105, 99, 97, 116, 105, 111, 110, 47, 106, 115, 111, 110, 13, 10, 67, 111, 110, 116, 101, 110, 116, 45, 76, 101, 110, 103, 116, 104, 58, 32]⟩ : ByteArray).size = 50 := rfl
theorem print_ev (n : Int) (b : ByteArray) (h0 : -9223372036854775808 ≤ n) (h1 : n ≤ 9223372036854775807) (hb : b.size ≤ 1073741824) : ∃ r, http_Print.f n b = some r := by
  obtain ⟨rs, hr, hrl⟩ := reason_ev n
  have l1 := itoa_len n h0 h1
  have l2 := itoa_len (b.size : Int) (by omega) (by omega)
  unfold http_Print.f
  rw [itoa_f n h0 h1, itoa_f (b.size : Int) (by omega) (by omega), hr]
  simp only [Option.bind_some, ByteArray.size_append, size_mk, List.length_cons, List.length_nil]
  rw [if_pos (by omega), if_pos (by omega), if_pos (by omega), if_pos (by omega), if_pos (by omega), if_pos (by omega), if_pos (by omega)]
  exact ⟨_, rfl⟩

end Go.Proofs.YteeiljjjgkinhaaGreatDoor.PHttpFL
