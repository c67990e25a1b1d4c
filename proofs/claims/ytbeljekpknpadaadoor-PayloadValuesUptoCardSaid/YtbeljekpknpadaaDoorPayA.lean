import Derived.Test.YtbeljekpknpadaaDoorPPayx14
namespace Go.Proofs.YtbeljekpknpadaaDoor.Pay
open Go.RowKit Go.Proofs.YtbeljekpknpadaaDoor.PPay Go.Proofs.YtbeljekpknpadaaDoorW.PrintWords Go.Proofs.YtbeljekpknpadaaDoorW.PrintLast Go.Proofs.YtbeljekpknpadaaDoorW.PrintMore
set_option linter.unusedVariables false
set_option linter.unusedSimpArgs false

/-! ### the order of values -/
def cmpI (a b : Int) : Int := if a < b then -1 else if b < a then 1 else 0
def cmpS (a b : List UInt8) : Int := if Op.bytesLess a b = true then -1 else if Op.bytesLess b a = true then 1 else 0
def or3 (a b c : Int) : Int := if a = 0 then (if b = 0 then c else b) else a
theorem cmp_int (a b : Int) : cmp_Compare_int.f a b = some (cmpI a b) := by
  simp only [cmp_Compare_int.f, cmp_isNaN_int.f, bne_self_eq_false, Option.bind_some, cmpI]
  by_cases h : a < b
  · simp [h]
  · by_cases h2 : b < a
    · simp [h, h2]
    · simp [h, h2]
theorem cmp_str (a b : ByteArray) : cmp_Compare_string.f a b = some (cmpS a.toList b.toList) := by
  simp only [cmp_Compare_string.f, cmp_isNaN_string.f, bne_self_eq_false, Option.bind_some, cmpS]
  by_cases h : Op.bytesLess a.toList b.toList = true
  · simp [h]
  · by_cases h2 : Op.bytesLess b.toList a.toList = true
    · simp [h, h2]
    · simp [h, h2]
theorem wrap_small (i : Int) (h0 : -9223372036854775808 ≤ i) (h1 : i ≤ 9223372036854775807) : wrap64 i = i := by
  unfold wrap64
  omega
theorem or_int (k : Nat) (a b c : Int) : cmp_Or_int.f (k + 4) [a, b, c] = some (or3 a b c) := by
  have e1 : wrap64 (0 + 1) = 1 := wrap_small _ (by omega) (by omega)
  have e2 : wrap64 (1 + 1) = 2 := wrap_small _ (by omega) (by omega)
  have e3 : wrap64 (2 + 1) = 3 := wrap_small _ (by omega) (by omega)
  have r0 : rd [a, b, c] 0 = a := rfl
  have r1 : rd [a, b, c] 1 = b := rfl
  have r2 : rd [a, b, c] 2 = c := rfl
  have hl : (([a, b, c] : List Int).length : Int) = 3 := rfl
  unfold cmp_Or_int.f
  generalize ([a, b, c] : List Int) = L at r0 r1 r2 hl ⊢
  simp only [cmp_Or_int.l0, hl, r0, e1, or3]
  by_cases h1 : a = 0
  · simp only [h1, r1, e2]
    by_cases h2 : b = 0
    · simp only [h2, r2, e3, r1]
      by_cases h3 : c = 0
      · simp [h2, r2, e3, h3]
      · simp [h2, r2, e3, h3]
    · simp [h2]
  · simp [h1]
theorem flip (a b : List UInt8) : (!(Op.bytesLess a b || a == b)) = Op.bytesLess b a := bytesLess_flip a b
theorem cmpI_neg (a b : Int) : cmpI b a = - cmpI a b := by
  unfold cmpI
  split <;> split <;> first | omega | (split <;> first | omega | rfl) | rfl
theorem cmpI_zero (a b : Int) : cmpI a b = 0 ↔ a = b := by
  unfold cmpI
  split
  · simp; omega
  · split
    · simp; omega
    · simp; omega
theorem cmpS_neg (a b : List UInt8) : cmpS b a = - cmpS a b := by
  have h1 := flip a b
  have h2 := flip b a
  unfold cmpS
  cases hx : Op.bytesLess a b <;> cases hy : Op.bytesLess b a <;> simp_all
theorem cmpS_zero (a b : List UInt8) : cmpS a b = 0 ↔ a = b := by
  have h1 := flip a b
  have h2 := flip b a
  unfold cmpS
  cases hx : Op.bytesLess a b <;> cases hy : Op.bytesLess b a <;> simp_all
  all_goals (rintro rfl; simp_all)
theorem or3_neg (a b c : Int) : or3 (-a) (-b) (-c) = - or3 a b c := by
  unfold or3
  split <;> split <;> first | omega | (split <;> split <;> omega)
theorem or3_zero (a b c : Int) : or3 a b c = 0 ↔ a = 0 ∧ b = 0 ∧ c = 0 := by
  unfold or3
  split <;> first | omega | (split <;> omega)
theorem cmpI_range (a b : Int) : cmpI a b = -1 ∨ cmpI a b = 0 ∨ cmpI a b = 1 := by
  unfold cmpI
  split
  · simp
  · split <;> simp
theorem cmpS_range (a b : List UInt8) : cmpS a b = -1 ∨ cmpS a b = 0 ∨ cmpS a b = 1 := by
  unfold cmpS
  split
  · simp
  · split <;> simp
def cmpV (a0 a1 : Int) (a2 : ByteArray) (b0 b1 : Int) (b2 : ByteArray) : Int := or3 (cmpI a0 b0) (cmpI a1 b1) (cmpS a2.toList b2.toList)
theorem cmpV_range (a0 a1 : Int) (a2 : ByteArray) (b0 b1 : Int) (b2 : ByteArray) : cmpV a0 a1 a2 b0 b1 b2 = -1 ∨ cmpV a0 a1 a2 b0 b1 b2 = 0 ∨ cmpV a0 a1 a2 b0 b1 b2 = 1 := by
  unfold cmpV or3
  have h1 := cmpI_range a0 b0
  have h2 := cmpI_range a1 b1
  have h3 := cmpS_range a2.toList b2.toList
  split
  · split
    · exact h3
    · exact h2
  · exact h1
theorem compare_eq (k : Nat) (a0 a1 : Int) (a2 : ByteArray) (b0 b1 : Int) (b2 : ByteArray) : payload_Compare.f (k + 4) a0 a1 a2 b0 b1 b2 = some (cmpV a0 a1 a2 b0 b1 b2) := by
  unfold payload_Compare.f
  rw [cmp_int, Option.bind_some, cmp_int, Option.bind_some, cmp_str, Option.bind_some, or_int, Option.bind_some]
  rfl
theorem ref_compare_eq (a0 a1 : Int) (a2 : ByteArray) (b0 b1 : Int) (b2 : ByteArray) : lodestarref05_Compare.f a0 a1 a2 b0 b1 b2 = some (cmpV a0 a1 a2 b0 b1 b2) := by
  unfold lodestarref05_Compare.f cmpV or3 cmpI cmpS
  by_cases h1 : a0 < b0
  · simp [h1]
  · by_cases h2 : b0 < a0
    · simp [h1, h2]
    · by_cases h3 : a1 < b1
      · simp [h1, h2, h3]
      · by_cases h4 : b1 < a1
        · simp [h1, h2, h3, h4]
        · by_cases h5 : Op.bytesLess a2.toList b2.toList = true
          · simp [h1, h2, h3, h4, h5]
          · by_cases h6 : Op.bytesLess b2.toList a2.toList = true
            · simp [h1, h2, h3, h4, h5, h6]
            · simp [h1, h2, h3, h4, h5, h6]
theorem cmpV_neg (a0 a1 : Int) (a2 : ByteArray) (b0 b1 : Int) (b2 : ByteArray) : cmpV b0 b1 b2 a0 a1 a2 = - cmpV a0 a1 a2 b0 b1 b2 := by
  unfold cmpV
  rw [cmpI_neg a0 b0, cmpI_neg a1 b1, cmpS_neg a2.toList b2.toList, or3_neg]
theorem cmpV_zero (a0 a1 : Int) (a2 : ByteArray) (b0 b1 : Int) (b2 : ByteArray) : (cmpV a0 a1 a2 b0 b1 b2 == 0) = (a0 == b0 && (a1 == b1 && (a2.toList == b2.toList))) := by
  rw [Bool.eq_iff_iff]
  simp only [beq_iff_eq, Bool.and_eq_true]
  unfold cmpV
  rw [or3_zero, cmpI_zero, cmpI_zero, cmpS_zero]

/-! ### the value of a name -/
def getV (l : List S61) (a : ByteArray) : Int × Int × ByteArray × Bool := match l.find? (fun x => x.f0.toList == a.toList) with
  | some x => (x.f1.f0, x.f1.f1, x.f1.f2, true)
  | none => (0, 0, (⟨#[]⟩ : ByteArray), false)
theorem get_eq (l : List S61) (a : ByteArray) (h : l.length ≤ 4611686018427387904) : payload_Get.f l a = some (getV l a) := by
  unfold payload_Get.f getV
  rw [if_pos h]
  cases l.find? (fun x => x.f0.toList == a.toList) <;> rfl
theorem ref_get_loop (l : List S61) (a : ByteArray) (h : l.length ≤ 4611686018427387904) : ∀ (n i k : Nat), l.length - i = n → i ≤ l.length → n + 1 ≤ k → lodestarref05_Get.l0 k l a (i : Int) = some (getV (l.drop i) a)
  | 0, i, k + 1, hn, hi, hk => by
    obtain rfl : i = l.length := by omega
    unfold lodestarref05_Get.l0
    rw [if_neg (by omega), List.drop_eq_nil_of_le (Nat.le_refl _)]
    rfl
  | n + 1, i, k + 1, hn, hi, hk => by
    have hlt : i < l.length := by omega
    unfold lodestarref05_Get.l0
    rw [if_pos (by omega), if_pos (by omega)]
    have hr : rd_T61 l (i : Int) = l[i] := by simp [rd_T61, List.getD_eq_getElem?_getD, hlt]
    rw [hr, List.drop_eq_getElem_cons hlt]
    by_cases he : (l[i].f0).toList = a.toList
    · rw [if_pos he]
      have hb : (l[i].f0.toList == a.toList) = true := by simpa using he
      simp only [getV, List.find?_cons, hb]
    · have hb : (l[i].f0.toList == a.toList) = false := by simpa using he
      rw [if_neg he, wrap_succ i l.length hlt h, ref_get_loop l a h n (i + 1) k (by omega) (by omega) (by omega)]
      simp only [getV, List.find?_cons, hb]
theorem ref_get_eq (l : List S61) (a : ByteArray) (h : l.length ≤ 4611686018427387904) (k : Nat) (hk : l.length + 1 ≤ k) : lodestarref05_Get.f k l a = some (getV l a) := by
  have := ref_get_loop l a h l.length 0 k (by omega) (by omega) hk
  simpa [lodestarref05_Get.f] using this

/-! ### the first example -/
theorem awake64 : lodestarlaw05_awake.f 64 = some true := by kernel_rfl
theorem awake_eq : ∀ (k : Nat), 64 ≤ k → lodestarlaw05_awake.f k = some true := by
  intro k hk
  obtain ⟨d, rfl⟩ := Nat.exists_eq_add_of_le hk
  clear hk
  induction d with
  | zero => exact awake64
  | succ d ih => exact lodestarlaw05_awake.mono (64 + d) _ ih

/-! ### PayloadValues -/
theorem values_names (l : List S61) (h : l.length ≤ 4611686018427387904) : ∀ (k : Nat), l.length + 16 ≤ k → lodestarlaw05_PayloadValues.j0 k l false = some true := by
  intro k hk
  obtain ⟨k, rfl⟩ := Nat.exists_eq_add_of_le (show 8 ≤ k by omega)
  rw [Nat.add_comm 8 k]
  have g : ∀ (n : Nat) (a : ByteArray), 1 ≤ n → lodestarref05_Get.f (k + n) l a = some (getV l a) := fun n a hn => ref_get_eq l a h _ (by omega)
  have e1 : wrap64 (0 + 1) = 1 := wrap_small _ (by omega) (by omega)
  have e2 : wrap64 (1 + 1) = 2 := wrap_small _ (by omega) (by omega)
  have e3 : wrap64 (2 + 1) = 3 := wrap_small _ (by omega) (by omega)
  have e4 : wrap64 (3 + 1) = 4 := wrap_small _ (by omega) (by omega)
  have e5 : wrap64 (4 + 1) = 5 := wrap_small _ (by omega) (by omega)
  have step : ∀ (m : Nat) (N : List ByteArray) (i : Int), i < (N.length : Int) → 0 ≤ i → 1 ≤ m → lodestarlaw05_PayloadValues.l0 (k + m + 1) l N i = lodestarlaw05_PayloadValues.l0 (k + m) l N (wrap64 (i + 1)) := by
    intro m N i h1 h2 hm
    rw [lodestarlaw05_PayloadValues.l0, if_pos h1, if_pos h2, get_eq l _ h, Option.bind_some, g m _ hm, Option.bind_some]
    simp
  rw [lodestarlaw05_PayloadValues.j0, if_neg (by decide)]
  rw [step 6 _ 0 (by decide) (by decide) (by omega), e1]
  rw [step 5 _ 1 (by decide) (by decide) (by omega), e2]
  rw [step 4 _ 2 (by decide) (by decide) (by omega), e3]
  rw [step 3 _ 3 (by decide) (by decide) (by omega), e4]
  rw [step 2 _ 4 (by decide) (by decide) (by omega), e5]
  rw [lodestarlaw05_PayloadValues.l0, if_neg (by decide)]
theorem values_true (k : Nat) (a0 a1 : Int) (a2 : ByteArray) (b0 b1 : Int) (b2 : ByteArray) (l : List S61) (h : l.length ≤ 4611686018427387904) (hk : l.length + 64 ≤ k) :
    lodestarlaw05_PayloadValues.f k a0 a1 a2 b0 b1 b2 l = some true := by
  obtain ⟨d, rfl⟩ := Nat.exists_eq_add_of_le (show 4 ≤ k by omega)
  rw [Nat.add_comm 4 d] at hk ⊢
  unfold lodestarlaw05_PayloadValues.f
  rw [compare_eq, Option.bind_some, ref_compare_eq, Option.bind_some, if_pos rfl, compare_eq, Option.bind_some, Option.bind_some]
  have hr := cmpV_range a0 a1 a2 b0 b1 b2
  have hw : wrap64 (- cmpV a0 a1 a2 b0 b1 b2) = - cmpV a0 a1 a2 b0 b1 b2 := wrap_small _ (by omega) (by omega)
  rw [if_pos (by rw [hw, cmpV_neg]), Option.bind_some, cmpV_zero, if_neg (by simp), awake_eq _ (by omega), Option.bind_some]
  exact values_names l h _ (by omega)
end Go.Proofs.YtbeljekpknpadaaDoor.Pay
