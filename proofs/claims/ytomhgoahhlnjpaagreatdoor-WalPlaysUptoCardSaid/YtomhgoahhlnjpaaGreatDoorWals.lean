/- Several texts in one. -/
import Derived.Test.YtomhgoahhlnjpaaGreatDoorPWalx8
/- Numbers as bytes, bytes as numbers and check sums: the program's loops and the document's answer the same values. -/
namespace Go.Proofs.YtomhgoahhlnjpaaGreatDoor.WalA
open Go.RowKit Go.Proofs.YtomhgoahhlnjpaaGreatDoor.PWal Go.Proofs.YtomhgoahhlnjpaaGreatDoorW.PrintWords Go.Proofs.YtomhgoahhlnjpaaGreatDoorW.PrintLast Go.Proofs.YtomhgoahhlnjpaaGreatDoorW.PrintMore

theorem w64 {x : Int} (h0 : -9223372036854775808 ≤ x) (h : x ≤ 9223372036854775807) : wrap64 x = x := by unfold wrap64; omega
theorem u64w {x : Int} (h0 : 0 ≤ x) (h : x ≤ 18446744073709551615) : IntKind.u64.wrap x = x := by rw [IntKind.wrap_u64]; omega
theorem cast_div (n m : Nat) : ((n : Int) / (m : Int)) = ((n / m : Nat) : Int) := by norm_cast
theorem cast_mod (n m : Nat) : ((n : Int) % (m : Int)) = ((n % m : Nat) : Int) := by norm_cast

/-! the bytes of a number, the least first -/
def leB : Nat → Nat → List Int
  | 0, _ => []
  | w + 1, n => ((n % 256 : Nat) : Int) :: leB w (n / 256)
theorem leB_length : ∀ w n, (leB w n).length = w
  | 0, _ => rfl
  | w + 1, n => by simp [leB, leB_length w]
theorem leB_snoc : ∀ w n, leB (w + 1) n = leB w n ++ [((n / 256 ^ w % 256 : Nat) : Int)]
  | 0, n => by simp [leB]
  | w + 1, n => by
    rw [leB, leB_snoc w (n / 256), Nat.div_div_eq_div_mul, ← Nat.pow_succ']
    rfl
def FIX (n w : Nat) : ByteArray := strOfNums (leB w n)
theorem FIX_size (n w : Nat) : (FIX n w).size = w := by rw [FIX, strOfNums_size, leB_length]
theorem pow_le_8 {w : Nat} (hw : w ≤ 8) : 256 ^ w ≤ 18446744073709551616 :=
  Nat.le_trans (Nat.pow_le_pow_right (by omega) hw) (by decide)

theorem refFix_l0 : ∀ (d n : Nat) (acc : List Int) (i w : Int) (k : Nat), n < 256 ^ d → 0 ≤ i → w = i + d → w ≤ 8 → acc.length + d ≤ 8 → d < k →
    lodestarref01_Fix.l0 k (n : Int) w acc i = some (strOfNums (acc ++ leB d n), 0) := by
  intro d
  induction d with
  | zero =>
    intro n acc i w k hn h0 hw _ _ hk
    obtain ⟨k, rfl⟩ : ∃ m, k = m + 1 := ⟨k - 1, by omega⟩
    have hn0 : n = 0 := by simpa using hn
    subst hn0
    simp only [lodestarref01_Fix.l0]
    rw [if_neg (by omega), if_pos (by simp)]
    simp [leB]
  | succ d ih =>
    intro n acc i w k hn h0 hw h8 hl hk
    obtain ⟨k, rfl⟩ : ∃ m, k = m + 1 := ⟨k - 1, by omega⟩
    have hb : n < 18446744073709551616 := Nat.lt_of_lt_of_le hn (pow_le_8 (by omega))
    simp only [lodestarref01_Fix.l0]
    have e1 : Int.tdiv (n : Int) 256 = ((n / 256 : Nat) : Int) := by rw [Int.tdiv_eq_ediv_of_nonneg (by omega)]; omega
    have e2 : Int.tmod (n : Int) 256 % 256 = ((n % 256 : Nat) : Int) := by rw [Int.tmod_eq_emod_of_nonneg (by omega)]; omega
    rw [if_pos (by omega), if_pos (by omega), e1, e2, u64w (by omega) (by omega), w64 (by omega) (by omega),
      ih (n / 256) _ (i + 1) w k (by rw [Nat.div_lt_iff_lt_mul (by omega), ← Nat.pow_succ]; exact hn) (by omega) (by omega) h8 (by simp; omega) (by omega)]
    simp [leB]
theorem refFix (n w k : Nat) (hn : n < 256 ^ w) (h1 : 1 ≤ w) (h8 : w ≤ 8) (hk : 10 ≤ k) : lodestarref01_Fix.f k (n : Int) (w : Int) = some (FIX n w, 0) := by
  obtain ⟨k, rfl⟩ : ∃ m, k = m + 1 := ⟨k - 1, by omega⟩
  unfold lodestarref01_Fix.f
  rw [if_neg (by omega)]
  have hd : decide ((w : Int) > 8) = false := by simp; omega
  rw [hd]
  simp only [lodestarref01_Fix.j0]
  rw [if_neg (by simp), refFix_l0 w n [] 0 w k hn (by omega) (by omega) (by omega) (by simpa using h8) (by omega)]
  rfl

theorem shr_pow (n i : Nat) (hi : i ≤ 8) : shr .u64 (n : Int) (wrap64 (8 * (i : Int))) = ((n / 256 ^ i : Nat) : Int) := by
  rw [w64 (by omega) (by omega)]
  unfold shr
  have e : min (8 * (i : Int)).toNat IntKind.u64.bits = 8 * i := by
    have h : (8 * (i : Int)).toNat = 8 * i := by omega
    rw [h]
    show min (8 * i) 64 = 8 * i
    omega
  have h2 : (2 : Nat) ^ (8 * i) = 256 ^ i := by rw [Nat.pow_mul]
  rw [e, ← h2]
  norm_cast
theorem replicate_set (l : List Int) (d : Nat) (v : Int) : (l ++ List.replicate (d + 1) 0).set l.length v = l ++ [v] ++ List.replicate d 0 := by
  rw [List.replicate_succ, List.set_append_right _ _ (by omega)]
  simp
theorem numFix_l0 (n w : Nat) (h8 : w ≤ 8) : ∀ (d i k : Nat), i + d = w → d < k →
    num_Fix.l0 k (n : Int) (leB i n ++ List.replicate d 0) (w : Int) (i : Int) = some (strOfNums (leB w n), 0) := by
  intro d
  induction d with
  | zero =>
    intro i k hi hk
    obtain ⟨k, rfl⟩ : ∃ m, k = m + 1 := ⟨k - 1, by omega⟩
    obtain rfl : i = w := by omega
    simp only [num_Fix.l0]
    rw [if_neg (by omega)]
    simp
  | succ d ih =>
    intro i k hi hk
    obtain ⟨k, rfl⟩ : ∃ m, k = m + 1 := ⟨k - 1, by omega⟩
    simp only [num_Fix.l0]
    have e3 : ((n / 256 ^ i : Nat) : Int) % 256 = ((n / 256 ^ i % 256 : Nat) : Int) := by omega
    have e0 : ((i : Int)).toNat = (leB i n).length := by rw [leB_length]; omega
    have ew : wrap64 (8 * (i : Int)) = 8 * (i : Int) := w64 (by omega) (by omega)
    rw [if_pos (by omega), if_pos (by rw [ew]; omega), if_pos (by omega), if_pos (by simp [leB_length]; omega), shr_pow n i (by omega), e3, e0, replicate_set, ← leB_snoc, w64 (by omega) (by omega)]
    exact ih (i + 1) k (by omega) (by omega)
theorem numFix (n w k : Nat) (hn : n < 256 ^ w) (h1 : 1 ≤ w) (h8 : w ≤ 8) (hk : 10 ≤ k) : num_Fix.f k (n : Int) (w : Int) = some (FIX n w, 0) := by
  obtain ⟨k, rfl⟩ : ∃ m, k = m + 1 := ⟨k - 1, by omega⟩
  have hj : num_Fix.j0 (k + 1) (n : Int) (w : Int) false = some (FIX n w, 0) := by
    simp only [num_Fix.j0]
    rw [if_neg (by simp), if_pos (by omega), if_pos (by omega)]
    simp only [Option.bind_some]
    have h := numFix_l0 n w h8 w 0 k (by omega) (by omega)
    have e : ((w : Int)).toNat = w := by omega
    rw [e]
    simpa [leB, FIX] using h
  unfold num_Fix.f
  rw [if_neg (by omega), if_neg (by omega)]
  by_cases h : w < 8
  · have e : (shr .u64 (n : Int) (wrap64 (8 * (w : Int))) != 0) = false := by
      rw [shr_pow n w h8, Nat.div_eq_of_lt hn]
      rfl
    have ew : wrap64 (8 * (w : Int)) = 8 * (w : Int) := w64 (by omega) (by omega)
    rw [if_pos (by omega), if_pos (by rw [ew]; omega), e]
    exact hj
  · rw [if_neg (by omega)]
    exact hj
theorem walFix (n w k : Nat) (hn : n < 256 ^ w) (h1 : 1 ≤ w) (h8 : w ≤ 8) (hk : 10 ≤ k) : wal_fix.f k (n : Int) (w : Int) = some (FIX n w) := by
  have hb : n < 18446744073709551616 := Nat.lt_of_lt_of_le hn (pow_le_8 h8)
  unfold wal_fix.f
  rw [u64w (by omega) (by omega), numFix n w k hn h1 h8 hk]
  rfl
theorem refFixed (n w k : Nat) (hn : n < 256 ^ w) (h1 : 1 ≤ w) (h8 : w ≤ 8) (hk : 10 ≤ k) : lodestarref09_fix.f k (n : Int) (w : Int) = some (FIX n w) := by
  unfold lodestarref09_fix.f lodestarref01_Fixed.f
  rw [refFix n w k hn h1 h8 hk]
  rfl

/-! the check sum -/
theorem crcStep_xor (a b : Nat) : crcStep (a ^^^ b) = crcStep a ^^^ crcStep b := by
  unfold crcStep
  have h2 : 3988292384 * ((a ^^^ b) % 2) = (3988292384 * (a % 2)) ^^^ (3988292384 * (b % 2)) := by
    have h := @Nat.xor_mod_two_pow a b 1
    simp only [Nat.pow_one] at h
    rw [h]
    have ha : a % 2 = 0 ∨ a % 2 = 1 := by omega
    have hb : b % 2 = 0 ∨ b % 2 = 1 := by omega
    rcases ha with ha | ha <;> rcases hb with hb | hb <;> rw [ha, hb] <;> decide
  rw [h2, Nat.xor_div_two]
  simp only [Nat.xor_assoc]
  congr 1
  rw [← Nat.xor_assoc, ← Nat.xor_assoc, Nat.xor_comm (b / 2)]
theorem crcIter_xor (a b : Nat) : ∀ t, crcIter t (a ^^^ b) = crcIter t a ^^^ crcIter t b
  | 0 => rfl
  | t + 1 => by rw [crcIter, crcIter_xor a b t, crcStep_xor]; rfl
theorem crcIter_in : ∀ t c, crcIter (t + 1) c = crcIter t (crcStep c)
  | 0, _ => rfl
  | t + 1, c => by rw [crcIter, crcIter_in t c]; rfl
theorem crcStep_even (h : Nat) : crcStep (2 * h) = h := by
  unfold crcStep
  have e1 : 2 * h / 2 = h := by omega
  have e2 : 2 * h % 2 = 0 := by omega
  rw [e1, e2]
  simp
theorem crcIter_high : ∀ t h, crcIter t (2 ^ t * h) = h
  | 0, h => by simp [crcIter]
  | t + 1, h => by
    have e : 2 ^ (t + 1) * h = 2 * (2 ^ t * h) := by rw [Nat.pow_succ]; simp only [Nat.mul_assoc, Nat.mul_left_comm]
    rw [crcIter_in, e, crcStep_even, crcIter_high t h]
theorem split_byte (c : Nat) : c = (c % 256) ^^^ (256 * (c / 256)) := by
  have h : (256 * (c / 256)) ||| (c % 256) = 256 * (c / 256) + c % 256 := (Nat.two_pow_add_eq_or_of_lt (i := 8) (Nat.mod_lt _ (by omega)) (c / 256)).symm
  have hz : (c % 256) &&& (256 * (c / 256)) = 0 := by
    apply Nat.eq_of_testBit_eq
    intro i
    simp only [Nat.testBit_and, Nat.zero_testBit]
    have e := Nat.testBit_two_pow_mul (a := c / 256) (i := 8) (j := i)
    have f := Nat.testBit_mod_two_pow c 8 i
    simp only [show (2 : Nat) ^ 8 = 256 from rfl] at e f
    rw [e, f]
    by_cases hi : i < 8
    · have h8 : ¬ 8 ≤ i := by omega
      simp [h8]
    · simp [hi]
  have hx : (c % 256) ^^^ (256 * (c / 256)) = (c % 256) ||| (256 * (c / 256)) := by
    apply Nat.eq_of_testBit_eq
    intro i
    have hz' := congrArg (fun x => x.testBit i) hz
    simp only [Nat.testBit_and, Nat.zero_testBit] at hz'
    simp only [Nat.testBit_xor, Nat.testBit_or]
    cases h1 : (c % 256).testBit i <;> cases h2 : (256 * (c / 256)).testBit i <;> simp_all
  rw [hx, Nat.or_comm, h]
  omega
theorem crcByte_eq (c x : Nat) : crcIter 8 (c ^^^ x) = crcByte c x := by
  have e : c ^^^ x = ((c % 256) ^^^ x) ^^^ (2 ^ 8 * (c / 256)) := by
    have h := split_byte c
    simp only [show (2 : Nat) ^ 8 = 256 from rfl]
    rw [Nat.xor_assoc, Nat.xor_comm x, ← Nat.xor_assoc, ← h]
  rw [e, crcIter_xor, crcIter_high]
  rfl

theorem refSum_l1 (s : ByteArray) (i : Int) : ∀ (d k c : Nat) (t : Int), c < 4294967296 → 0 ≤ t → t + d = 8 →
    lodestarref01_Sum.l1 (k + d + 1) s (c : Int) i t = lodestarref01_Sum.l0 k s ((crcIter d c : Nat) : Int) (wrap64 (i + 1)) := by
  intro d
  induction d with
  | zero =>
    intro k c t _ h0 ht
    simp only [lodestarref01_Sum.l1]
    rw [if_neg (by omega)]
    rfl
  | succ d ih =>
    intro k c t hc h0 ht
    have hs := crcStep_lt hc
    obtain ⟨K, hK⟩ : ∃ K, K = k + d + 1 := ⟨_, rfl⟩
    have eK : k + (d + 1) + 1 = K + 1 := by omega
    rw [eK]
    simp only [lodestarref01_Sum.l1]
    have e1 : Int.tmod (c : Int) 2 = ((c % 2 : Nat) : Int) := by rw [Int.tmod_eq_emod_of_nonneg (by omega)]; omega
    have e2 : Int.tdiv (c : Int) 2 % 4294967296 = ((c / 2 : Nat) : Int) := by rw [Int.tdiv_eq_ediv_of_nonneg (by omega)]; omega
    rw [if_pos (by omega), e1, e2, w64 (by omega) (by omega), hK]
    by_cases h : c % 2 = 1
    · have ex : bits .xor .u32 ((c / 2 : Nat) : Int) 3988292384 = ((crcStep c : Nat) : Int) := by
        rw [show (3988292384 : Int) = ((3988292384 : Nat) : Int) from rfl, u32_bits_xor _ _ (by omega) (by omega)]
        unfold crcStep
        rw [h]
      rw [if_pos (by omega), ex, ih k (crcStep c) (t + 1) hs (by omega) (by omega), crcIter_in]
    · have ex : ((c / 2 : Nat) : Int) = ((crcStep c : Nat) : Int) := by
        unfold crcStep
        have h0 : c % 2 = 0 := by omega
        rw [h0]
        simp
      rw [if_neg (by omega), ex, ih k (crcStep c) (t + 1) hs (by omega) (by omega), crcIter_in]
theorem bt_getD (s : ByteArray) (i : Nat) (h : i < s.size) : bt s (i : Int) = ((s.data.toList[i]'(by simpa using h)).toNat : Int) := by
  unfold bt
  rw [Int.toNat_natCast, dif_pos h]
  rfl
theorem refSum_l0 (s : ByteArray) (hs : s.size ≤ 9223372036854775806) : ∀ (d i k c : Nat), i + d = s.size → c < 4294967296 → 10 * d < k →
    lodestarref01_Sum.l0 k s (c : Int) (i : Int) = some ((4294967295 ^^^ (s.data.toList.drop i).foldl (fun c x => crcByte c x.toNat) c : Nat) : Int) := by
  intro d
  induction d with
  | zero =>
    intro i k c hi hc hk
    obtain ⟨k, rfl⟩ : ∃ m, k = m + 1 := ⟨k - 1, by omega⟩
    simp only [lodestarref01_Sum.l0]
    rw [if_neg (by omega), List.drop_of_length_le (by simp; omega)]
    rw [show (4294967295 : Int) = ((4294967295 : Nat) : Int) from rfl, u32_bits_xor _ _ hc (by omega), Nat.xor_comm]
    rfl
  | succ d ih =>
    intro i k c hi hc hk
    obtain ⟨k, rfl⟩ : ∃ m, k = m + 8 + 1 + 1 := ⟨k - 10, by omega⟩
    have hlt : i < s.size := by omega
    have hl : i < s.data.toList.length := by simpa using hlt
    simp only [lodestarref01_Sum.l0]
    have hx := (s.data.toList[i]'hl).toNat_lt
    have e1 : ((s.data.toList[i]'hl).toNat : Int) % 4294967296 = ((s.data.toList[i]'hl).toNat : Int) := by omega
    rw [if_pos (by omega), if_pos (by omega), bt_getD s i hlt, e1, u32_bits_xor _ _ hc (by omega)]
    have hcx : c ^^^ (s.data.toList[i]'hl).toNat < 4294967296 := Nat.xor_lt_two_pow (n := 32) (by omega) (by omega)
    rw [refSum_l1 s (i : Int) 8 k _ 0 hcx (by omega) (by omega), crcByte_eq, w64 (by omega) (by omega)]
    have hb := crcByte_lt hc hx
    have h := ih (i + 1) k (crcByte c (s.data.toList[i]'hl).toNat) (by omega) hb (by omega)
    rw [List.drop_eq_getElem_cons hl, List.foldl_cons, ← h]
    norm_cast
def CRC (s : ByteArray) : Nat := 4294967295 ^^^ crcFold s.data.toList
theorem CRC_lt (s : ByteArray) : CRC s < 4294967296 := Nat.xor_lt_two_pow (n := 32) (by omega) (by have := crcFold_lt s.data.toList; omega)
theorem refSum (s : ByteArray) (k : Nat) (hs : s.size ≤ 9223372036854775806) (hk : 10 * s.size + 1 ≤ k) : lodestarref01_Sum.f k s = some ((CRC s : Nat) : Int) := by
  unfold lodestarref01_Sum.f
  have h := refSum_l0 s hs s.size 0 k 4294967295 (by omega) (by omega) (by omega)
  rw [List.drop_zero] at h
  exact h
theorem numSum (s : ByteArray) (hs : s.size ≤ 9223372036854775806) : num_Sum.f s = some ((CRC s : Nat) : Int) := by
  unfold num_Sum.f
  rw [if_pos (by omega)]
  rfl
def SUM (s : ByteArray) : ByteArray := FIX (CRC s) 4
theorem SUM_size (s : ByteArray) : (SUM s).size = 4 := FIX_size _ _
theorem walSum (s : ByteArray) (k : Nat) (hs : s.size ≤ 9223372036854775806) (hk : 10 ≤ k) : wal_sum.f k s = some (SUM s) := by
  have hc := CRC_lt s
  unfold wal_sum.f
  rw [numSum s hs]
  simp only [Option.bind_some]
  rw [w64 (by omega) (by omega), show (4 : Int) = ((4 : Nat) : Int) from rfl, walFix (CRC s) 4 k (by omega) (by omega) (by omega) hk]
  rfl
theorem refSum' (s : ByteArray) (k : Nat) (hs : s.size ≤ 9223372036854775806) (hk : 10 * s.size + 10 ≤ k) : lodestarref09_sum.f k s = some (SUM s) := by
  have hc := CRC_lt s
  unfold lodestarref09_sum.f
  rw [refSum s k hs (by omega)]
  simp only [Option.bind_some]
  rw [u64w (by omega) (by omega), show (4 : Int) = ((4 : Nat) : Int) from rfl, refFixed (CRC s) 4 k (by omega) (by omega) (by omega) (by omega)]
  rfl

/-! a number out of its bytes -/
def unle : List UInt8 → Nat
  | [] => 0
  | x :: l => x.toNat + 256 * unle l
theorem unle_lt : ∀ l : List UInt8, unle l < 256 ^ l.length
  | [] => by simp [unle]
  | x :: l => by
    have h := unle_lt l
    have hx := x.toNat_lt
    rw [unle, List.length_cons, Nat.pow_succ']
    omega
theorem u64_bits_or (a b : Nat) (ha : a < 18446744073709551616) (hb : b < 18446744073709551616) : bits .or .u64 (a : Int) (b : Int) = ((a ||| b : Nat) : Int) := by
  have hx : a ||| b < 2 ^ 64 := Nat.or_lt_two_pow (by omega) (by omega)
  show IntKind.u64.wrap ((BitVec.ofInt 64 (a : Int) ||| BitVec.ofInt 64 (b : Int)).toNat : Int) = _
  rw [BitVec.toNat_or, BitVec.ofInt_natCast, BitVec.ofInt_natCast, BitVec.toNat_ofNat, BitVec.toNat_ofNat, Nat.mod_eq_of_lt (by omega), Nat.mod_eq_of_lt (by omega), IntKind.wrap_u64]
  omega
theorem unle_drop (s : ByteArray) (i : Nat) (h : i < s.size) : unle (s.data.toList.drop i) = (s.data.toList[i]'(by simpa using h)).toNat + 256 * unle (s.data.toList.drop (i + 1)) := by
  rw [List.drop_eq_getElem_cons (by simpa using h), unle]
theorem unle_drop_lt (s : ByteArray) (i : Nat) (h8 : s.size ≤ 8) : unle (s.data.toList.drop (i + 1)) < 256 ^ 7 := by
  refine Nat.lt_of_lt_of_le (unle_lt _) (Nat.pow_le_pow_right (by omega) ?_)
  have : s.data.toList.length = s.size := by simp
  rw [List.length_drop]
  omega
theorem numUnfix_l0 (s : ByteArray) (h8 : s.size ≤ 8) : ∀ (d k : Nat), d ≤ s.size → d < k →
    num_Unfix.l0 k s ((unle (s.data.toList.drop d) : Nat) : Int) ((d : Int) - 1) = some (((unle s.data.toList : Nat) : Int), 0) := by
  intro d
  induction d with
  | zero =>
    intro k _ hk
    obtain ⟨k, rfl⟩ : ∃ m, k = m + 1 := ⟨k - 1, by omega⟩
    simp only [num_Unfix.l0]
    rw [if_neg (by omega)]
    simp
  | succ d ih =>
    intro k hd hk
    obtain ⟨k, rfl⟩ : ∃ m, k = m + 1 := ⟨k - 1, by omega⟩
    have hlt : d < s.size := by omega
    have hu := unle_drop_lt s d h8
    have hx := (s.data.toList[d]'(by simpa using hlt)).toNat_lt
    have ed : ((d + 1 : Nat) : Int) - 1 = (d : Int) := by omega
    simp only [num_Unfix.l0]
    rw [ed, if_pos (by omega), if_pos (by omega), if_pos (by omega), bt_getD s d hlt, u64w (by omega) (by omega), u64w (by omega) (by omega), w64 (by omega) (by omega)]
    have e : bits .or .u64 (((unle (s.data.toList.drop (d + 1)) : Nat) : Int) * 256) ((s.data.toList[d]'(by simpa using hlt)).toNat : Int) = ((unle (s.data.toList.drop d) : Nat) : Int) := by
      rw [show (((unle (s.data.toList.drop (d + 1)) : Nat) : Int) * 256) = ((2 ^ 8 * unle (s.data.toList.drop (d + 1)) : Nat) : Int) by omega,
        u64_bits_or _ _ (by omega) (by omega), ← Nat.two_pow_add_eq_or_of_lt (i := 8) hx, unle_drop s d hlt]
      omega
    rw [e]
    exact ih k (by omega) (by omega)
def UNFIX (s : ByteArray) : Nat := unle s.data.toList
theorem UNFIX_lt (s : ByteArray) : UNFIX s < 256 ^ s.size := by
  have h := unle_lt s.data.toList
  rwa [show s.data.toList.length = s.size by simp] at h
theorem numUnfix (s : ByteArray) (k : Nat) (h1 : 1 ≤ s.size) (h8 : s.size ≤ 8) (hk : 10 ≤ k) : num_Unfix.f k s = some (((UNFIX s : Nat) : Int), 0) := by
  obtain ⟨k, rfl⟩ : ∃ m, k = m + 1 := ⟨k - 1, by omega⟩
  unfold num_Unfix.f
  have hd : decide ((s.size : Int) > 8) = false := by simp; omega
  rw [if_neg (by omega), hd]
  simp only [num_Unfix.j0]
  rw [if_neg (by simp), w64 (by omega) (by omega)]
  have h := numUnfix_l0 s h8 s.size k (Nat.le_refl _) (by omega)
  rw [List.drop_of_length_le (by simp)] at h
  exact h
theorem refUnfix_l0 (s : ByteArray) (h8 : s.size ≤ 8) : ∀ (d k : Nat), d ≤ s.size → d < k →
    lodestarref01_Unfix.l0 k s ((unle (s.data.toList.drop d) : Nat) : Int) ((d : Int) - 1) = some (((unle s.data.toList : Nat) : Int), 0) := by
  intro d
  induction d with
  | zero =>
    intro k _ hk
    obtain ⟨k, rfl⟩ : ∃ m, k = m + 1 := ⟨k - 1, by omega⟩
    simp only [lodestarref01_Unfix.l0]
    rw [if_neg (by omega)]
    simp
  | succ d ih =>
    intro k hd hk
    obtain ⟨k, rfl⟩ : ∃ m, k = m + 1 := ⟨k - 1, by omega⟩
    have hlt : d < s.size := by omega
    have hu := unle_drop_lt s d h8
    have hx := (s.data.toList[d]'(by simpa using hlt)).toNat_lt
    have hv : unle (s.data.toList.drop d) < 256 * 256 ^ 7 := by rw [unle_drop s d hlt]; omega
    have ed : ((d + 1 : Nat) : Int) - 1 = (d : Int) := by omega
    simp only [lodestarref01_Unfix.l0]
    rw [ed, if_pos (by omega), if_pos (by omega), if_pos (by omega), bt_getD s d hlt, u64w (x := ((unle (s.data.toList.drop (d + 1)) : Nat) : Int) * 256) (by omega) (by omega), u64w (x := ((s.data.toList[d]'(by simpa using hlt)).toNat : Int)) (by omega) (by omega)]
    have e : (((unle (s.data.toList.drop (d + 1)) : Nat) : Int) * 256) + ((s.data.toList[d]'(by simpa using hlt)).toNat : Int) = ((unle (s.data.toList.drop d) : Nat) : Int) := by
      rw [unle_drop s d hlt]
      omega
    rw [e, u64w (by omega) (by omega), w64 (by omega) (by omega)]
    exact ih k (by omega) (by omega)
theorem refUnfix (s : ByteArray) (k : Nat) (h1 : 1 ≤ s.size) (h8 : s.size ≤ 8) (hk : 10 ≤ k) : lodestarref01_Unfix.f k s = some (((UNFIX s : Nat) : Int), 0) := by
  obtain ⟨k, rfl⟩ : ∃ m, k = m + 1 := ⟨k - 1, by omega⟩
  unfold lodestarref01_Unfix.f
  have hd : decide ((s.size : Int) > 8) = false := by simp; omega
  rw [if_neg (by omega), hd]
  simp only [lodestarref01_Unfix.j0]
  rw [if_neg (by simp), w64 (by omega) (by omega)]
  have h := refUnfix_l0 s h8 s.size k (Nat.le_refl _) (by omega)
  rw [List.drop_of_length_le (by simp)] at h
  exact h
theorem FIX_data (n w : Nat) : (FIX n w).data.toList = (leB w n).map fun x => UInt8.ofNat x.toNat := strOfNums_data _
theorem unle_FIX : ∀ (w n : Nat), n < 256 ^ w → unle ((leB w n).map fun x => UInt8.ofNat x.toNat) = n
  | 0, n, h => by simp at h; simp [leB, unle, h]
  | w + 1, n, h => by
    have hd : n / 256 < 256 ^ w := by rw [Nat.div_lt_iff_lt_mul (by omega), ← Nat.pow_succ]; exact h
    simp only [leB, List.map_cons, unle]
    rw [unle_FIX w (n / 256) hd]
    simp
    omega
theorem UNFIX_FIX (n w : Nat) (h : n < 256 ^ w) : UNFIX (FIX n w) = n := by
  unfold UNFIX
  rw [FIX_data, unle_FIX w n h]
end Go.Proofs.YtomhgoahhlnjpaaGreatDoor.WalA

/- A record's bytes, the record with which bytes begin, the records of any bytes: the program and the document answer the same. -/
namespace Go.Proofs.YtomhgoahhlnjpaaGreatDoor.WalB
open Go.RowKit Go.Proofs.YtomhgoahhlnjpaaGreatDoor.PWal Go.Proofs.YtomhgoahhlnjpaaGreatDoor.WalA Go.Proofs.YtomhgoahhlnjpaaGreatDoorW.PrintWords Go.Proofs.YtomhgoahhlnjpaaGreatDoorW.PrintLast Go.Proofs.YtomhgoahhlnjpaaGreatDoorW.PrintMore

def HEAD (n : Nat) (b : ByteArray) : ByteArray := FIX b.size 4 ++ FIX n 8
def FRAME (n : Nat) (b : ByteArray) : ByteArray := ((HEAD n b ++ SUM (HEAD n b)) ++ b) ++ SUM (FIX n 8 ++ b)
theorem HEAD_size (n : Nat) (b : ByteArray) : (HEAD n b).size = 12 := by rw [HEAD, ByteArray.size_append, FIX_size, FIX_size]
theorem FRAME_size (n : Nat) (b : ByteArray) : (FRAME n b).size = 20 + b.size := by
  simp only [FRAME, ByteArray.size_append, HEAD_size, SUM_size]
  omega
/-- a record that may be -/
def OkRec (a : Int) (b : ByteArray) : Prop := 1 ≤ a ∧ a ≤ 4503599627370496 ∧ b.size ≤ 16777216
instance (a : Int) (b : ByteArray) : Decidable (OkRec a b) := by unfold OkRec; infer_instance
def FRAMES (a : Int) (b : ByteArray) : ByteArray × Int := if OkRec a b then (FRAME a.toNat b, 0) else (⟨#[]⟩, 1)

theorem walFrame (a : Int) (b : ByteArray) (k : Nat) (hk : 20 ≤ k) : wal_Frame.f k a b = some (FRAMES a b) := by
  have hj : ∀ k, 11 ≤ k → wal_Frame.j0 k true a b = some ((⟨#[]⟩ : ByteArray), 1) := by
    intro k hk
    obtain ⟨k, rfl⟩ : ∃ m, k = m + 1 := ⟨k - 1, by omega⟩
    simp only [wal_Frame.j0]
    rw [if_pos trivial]
  unfold wal_Frame.f FRAMES
  by_cases h1 : a < 1
  · rw [if_pos h1, hj k (by omega), if_neg (by unfold OkRec; omega)]
  · rw [if_neg h1]
    by_cases h2 : a > 4503599627370496
    · rw [if_pos h2, hj k (by omega), if_neg (by unfold OkRec; omega)]
    · rw [if_neg h2]
      by_cases h3 : (b.size : Int) > 16777216
      · rw [decide_eq_true h3, hj k (by omega), if_neg (by unfold OkRec; omega)]
      · have hok : OkRec a b := by unfold OkRec; omega
        obtain ⟨k, rfl⟩ : ∃ m, k = m + 1 := ⟨k - 1, by omega⟩
        obtain ⟨n, rfl⟩ : ∃ n : Nat, a = n := ⟨a.toNat, by omega⟩
        rw [decide_eq_false h3, if_pos hok]
        simp only [wal_Frame.j0]
        have z1 := FIX_size b.size 4
        have z2 := FIX_size n 8
        rw [if_neg (by simp), show (8 : Int) = ((8 : Nat) : Int) from rfl, walFix n 8 k (by omega) (by omega) (by omega) (by omega)]
        simp only [Option.bind_some]
        rw [show (4 : Int) = ((4 : Nat) : Int) from rfl, walFix b.size 4 k (by omega) (by omega) (by omega) (by omega)]
        simp only [Option.bind_some]
        rw [if_pos (by omega), walSum _ k (by rw [ByteArray.size_append]; omega) (by omega)]
        simp only [Option.bind_some, ByteArray.size_append, SUM_size]
        rw [if_pos (by omega), if_pos (by omega), if_pos (by omega), walSum _ k (by rw [ByteArray.size_append]; omega) (by omega)]
        simp only [Option.bind_some, SUM_size]
        rw [if_pos (by omega)]
        simp [FRAME, HEAD]
theorem refFrame (a : Int) (b : ByteArray) (k : Nat) (hk : 10 * b.size + 200 ≤ k) : lodestarref09_Frame.f k a b = some (FRAMES a b) := by
  have hj : ∀ k, 11 ≤ k → lodestarref09_Frame.j0 k true a b = some ((⟨#[]⟩ : ByteArray), 1) := by
    intro k hk
    obtain ⟨k, rfl⟩ : ∃ m, k = m + 1 := ⟨k - 1, by omega⟩
    simp only [lodestarref09_Frame.j0]
    rw [if_pos trivial]
  unfold lodestarref09_Frame.f FRAMES
  by_cases h1 : a < 1
  · rw [if_pos h1, hj k (by omega), if_neg (by unfold OkRec; omega)]
  · rw [if_neg h1]
    by_cases h2 : a > 4503599627370496
    · rw [if_pos h2, hj k (by omega), if_neg (by unfold OkRec; omega)]
    · rw [if_neg h2]
      by_cases h3 : (b.size : Int) > 16777216
      · rw [decide_eq_true h3, hj k (by omega), if_neg (by unfold OkRec; omega)]
      · have hok : OkRec a b := by unfold OkRec; omega
        obtain ⟨k, rfl⟩ : ∃ m, k = m + 1 := ⟨k - 1, by omega⟩
        obtain ⟨n, rfl⟩ : ∃ n : Nat, a = n := ⟨a.toNat, by omega⟩
        rw [decide_eq_false h3, if_pos hok]
        simp only [lodestarref09_Frame.j0]
        have z1 := FIX_size b.size 4
        have z2 := FIX_size n 8
        rw [if_neg (by simp), u64w (by omega) (by omega), show (8 : Int) = ((8 : Nat) : Int) from rfl, refFixed n 8 k (by omega) (by omega) (by omega) (by omega)]
        simp only [Option.bind_some]
        rw [u64w (by omega) (by omega), show (4 : Int) = ((4 : Nat) : Int) from rfl, refFixed b.size 4 k (by omega) (by omega) (by omega) (by omega)]
        simp only [Option.bind_some]
        rw [if_pos (by omega), refSum' _ k (by rw [ByteArray.size_append]; omega) (by rw [ByteArray.size_append]; omega)]
        simp only [Option.bind_some, ByteArray.size_append, SUM_size]
        rw [if_pos (by omega), if_pos (by omega), if_pos (by omega), refSum' _ k (by rw [ByteArray.size_append]; omega) (by rw [ByteArray.size_append]; omega)]
        simp only [Option.bind_some, SUM_size]
        rw [if_pos (by omega)]
        simp [FRAME, HEAD]

/-! the record with which bytes begin -/
def NONE (e : Int) : Int × ByteArray × Int × Int := (0, ⟨#[]⟩, 0, e)
def FIRST (s : ByteArray) : Int × ByteArray × Int × Int :=
  if s.size < 16 then NONE 91
  else if (SUM (s.extract 0 12)).toList = (s.extract 12 16).toList then
    if UNFIX (s.extract 0 4) > 16777216 ∨ UNFIX (s.extract 4 12) < 1 ∨ UNFIX (s.extract 4 12) > 4503599627370496 then NONE 90
    else if s.size < 20 + UNFIX (s.extract 0 4) then NONE 91
    else if (SUM (s.extract 4 12 ++ s.extract 16 (16 + UNFIX (s.extract 0 4)))).toList = (s.extract (16 + UNFIX (s.extract 0 4)) (20 + UNFIX (s.extract 0 4))).toList then
      ((UNFIX (s.extract 4 12) : Int), s.extract 16 (16 + UNFIX (s.extract 0 4)), (20 + UNFIX (s.extract 0 4) : Int), 0)
    else NONE 90
  else NONE 90

theorem walFirst (s : ByteArray) (k : Nat) (hs : s.size ≤ 4611686018427387904) (hk : 20 ≤ k) : wal_first.f k s = some (FIRST s) := by
  unfold wal_first.f FIRST
  by_cases h1 : s.size < 16
  · rw [if_pos (by omega), if_pos h1]
    rfl
  · rw [if_neg (by omega), if_neg h1, if_pos (by omega), if_pos (by omega), walSum _ k (by rw [ByteArray.size_extract]; omega) (by omega)]
    simp only [Option.bind_some]
    rw [if_pos (by omega), if_pos (by omega)]
    by_cases h2 : (SUM (s.extract 0 12)).toList = (s.extract 12 16).toList
    · have z1 : (s.extract 0 4).size = 4 := by rw [ByteArray.size_extract]; omega
      have z2 : (s.extract 4 12).size = 8 := by rw [ByteArray.size_extract]; omega
      have u1 := UNFIX_lt (s.extract 0 4)
      have u2 := UNFIX_lt (s.extract 4 12)
      rw [z1] at u1
      rw [z2] at u2
      rw [if_pos h2, if_pos h2, if_pos (by omega), if_pos (by omega), numUnfix _ k (by omega) (by omega) (by omega)]
      simp only [Option.bind_some]
      rw [if_pos (by omega), numUnfix _ k (by omega) (by omega) (by omega)]
      simp only [Option.bind_some]
      generalize hn : UNFIX (s.extract 0 4) = n at u1 ⊢
      generalize hq : UNFIX (s.extract 4 12) = q at u2 ⊢
      obtain ⟨k, rfl⟩ : ∃ m, k = m + 1 := ⟨k - 1, by omega⟩
      have hj : wal_first.j0 (k + 1) s (n : Int) (q : Int) true = some (NONE 90) := by
        simp only [wal_first.j0]
        rw [if_pos trivial]
        rfl
      by_cases h3 : (n : Int) > 16777216
      · rw [if_pos h3, hj, if_pos (by omega)]
      · rw [if_neg h3]
        by_cases h4 : (q : Int) < 1
        · rw [if_pos h4, hj, if_pos (by omega)]
        · rw [if_neg h4]
          by_cases h5 : (q : Int) > 4503599627370496
          · rw [decide_eq_true h5, hj, if_pos (by omega)]
          · rw [decide_eq_false h5, if_neg (by omega)]
            simp only [wal_first.j0]
            have e1 : wrap64 (n : Int) = n := w64 (by omega) (by omega)
            have e2 : wrap64 (20 + (n : Int)) = 20 + n := w64 (by omega) (by omega)
            have e3 : wrap64 (20 + (n : Int) - 4) = 16 + n := by rw [w64 (by omega) (by omega)]; omega
            have e4 : wrap64 (q : Int) = q := w64 (by omega) (by omega)
            rw [e1, e2, e3, e4, if_neg (by simp)]
            by_cases h6 : s.size < 20 + n
            · rw [if_pos (by omega), if_pos h6]
              rfl
            · have t1 : (16 + (n : Int)).toNat = 16 + n := by omega
              have t2 : (20 + (n : Int)).toNat = 20 + n := by omega
              rw [if_neg (by omega), if_neg h6, t1, t2, if_pos (by omega), if_pos (by omega), if_pos (by omega), if_pos (by omega), if_pos (by simp only [ByteArray.size_extract]; omega),
                walSum _ k (by rw [ByteArray.size_append]; simp only [ByteArray.size_extract]; omega) (by omega)]
              simp only [Option.bind_some]
              rw [if_pos (by omega), if_pos (by omega), if_pos (by omega)]
              by_cases h7 : (SUM (s.extract 4 12 ++ s.extract 16 (16 + n))).toList = (s.extract (16 + n) (20 + n)).toList
              · rw [if_pos h7, if_pos h7]
              · rw [if_neg h7, if_neg h7]
                rfl
    · rw [if_neg h2, if_neg h2]
      rfl
theorem refOne (s : ByteArray) (k : Nat) (hs : s.size ≤ 4611686018427387904) (hk : 10 * s.size + 300 ≤ k) : lodestarref09_one.f k s = some (FIRST s) := by
  unfold lodestarref09_one.f FIRST
  by_cases h1 : s.size < 16
  · rw [if_pos (by omega), if_pos h1]
    rfl
  · rw [if_neg (by omega), if_neg h1, if_pos (by omega), if_pos (by omega), refSum' _ k (by rw [ByteArray.size_extract]; omega) (by rw [ByteArray.size_extract]; omega)]
    simp only [Option.bind_some]
    rw [if_pos (by omega), if_pos (by omega)]
    by_cases h2 : (SUM (s.extract 0 12)).toList = (s.extract 12 16).toList
    · have z1 : (s.extract 0 4).size = 4 := by rw [ByteArray.size_extract]; omega
      have z2 : (s.extract 4 12).size = 8 := by rw [ByteArray.size_extract]; omega
      have u1 := UNFIX_lt (s.extract 0 4)
      have u2 := UNFIX_lt (s.extract 4 12)
      rw [z1] at u1
      rw [z2] at u2
      have hu : lodestarref09_unfix.f k (s.extract 0 4) = some ((UNFIX (s.extract 0 4) : Nat) : Int) := by
        unfold lodestarref09_unfix.f
        rw [refUnfix _ k (by omega) (by omega) (by omega)]
        simp only [Option.bind_some]
        rw [w64 (by omega) (by omega)]
      rw [if_pos h2, if_pos h2, if_pos (by omega), if_pos (by omega), hu]
      simp only [Option.bind_some]
      rw [if_pos (by omega), refUnfix _ k (by omega) (by omega) (by omega)]
      simp only [Option.bind_some]
      generalize hn : UNFIX (s.extract 0 4) = n at u1 ⊢
      generalize hq : UNFIX (s.extract 4 12) = q at u2 ⊢
      obtain ⟨k, rfl⟩ : ∃ m, k = m + 1 := ⟨k - 1, by omega⟩
      have hj : lodestarref09_one.j0 (k + 1) s (n : Int) (q : Int) true = some (NONE 90) := by
        simp only [lodestarref09_one.j0]
        rw [if_pos trivial]
        rfl
      by_cases h3 : (n : Int) > 16777216
      · rw [if_pos h3, hj, if_pos (by omega)]
      · rw [if_neg h3]
        by_cases h4 : (q : Int) < 1
        · rw [if_pos h4, hj, if_pos (by omega)]
        · rw [if_neg h4]
          by_cases h5 : (q : Int) > 4503599627370496
          · rw [decide_eq_true h5, hj, if_pos (by omega)]
          · rw [decide_eq_false h5, if_neg (by omega)]
            simp only [lodestarref09_one.j0]
            have e2 : wrap64 (20 + (n : Int)) = 20 + n := w64 (by omega) (by omega)
            have e3 : wrap64 (16 + (n : Int)) = 16 + n := w64 (by omega) (by omega)
            have e4 : wrap64 (q : Int) = q := w64 (by omega) (by omega)
            rw [e2, e3, e4, if_neg (by simp)]
            by_cases h6 : s.size < 20 + n
            · rw [if_pos (by omega), if_pos h6]
              rfl
            · have t1 : (16 + (n : Int)).toNat = 16 + n := by omega
              have t2 : (20 + (n : Int)).toNat = 20 + n := by omega
              rw [if_neg (by omega), if_neg h6, t1, t2, if_pos (by omega), if_pos (by omega), if_pos (by omega), if_pos (by omega), if_pos (by simp only [ByteArray.size_extract]; omega),
                refSum' _ k (by rw [ByteArray.size_append]; simp only [ByteArray.size_extract]; omega) (by rw [ByteArray.size_append]; simp only [ByteArray.size_extract]; omega)]
              simp only [Option.bind_some]
              rw [if_pos (by omega), if_pos (by omega), if_pos (by omega)]
              by_cases h7 : (SUM (s.extract 4 12 ++ s.extract 16 (16 + n))).toList = (s.extract (16 + n) (20 + n)).toList
              · rw [if_pos h7, if_pos h7]
              · rw [if_neg h7, if_neg h7]
                rfl
    · rw [if_neg h2, if_neg h2]
      rfl

/-- what is found is no longer than what is there -/
theorem FIRST_in (s : ByteArray) (h : (FIRST s).2.2.2 = 0) : 1 ≤ (FIRST s).1 ∧ (FIRST s).1 ≤ 4503599627370496 ∧ 20 ≤ (FIRST s).2.2.1 ∧ (FIRST s).2.2.1 ≤ s.size := by
  unfold FIRST at h ⊢
  by_cases h1 : s.size < 16
  · rw [if_pos h1] at h
    exact absurd h (by simp [NONE])
  · rw [if_neg h1] at h ⊢
    by_cases h2 : (SUM (s.extract 0 12)).toList = (s.extract 12 16).toList
    · rw [if_pos h2] at h ⊢
      by_cases h3 : UNFIX (s.extract 0 4) > 16777216 ∨ UNFIX (s.extract 4 12) < 1 ∨ UNFIX (s.extract 4 12) > 4503599627370496
      · rw [if_pos h3] at h
        exact absurd h (by simp [NONE])
      · rw [if_neg h3] at h ⊢
        by_cases h6 : s.size < 20 + UNFIX (s.extract 0 4)
        · rw [if_pos h6] at h
          exact absurd h (by simp [NONE])
        · rw [if_neg h6] at h ⊢
          by_cases h7 : (SUM (s.extract 4 12 ++ s.extract 16 (16 + UNFIX (s.extract 0 4)))).toList = (s.extract (16 + UNFIX (s.extract 0 4)) (20 + UNFIX (s.extract 0 4))).toList
          · rw [if_pos h7]
            simp only
            omega
          · rw [if_neg h7] at h
            exact absurd h (by simp [NONE])
    · rw [if_neg h2] at h
      exact absurd h (by simp [NONE])

/-! the records of any bytes -/
/-- the error of a record at its place -/
def errAt (acc : List S61) (r : Int × ByteArray × Int × Int) : Int :=
  if r.2.2.2 = 0 then (if acc.length > 0 ∧ r.1 ≠ (rd_T61 acc ((acc.length : Int) - 1)).f0 + 1 then 90 else 0) else r.2.2.2
def scanGo (s : ByteArray) : Nat → List S61 → Nat → List S61 × Int × Int
  | 0, acc, at_ => (acc, (at_ : Int), 0)
  | f + 1, acc, at_ =>
    if at_ < s.size then
      (if errAt acc (FIRST (s.extract at_ s.size)) = 0 then scanGo s f (acc ++ [⟨(FIRST (s.extract at_ s.size)).1, (FIRST (s.extract at_ s.size)).2.1⟩]) (at_ + (FIRST (s.extract at_ s.size)).2.2.1.toNat)
      else (acc, (at_ : Int), errAt acc (FIRST (s.extract at_ s.size))))
    else (acc, (at_ : Int), 0)
def SCAN (s : ByteArray) : List S61 × Int × Int := scanGo s (s.size + 1) [] 0
/-- numbers in range: the next one's sum stays bare -/
def Seqs (acc : List S61) : Prop := ∀ x ∈ acc, 1 ≤ x.f0 ∧ x.f0 ≤ 4503599627370496
theorem Seqs.last {acc : List S61} (h : Seqs acc) (h0 : acc.length > 0) : 1 ≤ (rd_T61 acc ((acc.length : Int) - 1)).f0 ∧ (rd_T61 acc ((acc.length : Int) - 1)).f0 ≤ 4503599627370496 := by
  unfold rd_T61
  have e : ((acc.length : Int) - 1).toNat = acc.length - 1 := by omega
  rw [e, List.getD_eq_getElem?_getD, List.getElem?_eq_getElem (by omega)]
  exact h _ (List.getElem_mem _)
theorem Seqs.snoc {acc : List S61} (h : Seqs acc) {x : S61} (hx : 1 ≤ x.f0 ∧ x.f0 ≤ 4503599627370496) : Seqs (acc ++ [x]) := by
  intro y hy
  rcases List.mem_append.1 hy with hy | hy
  · exact h y hy
  · rw [List.mem_singleton] at hy
    subst hy
    exact hx

theorem walScan_l0 (s : ByteArray) (hs : s.size ≤ 1099511627776) : ∀ (f : Nat) (acc : List S61) (at_ k : Nat), s.size - at_ < f → at_ ≤ s.size → acc.length * 20 ≤ at_ → Seqs acc → 2 * f + 30 ≤ k →
    wal_Scan.l0 k s acc (at_ : Int) = some (scanGo s f acc at_) := by
  intro f
  induction f with
  | zero =>
    intro acc at_ k hf
    omega
  | succ f ih =>
    intro acc at_ k hf hat hacc hq hk
    obtain ⟨k, rfl⟩ : ∃ m, k = m + 1 + 1 := ⟨k - 2, by omega⟩
    rw [wal_Scan.l0, scanGo]
    by_cases h1 : at_ < s.size
    · have hsz : (s.extract at_ s.size).size = s.size - at_ := by rw [ByteArray.size_extract]; omega
      have t0 : ((at_ : Int)).toNat = at_ := by omega
      rw [if_pos (by omega), if_pos h1, if_pos (by omega), if_pos (by omega), t0, walFirst _ (k + 1) (by omega) (by omega)]
      simp only [Option.bind_some]
      have hin := FIRST_in (s.extract at_ s.size)
      generalize FIRST (s.extract at_ s.size) = r at hin ⊢
      obtain ⟨rq, rb, rn, re⟩ := r
      simp only at hin ⊢
      -- what stands behind the test
      have hrest : ∀ (b : Bool), errAt acc (rq, rb, rn, re) = (if b = true then 90 else re) →
          wal_Scan.j1 (k + 1) s acc (at_ : Int) rn re b rq rb = some (if errAt acc (rq, rb, rn, re) = 0 then scanGo s f (acc ++ [⟨rq, rb⟩]) (at_ + rn.toNat) else (acc, (at_ : Int), errAt acc (rq, rb, rn, re))) := by
        intro b hb
        rw [hb]
        rw [wal_Scan.j1]
        cases b with
        | true =>
          simp
        | false =>
          simp only [Bool.false_eq_true, if_false]
          by_cases h2 : re = 0
          · obtain ⟨i1, i2, i3, i4⟩ := hin h2
            rw [hsz] at i4
            rw [if_pos h2, if_pos h2, if_pos (by omega), w64 (by omega) (by omega)]
            have e : (at_ : Int) + rn = ((at_ + rn.toNat : Nat) : Int) := by omega
            rw [e, ih _ _ k (by omega) (by omega) (by rw [List.length_append, List.length_singleton]; omega) (hq.snoc ⟨i1, i2⟩) (by omega)]
          · rw [if_neg h2, if_neg h2]
      by_cases h2 : re = 0
      · rw [if_pos h2]
        obtain ⟨i1, i2, i3, i4⟩ := hin h2
        by_cases h3 : (acc.length : Int) > 0
        · have hl : wrap64 ((acc.length : Int) - 1) = (acc.length : Int) - 1 := w64 (by omega) (by omega)
          obtain ⟨l1, l2⟩ := hq.last (by omega)
          rw [if_pos h3, hl, if_pos (by omega), if_pos (by omega), w64 (x := (rd_T61 acc ((acc.length : Int) - 1)).f0 + 1) (by omega) (by omega)]
          apply hrest
          unfold errAt
          rw [if_pos h2]
          by_cases h4 : rq = (rd_T61 acc ((acc.length : Int) - 1)).f0 + 1
          · rw [if_neg (by rintro ⟨_, h⟩; exact h h4), if_neg (by simp [h4]), h2]
          · rw [if_pos ⟨by omega, h4⟩, if_pos (by simpa using h4)]
        · rw [if_neg h3]
          apply hrest
          unfold errAt
          rw [if_pos h2, if_neg (by omega), if_neg (by simp), h2]
      · rw [if_neg h2]
        apply hrest
        unfold errAt
        rw [if_neg h2, if_neg (by simp)]
    · rw [if_neg (by omega), if_neg h1]
theorem refScan_l0 (s : ByteArray) (hs : s.size ≤ 1099511627776) : ∀ (f : Nat) (acc : List S61) (at_ k : Nat), s.size - at_ < f → at_ ≤ s.size → acc.length * 20 ≤ at_ → Seqs acc → 2 * f + 10 * s.size + 310 ≤ k →
    lodestarref09_Scan.l0 k s acc (at_ : Int) = some (scanGo s f acc at_) := by
  intro f
  induction f with
  | zero =>
    intro acc at_ k hf
    omega
  | succ f ih =>
    intro acc at_ k hf hat hacc hq hk
    obtain ⟨k, rfl⟩ : ∃ m, k = m + 1 + 1 := ⟨k - 2, by omega⟩
    rw [lodestarref09_Scan.l0, scanGo]
    by_cases h1 : at_ < s.size
    · have hsz : (s.extract at_ s.size).size = s.size - at_ := by rw [ByteArray.size_extract]; omega
      have t0 : ((at_ : Int)).toNat = at_ := by omega
      rw [if_pos (by omega), if_pos h1, if_pos (by omega), if_pos (by omega), t0, refOne _ (k + 1) (by omega) (by omega)]
      simp only [Option.bind_some]
      have hin := FIRST_in (s.extract at_ s.size)
      generalize FIRST (s.extract at_ s.size) = r at hin ⊢
      obtain ⟨rq, rb, rn, re⟩ := r
      simp only at hin ⊢
      have hrest : ∀ (b : Bool), errAt acc (rq, rb, rn, re) = (if b = true then 90 else re) →
          lodestarref09_Scan.j1 (k + 1) s acc (at_ : Int) rn re b rq rb = some (if errAt acc (rq, rb, rn, re) = 0 then scanGo s f (acc ++ [⟨rq, rb⟩]) (at_ + rn.toNat) else (acc, (at_ : Int), errAt acc (rq, rb, rn, re))) := by
        intro b hb
        rw [hb]
        rw [lodestarref09_Scan.j1]
        cases b with
        | true =>
          simp
        | false =>
          simp only [Bool.false_eq_true, if_false]
          by_cases h2 : re = 0
          · obtain ⟨i1, i2, i3, i4⟩ := hin h2
            rw [hsz] at i4
            rw [if_pos h2, if_pos h2, if_pos (by omega), w64 (by omega) (by omega)]
            have e : (at_ : Int) + rn = ((at_ + rn.toNat : Nat) : Int) := by omega
            rw [e, ih _ _ k (by omega) (by omega) (by rw [List.length_append, List.length_singleton]; omega) (hq.snoc ⟨i1, i2⟩) (by omega)]
          · rw [if_neg h2, if_neg h2]
      by_cases h2 : re = 0
      · rw [if_pos h2]
        obtain ⟨i1, i2, i3, i4⟩ := hin h2
        by_cases h3 : (acc.length : Int) > 0
        · have hl : wrap64 ((acc.length : Int) - 1) = (acc.length : Int) - 1 := w64 (by omega) (by omega)
          obtain ⟨l1, l2⟩ := hq.last (by omega)
          rw [if_pos h3, hl, if_pos (by omega), if_pos (by omega), w64 (x := (rd_T61 acc ((acc.length : Int) - 1)).f0 + 1) (by omega) (by omega)]
          apply hrest
          unfold errAt
          rw [if_pos h2]
          by_cases h4 : rq = (rd_T61 acc ((acc.length : Int) - 1)).f0 + 1
          · rw [if_neg (by rintro ⟨_, h⟩; exact h h4), if_neg (by simp [h4]), h2]
          · rw [if_pos ⟨by omega, h4⟩, if_pos (by simpa using h4)]
        · rw [if_neg h3]
          apply hrest
          unfold errAt
          rw [if_pos h2, if_neg (by omega), if_neg (by simp), h2]
      · rw [if_neg h2]
        apply hrest
        unfold errAt
        rw [if_neg h2, if_neg (by simp)]
    · rw [if_neg (by omega), if_neg h1]
theorem walScan (s : ByteArray) (k : Nat) (hs : s.size ≤ 1099511627776) (hk : 2 * s.size + 40 ≤ k) : wal_Scan.f k s = some (SCAN s) :=
  walScan_l0 s hs (s.size + 1) [] 0 k (by omega) (by omega) (by simp) (fun _ h => by cases h) (by omega)
theorem refScan (s : ByteArray) (k : Nat) (hs : s.size ≤ 1099511627776) (hk : 12 * s.size + 400 ≤ k) : lodestarref09_Scan.f k s = some (SCAN s) :=
  refScan_l0 s hs (s.size + 1) [] 0 k (by omega) (by omega) (by simp) (fun _ h => by cases h) (by omega)

/-- a list of records is the same as itself -/
theorem same_l0 (l : List S61) (hl : l.length ≤ 1099511627776) : ∀ (d i k : Nat), i + d = l.length → d < k → lodestarref09_Same.l0 k l l (i : Int) = some true := by
  intro d
  induction d with
  | zero =>
    intro i k hi hk
    obtain ⟨k, rfl⟩ : ∃ m, k = m + 1 := ⟨k - 1, by omega⟩
    rw [lodestarref09_Same.l0, if_neg (by omega)]
  | succ d ih =>
    intro i k hi hk
    obtain ⟨k, rfl⟩ : ∃ m, k = m + 1 := ⟨k - 1, by omega⟩
    rw [lodestarref09_Same.l0, if_pos (by omega), if_pos (by omega), if_pos (by omega), if_neg (by simp), w64 (by omega) (by omega)]
    exact ih (i + 1) k (by omega) (by omega)
theorem same_self (l : List S61) (k : Nat) (hl : l.length ≤ 1099511627776) (hk : l.length < k) : lodestarref09_Same.f k l l = some true := by
  unfold lodestarref09_Same.f
  rw [if_pos rfl]
  exact same_l0 l hl l.length 0 k (by omega) hk
theorem scanGo_length (s : ByteArray) : ∀ (f : Nat) (acc : List S61) (at_ : Nat), at_ ≤ s.size → acc.length * 20 ≤ at_ → (scanGo s f acc at_).1.length * 20 ≤ s.size
  | 0, acc, at_, h1, h2 => by rw [scanGo]; simp only; omega
  | f + 1, acc, at_, h1, h2 => by
    rw [scanGo]
    by_cases h : at_ < s.size
    · rw [if_pos h]
      by_cases he : errAt acc (FIRST (s.extract at_ s.size)) = 0
      · rw [if_pos he]
        have h0 : (FIRST (s.extract at_ s.size)).2.2.2 = 0 := by
          unfold errAt at he
          by_cases h0 : (FIRST (s.extract at_ s.size)).2.2.2 = 0
          · exact h0
          · rw [if_neg h0] at he
            exact absurd he h0
        obtain ⟨_, _, i3, i4⟩ := FIRST_in _ h0
        rw [ByteArray.size_extract] at i4
        exact scanGo_length s f _ _ (by omega) (by rw [List.length_append, List.length_singleton]; omega)
      · rw [if_neg he]
        simp only
        omega
    · rw [if_neg h]
      simp only
      omega
theorem SCAN_length (s : ByteArray) : (SCAN s).1.length * 20 ≤ s.size := scanGo_length s _ _ _ (by omega) (by simp)
end Go.Proofs.YtomhgoahhlnjpaaGreatDoor.WalB

/- Records one behind the other: what is found where they are whole, and where they are cut off. -/
namespace Go.Proofs.YtomhgoahhlnjpaaGreatDoor.WalC
open Go.RowKit Go.Proofs.YtomhgoahhlnjpaaGreatDoor.PWal Go.Proofs.YtomhgoahhlnjpaaGreatDoor.WalA Go.Proofs.YtomhgoahhlnjpaaGreatDoor.WalB Go.Proofs.YtomhgoahhlnjpaaGreatDoorW.PrintWords Go.Proofs.YtomhgoahhlnjpaaGreatDoorW.PrintLast Go.Proofs.YtomhgoahhlnjpaaGreatDoorW.PrintMore

theorem ext_left (a b : ByteArray) (i j : Nat) (hj : j ≤ a.size) : (a ++ b).extract i j = a.extract i j := by
  rw [ByteArray.extract_append]
  have e : b.extract (i - a.size) (j - a.size) = ByteArray.empty := by rw [ByteArray.extract_eq_empty_iff]; omega
  rw [e, ByteArray.append_empty]
theorem ext_right (a b : ByteArray) (i j : Nat) (hi : a.size ≤ i) : (a ++ b).extract i j = b.extract (i - a.size) (j - a.size) := by
  rw [ByteArray.extract_append]
  have e : a.extract i j = ByteArray.empty := by rw [ByteArray.extract_eq_empty_iff]; omega
  rw [e, ByteArray.empty_append]
theorem ext_all (a : ByteArray) (j : Nat) (hj : a.size ≤ j) : a.extract 0 j = a := by
  have h := @ByteArray.extract_append_eq_left a ByteArray.empty a.size rfl
  rw [ByteArray.append_empty] at h
  have e : a.extract 0 j = a.extract 0 a.size := by
    apply ByteArray.ext
    simp only [ByteArray.data_extract]
    apply Array.ext_getElem?
    intro i
    simp only [Array.getElem?_extract]
    have hs : a.data.size = a.size := rfl
    by_cases hi : i < a.size
    · rw [if_pos (by omega), if_pos (by omega)]
    · rw [if_neg (by omega), if_neg (by omega)]
  rw [e, h]

/-- what a record's bytes begin with -/
theorem parts (n : Nat) (b : ByteArray) (m : Nat) : (FRAME n b).extract 0 m = (FRAME n b).extract 0 m := rfl
theorem FRAME_head (n : Nat) (b t : ByteArray) : (FRAME n b ++ t).extract 0 12 = HEAD n b := by
  rw [ext_left _ _ _ _ (by rw [FRAME_size]; omega)]
  unfold FRAME
  rw [ext_left _ _ _ _ (by simp only [ByteArray.size_append, HEAD_size, SUM_size]; omega), ext_left _ _ _ _ (by simp only [ByteArray.size_append, HEAD_size, SUM_size]; omega), ext_left _ _ _ _ (by rw [HEAD_size]; omega)]
  exact ext_all _ _ (by rw [HEAD_size]; omega)
theorem FRAME_hsum (n : Nat) (b t : ByteArray) : (FRAME n b ++ t).extract 12 16 = SUM (HEAD n b) := by
  rw [ext_left _ _ _ _ (by rw [FRAME_size]; omega)]
  unfold FRAME
  rw [ext_left _ _ _ _ (by simp only [ByteArray.size_append, HEAD_size, SUM_size]; omega), ext_left _ _ _ _ (by simp only [ByteArray.size_append, HEAD_size, SUM_size]; omega), ext_right _ _ _ _ (by rw [HEAD_size]; omega), HEAD_size]
  exact ext_all _ _ (by rw [SUM_size]; omega)
theorem FRAME_len (n : Nat) (b t : ByteArray) : (FRAME n b ++ t).extract 0 4 = FIX b.size 4 := by
  have h := congrArg (fun x => x.extract 0 4) (FRAME_head n b t)
  simp only [ByteArray.extract_extract] at h
  rw [show min (0 + 4) 12 = 4 from rfl, Nat.add_zero] at h
  rw [h]
  unfold HEAD
  rw [ext_left _ _ _ _ (by rw [FIX_size]; omega)]
  exact ext_all _ _ (by rw [FIX_size]; omega)
theorem FRAME_seq (n : Nat) (b t : ByteArray) : (FRAME n b ++ t).extract 4 12 = FIX n 8 := by
  have h := congrArg (fun x => x.extract 4 12) (FRAME_head n b t)
  simp only [ByteArray.extract_extract] at h
  rw [show min (0 + 12) 12 = 12 from rfl, Nat.zero_add] at h
  rw [h]
  unfold HEAD
  rw [ext_right _ _ _ _ (by rw [FIX_size]; omega), FIX_size]
  exact ext_all _ _ (by rw [FIX_size]; omega)
theorem FRAME_body (n : Nat) (b t : ByteArray) : (FRAME n b ++ t).extract 16 (16 + b.size) = b := by
  rw [ext_left _ _ _ _ (by rw [FRAME_size]; omega)]
  unfold FRAME
  rw [ext_left _ _ _ _ (by simp only [ByteArray.size_append, HEAD_size, SUM_size]; omega), ext_right _ _ _ _ (by simp only [ByteArray.size_append, HEAD_size, SUM_size]; omega)]
  simp only [ByteArray.size_append, HEAD_size, SUM_size]
  exact ext_all _ _ (by omega)
theorem FRAME_bsum (n : Nat) (b t : ByteArray) : (FRAME n b ++ t).extract (16 + b.size) (20 + b.size) = SUM (FIX n 8 ++ b) := by
  rw [ext_left _ _ _ _ (by rw [FRAME_size]; omega)]
  unfold FRAME
  rw [ext_right _ _ _ _ (by simp only [ByteArray.size_append, HEAD_size, SUM_size]; omega)]
  simp only [ByteArray.size_append, HEAD_size, SUM_size]
  rw [show 16 + b.size - (12 + 4 + b.size) = 0 by omega]
  exact ext_all _ _ (by rw [SUM_size]; omega)

/-- a whole record at the begin -/
theorem FIRST_frame (n : Nat) (b t : ByteArray) (h : OkRec n b) : FIRST (FRAME n b ++ t) = ((n : Int), b, (20 + b.size : Int), 0) := by
  unfold OkRec at h
  unfold FIRST
  have hz : (FRAME n b ++ t).size = 20 + b.size + t.size := by rw [ByteArray.size_append, FRAME_size]
  rw [if_neg (by omega), FRAME_head, FRAME_hsum, if_pos rfl, FRAME_len, FRAME_seq, UNFIX_FIX _ _ (by omega), UNFIX_FIX _ _ (by omega), if_neg (by omega), if_neg (by omega), FRAME_body, FRAME_bsum, if_pos rfl]
/-- a record that is cut off -/
theorem FIRST_torn (n : Nat) (b : ByteArray) (m : Nat) (h : OkRec n b) (hm : m < 20 + b.size) : FIRST ((FRAME n b).extract 0 m) = NONE 91 := by
  unfold OkRec at h
  have hz : ((FRAME n b).extract 0 m).size = m := by rw [ByteArray.size_extract, FRAME_size]; omega
  have hsub : ∀ i j, j ≤ m → ((FRAME n b).extract 0 m).extract i j = (FRAME n b ++ ByteArray.empty).extract i j := by
    intro i j hj
    rw [ByteArray.extract_extract, ByteArray.append_empty]
    congr 1
    · omega
    · omega
  unfold FIRST
  by_cases h1 : m < 16
  · rw [if_pos (by omega)]
  · rw [if_neg (by omega), hsub 0 12 (by omega), hsub 12 16 (by omega), hsub 0 4 (by omega), hsub 4 12 (by omega), FRAME_head, FRAME_hsum, if_pos rfl, FRAME_len, FRAME_seq, UNFIX_FIX _ _ (by omega), UNFIX_FIX _ _ (by omega), if_neg (by omega), if_pos (by omega)]

/-! records one behind the other -/
def JOIN : Nat → List ByteArray → ByteArray
  | _, [] => ByteArray.empty
  | n, b :: l => FRAME n b ++ JOIN (n + 1) l
def RECS : Nat → List ByteArray → List S61
  | _, [] => []
  | n, b :: l => ⟨(n : Int), b⟩ :: RECS (n + 1) l
theorem RECS_length : ∀ (n : Nat) (l : List ByteArray), (RECS n l).length = l.length
  | _, [] => rfl
  | n, b :: l => by simp [RECS, RECS_length (n + 1) l]
/-- the next number that fits behind what was found -/
def Next (acc : List S61) (n : Nat) : Prop := acc.length > 0 → (rd_T61 acc ((acc.length : Int) - 1)).f0 + 1 = n
theorem last_snoc (acc : List S61) (x : S61) : rd_T61 (acc ++ [x]) (((acc ++ [x]).length : Int) - 1) = x := by
  unfold rd_T61
  have e : (((acc ++ [x]).length : Int) - 1).toNat = acc.length := by rw [List.length_append, List.length_singleton]; omega
  rw [e, List.getD_eq_getElem?_getD, List.getElem?_append_right (by omega)]
  simp
theorem Next.snoc (acc : List S61) (n : Nat) (b : ByteArray) : Next (acc ++ [⟨(n : Int), b⟩]) (n + 1) := by
  intro _
  rw [last_snoc]
  simp
/-- the sum of the records' sizes -/
def LEN : List ByteArray → Nat
  | [] => 0
  | b :: l => 20 + b.size + LEN l
theorem JOIN_size : ∀ (n : Nat) (l : List ByteArray), (JOIN n l).size = LEN l
  | _, [] => rfl
  | n, b :: l => by rw [JOIN, ByteArray.size_append, FRAME_size, JOIN_size (n + 1) l, LEN]
/-- behind a beginning that is passed, a whole record is found -/
theorem scanGo_frame (p : ByteArray) (n : Nat) (b t : ByteArray) (f : Nat) (acc : List S61) (h : OkRec n b) (hx : Next acc n) :
    scanGo (p ++ (FRAME n b ++ t)) (f + 1) acc p.size = scanGo (p ++ (FRAME n b ++ t)) f (acc ++ [⟨(n : Int), b⟩]) (p.size + (20 + b.size)) := by
  have hz : (p ++ (FRAME n b ++ t)).size = p.size + (20 + b.size + t.size) := by simp only [ByteArray.size_append, FRAME_size]
  have he : (p ++ (FRAME n b ++ t)).extract p.size (p ++ (FRAME n b ++ t)).size = FRAME n b ++ t := by
    rw [ext_right _ _ _ _ (by omega), hz, Nat.sub_self]
    exact ext_all _ _ (by simp only [ByteArray.size_append, FRAME_size]; omega)
  rw [scanGo, if_pos (by omega), he, FIRST_frame n b t h]
  have hr : errAt acc ((n : Int), b, (20 + b.size : Int), 0) = 0 := by
    unfold errAt
    rw [if_pos rfl, if_neg]
    rintro ⟨h0, h1⟩
    exact h1 (hx h0).symm
  have ht : (20 + (b.size : Int)).toNat = 20 + b.size := by omega
  rw [hr, if_pos rfl]
  simp only [ht]
theorem scanGo_join : ∀ (l : List ByteArray) (p : ByteArray) (n : Nat) (t : ByteArray) (f : Nat) (acc : List S61), (∀ j, (hj : j < l.length) → OkRec ((n + j : Nat) : Int) l[j]) → Next acc n →
    scanGo (p ++ (JOIN n l ++ t)) (f + l.length) acc p.size = scanGo (p ++ (JOIN n l ++ t)) f (acc ++ RECS n l) (p.size + LEN l) := by
  intro l
  induction l with
  | nil =>
    intro p n t f acc _ _
    simp [RECS, LEN]
  | cons b l ih =>
    intro p n t f acc hok hx
    have h0 := hok 0 (by simp)
    simp only [Nat.add_zero, List.getElem_cons_zero] at h0
    have e1 : p ++ (JOIN n (b :: l) ++ t) = p ++ (FRAME n b ++ (JOIN (n + 1) l ++ t)) := by rw [JOIN, ByteArray.append_assoc]
    have e2 : p ++ (FRAME n b ++ (JOIN (n + 1) l ++ t)) = (p ++ FRAME n b) ++ (JOIN (n + 1) l ++ t) := by rw [ByteArray.append_assoc]
    have e3 : f + (b :: l).length = (f + l.length) + 1 := by rw [List.length_cons]; omega
    have hz : (p ++ FRAME n b).size = p.size + (20 + b.size) := by rw [ByteArray.size_append, FRAME_size]
    rw [e1, e3, scanGo_frame p n b _ _ acc h0 hx, e2, ← hz, ih (p ++ FRAME n b) (n + 1) t f _ (fun j hj => by
      have h := hok (j + 1) (by simpa using hj)
      have e : n + (j + 1) = n + 1 + j := by omega
      rw [e] at h
      simpa using h) (Next.snoc acc n b), hz]
    simp only [RECS, LEN, List.append_assoc, List.singleton_append, Nat.add_assoc]
/-- what is left behind whole records: nothing, or a record that is cut off -/
theorem scanGo_rest (p : ByteArray) (n : Nat) (b : ByteArray) (m f : Nat) (acc : List S61) (h : OkRec n b) (hm : m < 20 + b.size) :
    scanGo (p ++ (FRAME n b).extract 0 m) (f + 1) acc p.size = (acc, (p.size : Int), if m = 0 then 0 else 91) := by
  have hz0 : ((FRAME n b).extract 0 m).size = m := by rw [ByteArray.size_extract, FRAME_size]; omega
  have hz : (p ++ (FRAME n b).extract 0 m).size = p.size + m := by rw [ByteArray.size_append, hz0]
  rw [scanGo]
  by_cases h0 : m = 0
  · rw [if_neg (by omega), if_pos h0]
  · have he : (p ++ (FRAME n b).extract 0 m).extract p.size (p ++ (FRAME n b).extract 0 m).size = (FRAME n b).extract 0 m := by
      rw [ext_right _ _ _ _ (by omega), hz, Nat.sub_self]
      exact ext_all _ _ (by omega)
    have hr : errAt acc (NONE 91) = 91 := by
      unfold errAt NONE
      rw [if_neg (by simp)]
    rw [if_pos (by omega), he, FIRST_torn n b m h hm, hr, if_neg (by simp), if_neg h0]
theorem scanGo_end (s : ByteArray) (f : Nat) (acc : List S61) : scanGo s (f + 1) acc s.size = (acc, (s.size : Int), 0) := by
  rw [scanGo, if_neg (by omega)]
theorem LEN_ge : ∀ l : List ByteArray, l.length ≤ LEN l
  | [] => by simp [LEN]
  | b :: l => by have := LEN_ge l; simp only [LEN, List.length_cons]; omega
/-- whole records, and behind them a record that is cut off -/
theorem SCAN_torn (n : Nat) (l : List ByteArray) (b : ByteArray) (m : Nat) (hok : ∀ j, (hj : j < l.length) → OkRec ((n + j : Nat) : Int) l[j]) (h : OkRec ((n + l.length : Nat) : Int) b) (hm : m < 20 + b.size) :
    SCAN (JOIN n l ++ (FRAME (n + l.length) b).extract 0 m) = (RECS n l, (LEN l : Int), if m = 0 then 0 else 91) := by
  unfold SCAN
  have hz : (JOIN n l ++ (FRAME (n + l.length) b).extract 0 m).size = LEN l + m := by
    rw [ByteArray.size_append, JOIN_size, ByteArray.size_extract, FRAME_size]
    omega
  have hg := LEN_ge l
  obtain ⟨f, hf⟩ : ∃ f, LEN l + m + 1 = (f + 1) + l.length := ⟨LEN l + m - l.length, by omega⟩
  have hj := scanGo_join l ByteArray.empty n ((FRAME (n + l.length) b).extract 0 m) (f + 1) [] hok (fun h => absurd h (by simp))
  rw [ByteArray.empty_append] at hj
  have he : ByteArray.empty.size = 0 := rfl
  rw [he, Nat.zero_add, List.nil_append] at hj
  rw [hz, hf, hj, ← JOIN_size n l, scanGo_rest (JOIN n l) (n + l.length) b m f (RECS n l) h hm]
theorem SCAN_whole (n : Nat) (l : List ByteArray) (hok : ∀ j, (hj : j < l.length) → OkRec ((n + j : Nat) : Int) l[j]) : SCAN (JOIN n l) = (RECS n l, (LEN l : Int), 0) := by
  unfold SCAN
  have hg := LEN_ge l
  obtain ⟨f, hf⟩ : ∃ f, LEN l + 1 = (f + 1) + l.length := ⟨LEN l - l.length, by omega⟩
  have hj := scanGo_join l ByteArray.empty n ByteArray.empty (f + 1) [] hok (fun h => absurd h (by simp))
  rw [ByteArray.empty_append, ByteArray.append_empty] at hj
  have he : ByteArray.empty.size = 0 := rfl
  rw [he, Nat.zero_add, List.nil_append] at hj
  rw [JOIN_size, hf, hj]
  have h2 := scanGo_end (JOIN n l) f (RECS n l)
  rw [JOIN_size] at h2
  exact h2

/-- chapter 9's example -/
def AB : ByteArray := ⟨#[97, 98]⟩
theorem AB_size : AB.size = 2 := rfl
theorem AB_ok : OkRec ((1 : Nat) : Int) AB := by unfold OkRec; rw [AB_size]; omega
theorem AB_ok2 : OkRec ((2 : Nat) : Int) AB := by unfold OkRec; rw [AB_size]; omega
/-- the beginning of a record of three bytes: its length's first bytes -/
theorem FRAME_three (n m : Nat) : (FRAME n AB).extract 0 3 = (FRAME m AB).extract 0 3 := by
  have h := fun n => congrArg (fun x => x.extract 0 3) (FRAME_len n AB ByteArray.empty)
  simp only [ByteArray.extract_extract, ByteArray.append_empty] at h
  rw [show min (0 + 3) 4 = 3 from rfl, Nat.add_zero] at h
  rw [h n, h m]
theorem awake (k : Nat) (hk : 300 ≤ k) : lodestarlaw09_awake.f k = some true := by
  obtain ⟨k, rfl⟩ : ∃ m, k = m + 1 := ⟨k - 1, by omega⟩
  unfold lodestarlaw09_awake.f
  have hf : FRAMES 1 AB = (FRAME 1 AB, 0) := by
    unfold FRAMES
    have h : OkRec 1 AB := AB_ok
    rw [if_pos h]
    rfl
  have hw : wal_Frame.f (k + 1) 1 (⟨#[97, 98]⟩ : ByteArray) = some (FRAME 1 AB, 0) := by
    have h := walFrame 1 AB (k + 1) (by omega)
    rw [hf] at h
    exact h
  have hz : (FRAME 1 AB).size = 22 := by rw [FRAME_size, AB_size]
  have hj : JOIN 1 [AB] = FRAME 1 AB := by rw [JOIN, JOIN, ByteArray.append_empty]
  have hs := SCAN_torn 1 [AB] AB 3 (fun j hj => by
    obtain rfl : j = 0 := by simpa using hj
    exact AB_ok) AB_ok2 (by rw [AB_size]; omega)
  rw [hj, show 1 + [AB].length = 2 from rfl, FRAME_three 2 1] at hs
  have hsz : (FRAME 1 AB ++ (FRAME 1 AB).extract 0 3).size = 25 := by rw [ByteArray.size_append, ByteArray.size_extract, hz]; rfl
  rw [hw]
  simp only [Option.bind_some]
  rw [if_pos (by rw [hz]; rfl)]
  simp only [lodestarlaw09_awake.j0]
  rw [if_neg (by simp), if_pos (by omega), if_pos (by rw [hz]; omega), if_pos (by rw [ByteArray.size_extract, hz]; omega), walScan _ k (by omega) (by omega), hs]
  simp only [Option.bind_some]
  have he : ([(⟨1, (⟨#[97, 98]⟩ : ByteArray)⟩ : S61)] : List S61) = RECS 1 [AB] := rfl
  rw [he, same_self (RECS 1 [AB]) k (by decide) (by show 1 < k; omega)]
  simp only [Option.bind_some]
  simp only [if_true]
  rw [if_pos (by decide)]
  rfl
end Go.Proofs.YtomhgoahhlnjpaaGreatDoor.WalC

/- Records joined by the law's own loop; cut off anywhere; the law's loops come to true. -/
namespace Go.Proofs.YtomhgoahhlnjpaaGreatDoor.WalD
open Go.RowKit Go.Proofs.YtomhgoahhlnjpaaGreatDoor.PWal Go.Proofs.YtomhgoahhlnjpaaGreatDoor.WalA Go.Proofs.YtomhgoahhlnjpaaGreatDoor.WalB Go.Proofs.YtomhgoahhlnjpaaGreatDoor.WalC Go.Proofs.YtomhgoahhlnjpaaGreatDoorW.PrintWords Go.Proofs.YtomhgoahhlnjpaaGreatDoorW.PrintLast Go.Proofs.YtomhgoahhlnjpaaGreatDoorW.PrintMore

theorem bytesOf_append (a b : ByteArray) : bytesOf (a ++ b) = bytesOf a ++ bytesOf b := by
  unfold bytesOf
  rw [ByteArray.data_append, Array.toList_append, List.map_append]
theorem strOfNums_bytesOf (s : ByteArray) : strOfNums (bytesOf s) = s := by
  apply WideShapes.bytes_inj
  rw [strOfNums_data, bytesOf, List.map_map]
  have h : ((fun n : Int => UInt8.ofNat n.toNat) ∘ fun b : UInt8 => (b.toNat : Int)) = id := by
    funext b
    simp
  rw [h, List.map_id]
theorem LEN_append (l r : List ByteArray) : LEN (l ++ r) = LEN l + LEN r := by
  induction l with
  | nil => simp [LEN]
  | cons b l ih => simp only [List.cons_append, LEN, ih]; omega
theorem JOIN_append : ∀ (l r : List ByteArray) (n : Nat), JOIN n (l ++ r) = JOIN n l ++ JOIN (n + l.length) r
  | [], r, n => by rw [List.nil_append, JOIN, ByteArray.empty_append]; rfl
  | b :: l, r, n => by
    rw [List.cons_append, JOIN, JOIN, JOIN_append l r (n + 1), ByteArray.append_assoc, List.length_cons]
    congr 3
    omega
/-- where each record ends -/
def ENDS (l : List ByteArray) : List Int := (List.range (l.length + 1)).map fun i => (LEN (l.take i) : Int)
theorem ENDS_length (l : List ByteArray) : (ENDS l).length = l.length + 1 := by simp [ENDS]
theorem ENDS_rd (l : List ByteArray) (i : Nat) (h : i ≤ l.length) : rd (ENDS l) (i : Int) = (LEN (l.take i) : Int) := by
  unfold rd ENDS
  rw [Int.toNat_natCast, List.getD_eq_getElem?_getD, List.getElem?_map, List.getElem?_range (by omega)]
  rfl
theorem ENDS_snoc (l : List ByteArray) (b : ByteArray) : ENDS (l ++ [b]) = ENDS l ++ [(LEN (l ++ [b]) : Int)] := by
  unfold ENDS
  rw [List.length_append, List.length_singleton, List.range_succ, List.map_append]
  congr 1
  · apply List.map_congr_left
    intro i hi
    rw [List.mem_range] at hi
    rw [List.take_append_of_le_length (by omega)]
  · simp
    rw [List.take_of_length_le (by simp)]
theorem FRAMES_ok (n : Nat) (b : ByteArray) (h : OkRec (n : Int) b) : FRAMES (n : Int) b = (FRAME n b, 0) := by
  unfold FRAMES
  rw [if_pos h, Int.toNat_natCast]
theorem FRAME_ne (n : Nat) (b : ByteArray) : ¬ (FRAME n b).toList = ([] : List UInt8) := by
  intro h
  rw [ByteArray.toList_eq] at h
  have hz := FRAME_size n b
  have hl : (FRAME n b).data.toList.length = (FRAME n b).size := by simp
  rw [h] at hl
  simp at hl
  omega
theorem rdOf_get (l : List ByteArray) (i : Nat) (h : i < l.length) : rdOf ByteArray.empty l (i : Int) = l[i] := by
  unfold rdOf
  rw [Int.toNat_natCast, List.getD_eq_getElem?_getD, List.getElem?_eq_getElem h]
  rfl

/-- how many records are whole in so many bytes -/
theorem whole (l : List ByteArray) : ∀ c, c ≤ LEN l → ∃ j, j ≤ l.length ∧ (∀ i, i ≤ j → LEN (l.take i) ≤ c) ∧ (j < l.length → c < LEN (l.take (j + 1))) := by
  induction l with
  | nil => exact fun c _ => ⟨0, Nat.le_refl _, fun i _ => by simp [LEN], fun h => absurd h (by simp)⟩
  | cons b l ih =>
    intro c hc
    by_cases h : c < 20 + b.size
    · exact ⟨0, by simp, fun i hi => by obtain rfl : i = 0 := by omega
                                        simp [LEN], fun _ => by simp [LEN]; omega⟩
    · obtain ⟨j, hj, h1, h2⟩ := ih (c - (20 + b.size)) (by simp only [LEN] at hc; omega)
      refine ⟨j + 1, by simpa using hj, fun i hi => ?_, fun hlt => ?_⟩
      · cases i with
        | zero => simp [LEN]
        | succ i =>
          have := h1 i (by omega)
          simp only [List.take_succ_cons, LEN]
          omega
      · have := h2 (by simpa using hlt)
        simp only [List.take_succ_cons, LEN]
        omega
/-- what is found in the first bytes of records one behind the other -/
theorem SCAN_cut (l : List ByteArray) (n c j : Nat) (hok : ∀ i, (h : i < l.length) → OkRec ((n + i : Nat) : Int) l[i]) (hc : c ≤ LEN l) (hj : j ≤ l.length) (h1 : LEN (l.take j) ≤ c) (h2 : j < l.length → c < LEN (l.take (j + 1))) :
    SCAN ((JOIN n l).extract 0 c) = (RECS n (l.take j), (LEN (l.take j) : Int), if c = LEN (l.take j) then 0 else 91) := by
  have hok1 : ∀ i, (h : i < (l.take j).length) → OkRec ((n + i : Nat) : Int) (l.take j)[i] := fun i h => by
    rw [List.getElem_take]
    exact hok i (by rw [List.length_take] at h; omega)
  by_cases hlt : j < l.length
  · have hd : l = l.take j ++ (l[j] :: l.drop (j + 1)) := by rw [← List.drop_eq_getElem_cons hlt, List.take_append_drop]
    have hlj : (l.take j).length = j := by rw [List.length_take]; omega
    have hJ : JOIN n l = JOIN n (l.take j) ++ (FRAME (n + j) l[j] ++ JOIN (n + j + 1) (l.drop (j + 1))) := by
      have h := JOIN_append (l.take j) (l[j] :: l.drop (j + 1)) n
      rw [← hd, hlj, JOIN] at h
      exact h
    have ht : LEN (l.take (j + 1)) = LEN (l.take j) + (20 + l[j].size) := by
      rw [List.take_succ_eq_append_getElem hlt, LEN_append]
      simp [LEN]
    have hm := h2 hlt
    rw [ht] at hm
    have hx : (JOIN n l).extract 0 c = JOIN n (l.take j) ++ (FRAME (n + (l.take j).length) l[j]).extract 0 (c - LEN (l.take j)) := by
      rw [hJ, ByteArray.extract_append, ext_all _ _ (by rw [JOIN_size]; omega), JOIN_size, Nat.zero_sub, ext_left _ _ _ _ (by rw [FRAME_size]; omega), hlj]
    have hr := SCAN_torn n (l.take j) l[j] (c - LEN (l.take j)) hok1 (by rw [hlj]; exact hok j hlt) (by omega)
    rw [hx, hr]
    congr 2
    by_cases h : c = LEN (l.take j)
    · rw [if_pos (by omega), if_pos h]
    · rw [if_neg (by omega), if_neg h]
  · have hjl : l.take j = l := List.take_of_length_le (by omega)
    rw [hjl] at h1 ⊢
    have hce : c = LEN l := by omega
    rw [if_pos hce, ext_all _ _ (by rw [JOIN_size]; omega)]
    exact SCAN_whole n l hok

theorem RECS_rd (l : List ByteArray) : ∀ (n i : Nat), (h : i < l.length) → rd_T61 (RECS n l) (i : Int) = ⟨((n + i : Nat) : Int), l[i]⟩ := by
  induction l with
  | nil => exact fun n i h => absurd h (by simp)
  | cons b l ih =>
    intro n i h
    cases i with
    | zero => rfl
    | succ i =>
      have hr := ih (n + 1) i (by simpa using h)
      unfold rd_T61 at hr ⊢
      rw [Int.toNat_natCast] at hr ⊢
      rw [RECS, List.getD_cons_succ, hr]
      simp
      omega
end Go.Proofs.YtomhgoahhlnjpaaGreatDoor.WalD

/- One byte of one record turned: its check sum tells it. -/
namespace Go.Proofs.YtomhgoahhlnjpaaGreatDoor.WalE
open Go.RowKit Go.Proofs.YtomhgoahhlnjpaaGreatDoor.PWal Go.Proofs.YtomhgoahhlnjpaaGreatDoor.WalA Go.Proofs.YtomhgoahhlnjpaaGreatDoor.WalB Go.Proofs.YtomhgoahhlnjpaaGreatDoor.WalC Go.Proofs.YtomhgoahhlnjpaaGreatDoor.WalD Go.Proofs.YtomhgoahhlnjpaaGreatDoorW.PrintWords Go.Proofs.YtomhgoahhlnjpaaGreatDoorW.PrintLast Go.Proofs.YtomhgoahhlnjpaaGreatDoorW.PrintMore

theorem step_top (c : Nat) (h : c < 4294967296) : (crcStep c).testBit 31 = decide (c % 2 = 1) := by
  unfold crcStep
  have h1 : (c / 2).testBit 31 = false := Nat.testBit_lt_two_pow (by omega)
  rw [Nat.testBit_xor, h1]
  have h2 : c % 2 = 0 ∨ c % 2 = 1 := by omega
  rcases h2 with h2 | h2 <;> rw [h2] <;> decide
theorem step_inj {a b : Nat} (ha : a < 4294967296) (hb : b < 4294967296) (h : crcStep a = crcStep b) : a = b := by
  have h1 := step_top a ha
  have h2 := step_top b hb
  rw [h] at h1
  rw [h1] at h2
  have hm : a % 2 = b % 2 := by
    have ha2 : a % 2 = 0 ∨ a % 2 = 1 := by omega
    have hb2 : b % 2 = 0 ∨ b % 2 = 1 := by omega
    rcases ha2 with ha2 | ha2 <;> rcases hb2 with hb2 | hb2 <;> simp [ha2, hb2] at h2 ⊢
  unfold crcStep at h
  rw [hm] at h
  have hd : a / 2 = b / 2 := by
    have := congrArg (fun x => x ^^^ (3988292384 * (b % 2))) h
    simp only [Nat.xor_assoc, Nat.xor_self, Nat.xor_zero] at this
    exact this
  omega
theorem iter_inj {a b : Nat} (ha : a < 4294967296) (hb : b < 4294967296) : ∀ t, crcIter t a = crcIter t b → a = b
  | 0, h => h
  | t + 1, h => iter_inj ha hb t (step_inj (crcIter_lt ha t) (crcIter_lt hb t) h)
theorem xor_lt32 {c x : Nat} (hc : c < 4294967296) (hx : x < 256) : c ^^^ x < 4294967296 := Nat.xor_lt_two_pow (n := 32) (by omega) (by omega)
theorem byte_inj {c c' x x' : Nat} (hc : c < 4294967296) (hc' : c' < 4294967296) (hx : x < 256) (hx' : x' < 256) (h : crcByte c x = crcByte c' x') : c ^^^ x = c' ^^^ x' := by
  rw [← crcByte_eq, ← crcByte_eq] at h
  exact iter_inj (xor_lt32 hc hx) (xor_lt32 hc' hx') 8 h
theorem foldl_inj : ∀ (l : List UInt8) (c c' : Nat), c < 4294967296 → c' < 4294967296 → l.foldl (fun c x => crcByte c x.toNat) c = l.foldl (fun c x => crcByte c x.toNat) c' → c = c'
  | [], _, _, _, _, h => h
  | x :: l, c, c', hc, hc', h => by
    have h1 := foldl_inj l _ _ (crcByte_lt hc x.toNat_lt) (crcByte_lt hc' x.toNat_lt) h
    have h2 := byte_inj hc hc' x.toNat_lt x.toNat_lt h1
    have := congrArg (fun z => z ^^^ x.toNat) h2
    simpa only [Nat.xor_assoc, Nat.xor_self, Nat.xor_zero] using this
theorem foldl_set : ∀ (l : List UInt8) (i : Nat) (v : UInt8) (c : Nat) (hi : i < l.length), c < 4294967296 → v ≠ l[i] → (l.set i v).foldl (fun c x => crcByte c x.toNat) c ≠ l.foldl (fun c x => crcByte c x.toNat) c
  | x :: l, 0, v, c, _, hc, hv => by
    intro h
    simp only [List.set_cons_zero, List.foldl_cons] at h
    have h1 := foldl_inj l _ _ (crcByte_lt hc v.toNat_lt) (crcByte_lt hc x.toNat_lt) h
    have h2 := byte_inj hc hc v.toNat_lt x.toNat_lt h1
    have h3 : v.toNat = x.toNat := by
      have := congrArg (fun z => c ^^^ z) h2
      simpa only [← Nat.xor_assoc, Nat.xor_self, Nat.zero_xor] using this
    exact hv (UInt8.toNat_inj.1 h3)
  | x :: l, i + 1, v, c, hi, hc, hv => by
    simp only [List.set_cons_succ, List.foldl_cons]
    exact foldl_set l i v _ (by simpa using hi) (crcByte_lt hc x.toNat_lt) (by simpa using hv)
theorem xor_inj {a b : Nat} (h : 4294967295 ^^^ a = 4294967295 ^^^ b) : a = b := by
  have := congrArg (fun z => 4294967295 ^^^ z) h
  simpa only [← Nat.xor_assoc, Nat.xor_self, Nat.zero_xor] using this
/-- one byte turned: another sum -/
theorem SUM_ne (a a' : ByteArray) (i : Nat) (v : UInt8) (hi : i < a.data.toList.length) (hv : v ≠ a.data.toList[i]) (h : a'.data.toList = a.data.toList.set i v) : SUM a' ≠ SUM a := by
  intro he
  have h1 := UNFIX_FIX (CRC a') 4 (by have := CRC_lt a'; omega)
  have h2 := UNFIX_FIX (CRC a) 4 (by have := CRC_lt a; omega)
  unfold SUM at he
  rw [he, h2] at h1
  unfold CRC crcFold at h1
  rw [h] at h1
  exact foldl_set _ i v _ hi (by omega) hv (xor_inj h1).symm
theorem toList_ne {a b : ByteArray} (h : a ≠ b) : ¬ a.toList = b.toList := by
  intro he
  rw [ByteArray.toList_eq, ByteArray.toList_eq] at he
  exact h (WideShapes.bytes_inj he)
theorem extract_list (s : ByteArray) (i j : Nat) : (s.extract i j).data.toList = (s.data.toList.take j).drop i := by
  rw [ByteArray.data_extract, Array.toList_extract, List.extract_eq_take_drop]
  rw [List.drop_take]
/-- bytes of which one is turned -/
def Turned (s s' : ByteArray) (q : Nat) (v : UInt8) : Prop := ∃ h : q < s.data.toList.length, v ≠ s.data.toList[q] ∧ s'.data.toList = s.data.toList.set q v
theorem Turned.size {s s' : ByteArray} {q : Nat} {v : UInt8} (h : Turned s s' q v) : s'.size = s.size := by
  obtain ⟨_, _, h⟩ := h
  have := congrArg List.length h
  simpa using this
theorem Turned.far {s s' : ByteArray} {q : Nat} {v : UInt8} (h : Turned s s' q v) (i j : Nat) (hq : q < i ∨ j ≤ q) : s'.extract i j = s.extract i j := by
  obtain ⟨_, _, h⟩ := h
  apply WideShapes.bytes_inj
  rw [extract_list, extract_list, h]
  rcases hq with hq | hq
  · rw [List.take_set, List.drop_set_of_lt hq]
  · rw [List.take_set, List.set_eq_of_length_le (by rw [List.length_take]; omega)]
theorem Turned.near {s s' : ByteArray} {q : Nat} {v : UInt8} (h : Turned s s' q v) (i j : Nat) (hi : i ≤ q) (hj : q < j) : Turned (s.extract i j) (s'.extract i j) (q - i) v := by
  obtain ⟨hl, hv, h⟩ := h
  refine ⟨?_, ?_, ?_⟩
  · rw [extract_list, List.length_drop, List.length_take]
    omega
  · have e : (s.extract i j).data.toList[q - i]'(by rw [extract_list, List.length_drop, List.length_take]; omega) = s.data.toList[q] := by
      simp only [extract_list, List.getElem_drop, List.getElem_take]
      congr 1
      omega
    rw [e]
    exact hv
  · rw [extract_list, extract_list, h, List.take_set, List.drop_set, if_neg (by omega)]
theorem Turned.sum {s s' : ByteArray} {q : Nat} {v : UInt8} (h : Turned s s' q v) : SUM s' ≠ SUM s := by
  obtain ⟨hl, hv, h⟩ := h
  exact SUM_ne s s' q v hl hv h
theorem Turned.ne {s s' : ByteArray} {q : Nat} {v : UInt8} (h : Turned s s' q v) : s' ≠ s := by
  obtain ⟨hl, hv, h⟩ := h
  intro he
  rw [he] at h
  have := congrArg (fun l => l[q]?) h
  simp only [List.getElem?_eq_getElem hl, List.getElem?_set_self hl] at this
  injection this with this
  exact hv this.symm
theorem Turned.behind {s s' : ByteArray} {q : Nat} {v : UInt8} (p : ByteArray) (h : Turned s s' q v) : Turned (p ++ s) (p ++ s') (p.size + q) v := by
  obtain ⟨hl, hv, h⟩ := h
  have hp : p.data.toList.length = p.size := by simp
  refine ⟨?_, ?_, ?_⟩
  · rw [ByteArray.data_append, Array.toList_append, List.length_append]
    omega
  · have e : (p ++ s).data.toList[p.size + q]'(by rw [ByteArray.data_append, Array.toList_append, List.length_append]; omega) = s.data.toList[q] := by
      simp only [ByteArray.data_append, Array.toList_append]
      rw [List.getElem_append_right (by omega)]
      congr 1
      omega
    rw [e]
    exact hv
  · rw [ByteArray.data_append, ByteArray.data_append, Array.toList_append, Array.toList_append, h, List.set_append_right _ _ (by omega)]
    congr 2
    omega
/-- a record of which one byte is turned is refused -/
theorem FIRST_turned (n : Nat) (b t s' : ByteArray) (q : Nat) (v : UInt8) (h : OkRec (n : Int) b) (hq : q < 20 + b.size) (hT : Turned (FRAME n b ++ t) s' q v) : FIRST s' = NONE 90 := by
  unfold OkRec at h
  have hz : s'.size = 20 + b.size + t.size := by rw [hT.size, ByteArray.size_append, FRAME_size]
  unfold FIRST
  rw [if_neg (by omega)]
  by_cases h1 : q < 16
  · rw [if_neg]
    apply toList_ne
    by_cases h2 : q < 12
    · have hn := (hT.near 0 12 (by omega) h2).sum
      rw [FRAME_head] at hn
      rw [hT.far 12 16 (by omega), FRAME_hsum]
      exact hn
    · have hn := (hT.near 12 16 (by omega) h1).ne
      rw [FRAME_hsum] at hn
      rw [hT.far 0 12 (by omega), FRAME_head]
      exact fun he => hn he.symm
  · rw [hT.far 0 12 (by omega), hT.far 12 16 (by omega), hT.far 0 4 (by omega), hT.far 4 12 (by omega), FRAME_head, FRAME_hsum, if_pos rfl, FRAME_len, FRAME_seq, UNFIX_FIX _ _ (by omega), UNFIX_FIX _ _ (by omega), if_neg (by omega), if_neg (by omega)]
    rw [if_neg]
    apply toList_ne
    by_cases h2 : q < 16 + b.size
    · have hn := ((hT.near 16 (16 + b.size) (by omega) h2).behind (FIX n 8)).sum
      rw [FRAME_body] at hn
      rw [hT.far (16 + b.size) (20 + b.size) (by omega), FRAME_bsum]
      exact hn
    · have hn := (hT.near (16 + b.size) (20 + b.size) (by omega) hq).ne
      rw [FRAME_bsum] at hn
      rw [hT.far 16 (16 + b.size) (by omega), FRAME_body]
      exact fun he => hn he.symm
/-- the records ahead of the one that is refused stand -/
theorem SCAN_turned (l : List ByteArray) (n p j : Nat) (s' : ByteArray) (v : UInt8) (hok : ∀ i, (h : i < l.length) → OkRec ((n + i : Nat) : Int) l[i]) (hj : j < l.length) (h1 : LEN (l.take j) ≤ p) (h2 : p < LEN (l.take (j + 1))) (hT : Turned (JOIN n l) s' p v) :
    SCAN s' = (RECS n (l.take j), (LEN (l.take j) : Int), 90) := by
  have hok1 : ∀ i, (h : i < (l.take j).length) → OkRec ((n + i : Nat) : Int) (l.take j)[i] := fun i h => by
    rw [List.getElem_take]
    exact hok i (by rw [List.length_take] at h; omega)
  have hlj : (l.take j).length = j := by rw [List.length_take]; omega
  have hd : l = l.take j ++ (l[j] :: l.drop (j + 1)) := by rw [← List.drop_eq_getElem_cons hj, List.take_append_drop]
  have hJ : JOIN n l = JOIN n (l.take j) ++ (FRAME (n + j) l[j] ++ JOIN (n + j + 1) (l.drop (j + 1))) := by
    have h := JOIN_append (l.take j) (l[j] :: l.drop (j + 1)) n
    rw [← hd, hlj, JOIN] at h
    exact h
  have ht : LEN (l.take (j + 1)) = LEN (l.take j) + (20 + l[j].size) := by
    rw [List.take_succ_eq_append_getElem hj, LEN_append]
    simp [LEN]
  have hsz : (JOIN n l).size = LEN (l.take j) + (20 + l[j].size + (JOIN (n + j + 1) (l.drop (j + 1))).size) := by
    rw [hJ]
    simp only [ByteArray.size_append, JOIN_size n (l.take j), FRAME_size]
  -- what stands behind the whole records
  have hR := hT.near (LEN (l.take j)) (JOIN n l).size h1 (by omega)
  have hx : (JOIN n l).extract (LEN (l.take j)) (JOIN n l).size = FRAME (n + j) l[j] ++ JOIN (n + j + 1) (l.drop (j + 1)) := by
    have hjs := JOIN_size n (l.take j)
    rw [hsz, hJ, ext_right _ _ _ _ (by omega), hjs, Nat.sub_self]
    exact ext_all _ _ (by simp only [ByteArray.size_append, FRAME_size]; omega)
  rw [hx] at hR
  have hF := FIRST_turned (n + j) l[j] _ _ _ v (hok j hj) (by omega) hR
  have hs' : s' = JOIN n (l.take j) ++ s'.extract (LEN (l.take j)) (JOIN n l).size := by
    have ha : s'.extract 0 (LEN (l.take j)) = JOIN n (l.take j) := by
      rw [hT.far 0 (LEN (l.take j)) (by omega), hJ, ext_left _ _ _ _ (by rw [JOIN_size]; omega)]
      exact ext_all _ _ (by rw [JOIN_size]; omega)
    apply WideShapes.bytes_inj
    rw [ByteArray.data_append, Array.toList_append, ← ha, extract_list, extract_list]
    have hl : s'.data.toList.length = (JOIN n l).size := by rw [← hT.size]; simp
    rw [List.drop_zero, List.take_of_length_le (i := (JOIN n l).size) (by omega), List.take_append_drop]
  have hg := LEN_ge (l.take j)
  obtain ⟨f, hf⟩ : ∃ f, s'.size + 1 = (f + 1) + (l.take j).length := ⟨s'.size - j, by rw [hT.size]; omega⟩
  unfold SCAN
  have hjn := scanGo_join (l.take j) ByteArray.empty n (s'.extract (LEN (l.take j)) (JOIN n l).size) (f + 1) [] hok1 (fun h => absurd h (by simp))
  rw [ByteArray.empty_append, ← hs'] at hjn
  have he : ByteArray.empty.size = 0 := rfl
  rw [he, Nat.zero_add, List.nil_append] at hjn
  rw [hf, hjn, scanGo, if_pos (by rw [hT.size]; omega), hT.size, hF]
  have hr : errAt (RECS n (l.take j)) (NONE 90) = 90 := by
    unfold errAt NONE
    rw [if_neg (by simp)]
  rw [hr, if_neg (by simp)]
/-- bytes with one set anew, as the walk makes them -/
theorem turned_set (s : ByteArray) (p : Nat) (x : Int) (hp : p < s.size) (h0 : 0 ≤ x) (h1 : x < 256) (hx : x ≠ bt s (p : Int)) : Turned s (strOfNums ((bytesOf s).set p x)) p (UInt8.ofNat x.toNat) := by
  have hl : p < s.data.toList.length := by simpa using hp
  refine ⟨hl, fun he => ?_, ?_⟩
  · rw [bt_getD s p hp] at hx
    have := congrArg UInt8.toNat he
    rw [UInt8.toNat_ofNat'] at this
    omega
  · rw [strOfNums_data, List.map_set]
    congr 1
    have h := congrArg (fun z => z.data.toList) (strOfNums_bytesOf s)
    rw [strOfNums_data] at h
    exact h
end Go.Proofs.YtomhgoahhlnjpaaGreatDoor.WalE
