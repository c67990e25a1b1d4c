/- Numbers as bytes, bytes as numbers and check sums: the program's loops and the document's answer the same values. -/
import Derived.Test.YtmnmlicckmaegaaPWalx
namespace Go.Proofs.Ytmnmlicckmaegaa.WalA
open Go.RowKit Go.Proofs.Ytmnmlicckmaegaa.PWal Go.Proofs.YtmnmlicckmaegaaW.PrintWords Go.Proofs.YtmnmlicckmaegaaW.PrintLast Go.Proofs.YtmnmlicckmaegaaW.PrintMore

theorem w64 {x : Int} (h0 : -9223372036854775808 ≤ x) (h : x ≤ 9223372036854775807) : wrap64 x = x := by unfold wrap64; omega
theorem u64w {x : Int} (h0 : 0 ≤ x) (h : x ≤ 18446744073709551615) : IntKind.u64.wrap x = x := by rw [IntKind.wrap_u64]; omega
theorem cast_div (n m : Nat) : ((n : Int) / (m : Int)) = ((n / m : Nat) : Int) := by norm_cast
theorem cast_mod (n m : Nat) : ((n : Int) % (m : Int)) = ((n % m : Nat) : Int) := by norm_cast

/-! the bytes of a number, the least first -/
def leB : Nat → Nat → List Int
  | 0, _ => []
  | w + 1, n => ((n % 256 : Nat) : Int) :: leB w (n / 256)
theorem leB_length : ∀ w n, (leB w n).length = w
  | 0, _ => rfl
  | w + 1, n => by simp [leB, leB_length w]
theorem leB_snoc : ∀ w n, leB (w + 1) n = leB w n ++ [((n / 256 ^ w % 256 : Nat) : Int)]
  | 0, n => by simp [leB]
  | w + 1, n => by
    rw [leB, leB_snoc w (n / 256), Nat.div_div_eq_div_mul, ← Nat.pow_succ']
    rfl
def FIX (n w : Nat) : ByteArray := strOfNums (leB w n)
theorem FIX_size (n w : Nat) : (FIX n w).size = w := by rw [FIX, strOfNums_size, leB_length]
theorem pow_le_8 {w : Nat} (hw : w ≤ 8) : 256 ^ w ≤ 18446744073709551616 :=
  Nat.le_trans (Nat.pow_le_pow_right (by omega) hw) (by decide)

theorem refFix_l0 : ∀ (d n : Nat) (acc : List Int) (i w : Int) (k : Nat), n < 256 ^ d → 0 ≤ i → w = i + d → w ≤ 8 → acc.length + d ≤ 8 → d < k →
    lodestarref01_Fix.l0 k (n : Int) w acc i = some (strOfNums (acc ++ leB d n), 0) := by
  intro d
  induction d with
  | zero =>
    intro n acc i w k hn h0 hw _ _ hk
    obtain ⟨k, rfl⟩ : ∃ m, k = m + 1 := ⟨k - 1, by omega⟩
    have hn0 : n = 0 := by simpa using hn
    subst hn0
    simp only [lodestarref01_Fix.l0]
    rw [if_neg (by omega), if_pos (by simp)]
    simp [leB]
  | succ d ih =>
    intro n acc i w k hn h0 hw h8 hl hk
    obtain ⟨k, rfl⟩ : ∃ m, k = m + 1 := ⟨k - 1, by omega⟩
    have hb : n < 18446744073709551616 := Nat.lt_of_lt_of_le hn (pow_le_8 (by omega))
    simp only [lodestarref01_Fix.l0]
    have e1 : Int.tdiv (n : Int) 256 = ((n / 256 : Nat) : Int) := by rw [Int.tdiv_eq_ediv_of_nonneg (by omega)]; omega
    have e2 : Int.tmod (n : Int) 256 % 256 = ((n % 256 : Nat) : Int) := by rw [Int.tmod_eq_emod_of_nonneg (by omega)]; omega
    rw [if_pos (by omega), if_pos (by omega), e1, e2, u64w (by omega) (by omega), w64 (by omega) (by omega),
      ih (n / 256) _ (i + 1) w k (by rw [Nat.div_lt_iff_lt_mul (by omega), ← Nat.pow_succ]; exact hn) (by omega) (by omega) h8 (by simp; omega) (by omega)]
    simp [leB]
theorem refFix (n w k : Nat) (hn : n < 256 ^ w) (h1 : 1 ≤ w) (h8 : w ≤ 8) (hk : 10 ≤ k) : lodestarref01_Fix.f k (n : Int) (w : Int) = some (FIX n w, 0) := by
  obtain ⟨k, rfl⟩ : ∃ m, k = m + 1 := ⟨k - 1, by omega⟩
  unfold lodestarref01_Fix.f
  rw [if_neg (by omega)]
  have hd : decide ((w : Int) > 8) = false := by simp; omega
  rw [hd]
  simp only [lodestarref01_Fix.j0]
  rw [if_neg (by simp), refFix_l0 w n [] 0 w k hn (by omega) (by omega) (by omega) (by simpa using h8) (by omega)]
  rfl

theorem shr_pow (n i : Nat) (hi : i ≤ 8) : shr .u64 (n : Int) (wrap64 (8 * (i : Int))) = ((n / 256 ^ i : Nat) : Int) := by
  rw [w64 (by omega) (by omega)]
  unfold shr
  have e : min (8 * (i : Int)).toNat IntKind.u64.bits = 8 * i := by
    have h : (8 * (i : Int)).toNat = 8 * i := by omega
    rw [h]
    show min (8 * i) 64 = 8 * i
    omega
  have h2 : (2 : Nat) ^ (8 * i) = 256 ^ i := by rw [Nat.pow_mul]
  rw [e, ← h2]
  norm_cast
theorem replicate_set (l : List Int) (d : Nat) (v : Int) : (l ++ List.replicate (d + 1) 0).set l.length v = l ++ [v] ++ List.replicate d 0 := by
  rw [List.replicate_succ, List.set_append_right _ _ (by omega)]
  simp
theorem numFix_l0 (n w : Nat) (h8 : w ≤ 8) : ∀ (d i k : Nat), i + d = w → d < k →
    num_Fix.l0 k (n : Int) (leB i n ++ List.replicate d 0) (w : Int) (i : Int) = some (strOfNums (leB w n), 0) := by
  intro d
  induction d with
  | zero =>
    intro i k hi hk
    obtain ⟨k, rfl⟩ : ∃ m, k = m + 1 := ⟨k - 1, by omega⟩
    obtain rfl : i = w := by omega
    simp only [num_Fix.l0]
    rw [if_neg (by omega)]
    simp
  | succ d ih =>
    intro i k hi hk
    obtain ⟨k, rfl⟩ : ∃ m, k = m + 1 := ⟨k - 1, by omega⟩
    simp only [num_Fix.l0]
    have e3 : ((n / 256 ^ i : Nat) : Int) % 256 = ((n / 256 ^ i % 256 : Nat) : Int) := by omega
    have e0 : ((i : Int)).toNat = (leB i n).length := by rw [leB_length]; omega
    have ew : wrap64 (8 * (i : Int)) = 8 * (i : Int) := w64 (by omega) (by omega)
    rw [if_pos (by omega), if_pos (by rw [ew]; omega), if_pos (by omega), if_pos (by simp [leB_length]; omega), shr_pow n i (by omega), e3, e0, replicate_set, ← leB_snoc, w64 (by omega) (by omega)]
    exact ih (i + 1) k (by omega) (by omega)
theorem numFix (n w k : Nat) (hn : n < 256 ^ w) (h1 : 1 ≤ w) (h8 : w ≤ 8) (hk : 10 ≤ k) : num_Fix.f k (n : Int) (w : Int) = some (FIX n w, 0) := by
  obtain ⟨k, rfl⟩ : ∃ m, k = m + 1 := ⟨k - 1, by omega⟩
  have hj : num_Fix.j0 (k + 1) (n : Int) (w : Int) false = some (FIX n w, 0) := by
    simp only [num_Fix.j0]
    rw [if_neg (by simp), if_pos (by omega), if_pos (by omega)]
    simp only [Option.bind_some]
    have h := numFix_l0 n w h8 w 0 k (by omega) (by omega)
    have e : ((w : Int)).toNat = w := by omega
    rw [e]
    simpa [leB, FIX] using h
  unfold num_Fix.f
  rw [if_neg (by omega), if_neg (by omega)]
  by_cases h : w < 8
  · have e : (shr .u64 (n : Int) (wrap64 (8 * (w : Int))) != 0) = false := by
      rw [shr_pow n w h8, Nat.div_eq_of_lt hn]
      rfl
    have ew : wrap64 (8 * (w : Int)) = 8 * (w : Int) := w64 (by omega) (by omega)
    rw [if_pos (by omega), if_pos (by rw [ew]; omega), e]
    exact hj
  · rw [if_neg (by omega)]
    exact hj
theorem walFix (n w k : Nat) (hn : n < 256 ^ w) (h1 : 1 ≤ w) (h8 : w ≤ 8) (hk : 10 ≤ k) : wal_fix.f k (n : Int) (w : Int) = some (FIX n w) := by
  have hb : n < 18446744073709551616 := Nat.lt_of_lt_of_le hn (pow_le_8 h8)
  unfold wal_fix.f
  rw [u64w (by omega) (by omega), numFix n w k hn h1 h8 hk]
  rfl
theorem refFixed (n w k : Nat) (hn : n < 256 ^ w) (h1 : 1 ≤ w) (h8 : w ≤ 8) (hk : 10 ≤ k) : lodestarref09_fix.f k (n : Int) (w : Int) = some (FIX n w) := by
  unfold lodestarref09_fix.f lodestarref01_Fixed.f
  rw [refFix n w k hn h1 h8 hk]
  rfl

/-! the check sum -/
theorem crcStep_xor (a b : Nat) : crcStep (a ^^^ b) = crcStep a ^^^ crcStep b := by
  unfold crcStep
  have h2 : 3988292384 * ((a ^^^ b) % 2) = (3988292384 * (a % 2)) ^^^ (3988292384 * (b % 2)) := by
    have h := @Nat.xor_mod_two_pow a b 1
    simp only [Nat.pow_one] at h
    rw [h]
    have ha : a % 2 = 0 ∨ a % 2 = 1 := by omega
    have hb : b % 2 = 0 ∨ b % 2 = 1 := by omega
    rcases ha with ha | ha <;> rcases hb with hb | hb <;> rw [ha, hb] <;> decide
  rw [h2, Nat.xor_div_two]
  simp only [Nat.xor_assoc]
  congr 1
  rw [← Nat.xor_assoc, ← Nat.xor_assoc, Nat.xor_comm (b / 2)]
theorem crcIter_xor (a b : Nat) : ∀ t, crcIter t (a ^^^ b) = crcIter t a ^^^ crcIter t b
  | 0 => rfl
  | t + 1 => by rw [crcIter, crcIter_xor a b t, crcStep_xor]; rfl
theorem crcIter_in : ∀ t c, crcIter (t + 1) c = crcIter t (crcStep c)
  | 0, _ => rfl
  | t + 1, c => by rw [crcIter, crcIter_in t c]; rfl
theorem crcStep_even (h : Nat) : crcStep (2 * h) = h := by
  unfold crcStep
  have e1 : 2 * h / 2 = h := by omega
  have e2 : 2 * h % 2 = 0 := by omega
  rw [e1, e2]
  simp
theorem crcIter_high : ∀ t h, crcIter t (2 ^ t * h) = h
  | 0, h => by simp [crcIter]
  | t + 1, h => by
    have e : 2 ^ (t + 1) * h = 2 * (2 ^ t * h) := by rw [Nat.pow_succ]; simp only [Nat.mul_assoc, Nat.mul_left_comm]
    rw [crcIter_in, e, crcStep_even, crcIter_high t h]
theorem split_byte (c : Nat) : c = (c % 256) ^^^ (256 * (c / 256)) := by
  have h : (256 * (c / 256)) ||| (c % 256) = 256 * (c / 256) + c % 256 := (Nat.two_pow_add_eq_or_of_lt (i := 8) (Nat.mod_lt _ (by omega)) (c / 256)).symm
  have hz : (c % 256) &&& (256 * (c / 256)) = 0 := by
    apply Nat.eq_of_testBit_eq
    intro i
    simp only [Nat.testBit_and, Nat.zero_testBit]
    have e := Nat.testBit_two_pow_mul (a := c / 256) (i := 8) (j := i)
    have f := Nat.testBit_mod_two_pow c 8 i
    simp only [show (2 : Nat) ^ 8 = 256 from rfl] at e f
    rw [e, f]
    by_cases hi : i < 8
    · have h8 : ¬ 8 ≤ i := by omega
      simp [h8]
    · simp [hi]
  have hx : (c % 256) ^^^ (256 * (c / 256)) = (c % 256) ||| (256 * (c / 256)) := by
    apply Nat.eq_of_testBit_eq
    intro i
    have hz' := congrArg (fun x => x.testBit i) hz
    simp only [Nat.testBit_and, Nat.zero_testBit] at hz'
    simp only [Nat.testBit_xor, Nat.testBit_or]
    cases h1 : (c % 256).testBit i <;> cases h2 : (256 * (c / 256)).testBit i <;> simp_all
  rw [hx, Nat.or_comm, h]
  omega
theorem crcByte_eq (c x : Nat) : crcIter 8 (c ^^^ x) = crcByte c x := by
  have e : c ^^^ x = ((c % 256) ^^^ x) ^^^ (2 ^ 8 * (c / 256)) := by
    have h := split_byte c
    simp only [show (2 : Nat) ^ 8 = 256 from rfl]
    rw [Nat.xor_assoc, Nat.xor_comm x, ← Nat.xor_assoc, ← h]
  rw [e, crcIter_xor, crcIter_high]
  rfl

theorem refSum_l1 (s : ByteArray) (i : Int) : ∀ (d k c : Nat) (t : Int), c < 4294967296 → 0 ≤ t → t + d = 8 →
    lodestarref01_Sum.l1 (k + d + 1) s (c : Int) i t = lodestarref01_Sum.l0 k s ((crcIter d c : Nat) : Int) (wrap64 (i + 1)) := by
  intro d
  induction d with
  | zero =>
    intro k c t _ h0 ht
    simp only [lodestarref01_Sum.l1]
    rw [if_neg (by omega)]
    rfl
  | succ d ih =>
    intro k c t hc h0 ht
    have hs := crcStep_lt hc
    obtain ⟨K, hK⟩ : ∃ K, K = k + d + 1 := ⟨_, rfl⟩
    have eK : k + (d + 1) + 1 = K + 1 := by omega
    rw [eK]
    simp only [lodestarref01_Sum.l1]
    have e1 : Int.tmod (c : Int) 2 = ((c % 2 : Nat) : Int) := by rw [Int.tmod_eq_emod_of_nonneg (by omega)]; omega
    have e2 : Int.tdiv (c : Int) 2 % 4294967296 = ((c / 2 : Nat) : Int) := by rw [Int.tdiv_eq_ediv_of_nonneg (by omega)]; omega
    rw [if_pos (by omega), e1, e2, w64 (by omega) (by omega), hK]
    by_cases h : c % 2 = 1
    · have ex : bits .xor .u32 ((c / 2 : Nat) : Int) 3988292384 = ((crcStep c : Nat) : Int) := by
        rw [show (3988292384 : Int) = ((3988292384 : Nat) : Int) from rfl, u32_bits_xor _ _ (by omega) (by omega)]
        unfold crcStep
        rw [h]
      rw [if_pos (by omega), ex, ih k (crcStep c) (t + 1) hs (by omega) (by omega), crcIter_in]
    · have ex : ((c / 2 : Nat) : Int) = ((crcStep c : Nat) : Int) := by
        unfold crcStep
        have h0 : c % 2 = 0 := by omega
        rw [h0]
        simp
      rw [if_neg (by omega), ex, ih k (crcStep c) (t + 1) hs (by omega) (by omega), crcIter_in]
theorem bt_getD (s : ByteArray) (i : Nat) (h : i < s.size) : bt s (i : Int) = ((s.data.toList[i]'(by simpa using h)).toNat : Int) := by
  unfold bt
  rw [Int.toNat_natCast, dif_pos h]
  rfl
theorem refSum_l0 (s : ByteArray) (hs : s.size ≤ 9223372036854775806) : ∀ (d i k c : Nat), i + d = s.size → c < 4294967296 → 10 * d < k →
    lodestarref01_Sum.l0 k s (c : Int) (i : Int) = some ((4294967295 ^^^ (s.data.toList.drop i).foldl (fun c x => crcByte c x.toNat) c : Nat) : Int) := by
  intro d
  induction d with
  | zero =>
    intro i k c hi hc hk
    obtain ⟨k, rfl⟩ : ∃ m, k = m + 1 := ⟨k - 1, by omega⟩
    simp only [lodestarref01_Sum.l0]
    rw [if_neg (by omega), List.drop_of_length_le (by simp; omega)]
    rw [show (4294967295 : Int) = ((4294967295 : Nat) : Int) from rfl, u32_bits_xor _ _ hc (by omega), Nat.xor_comm]
    rfl
  | succ d ih =>
    intro i k c hi hc hk
    obtain ⟨k, rfl⟩ : ∃ m, k = m + 8 + 1 + 1 := ⟨k - 10, by omega⟩
    have hlt : i < s.size := by omega
    have hl : i < s.data.toList.length := by simpa using hlt
    simp only [lodestarref01_Sum.l0]
    have hx := (s.data.toList[i]'hl).toNat_lt
    have e1 : ((s.data.toList[i]'hl).toNat : Int) % 4294967296 = ((s.data.toList[i]'hl).toNat : Int) := by omega
    rw [if_pos (by omega), if_pos (by omega), bt_getD s i hlt, e1, u32_bits_xor _ _ hc (by omega)]
    have hcx : c ^^^ (s.data.toList[i]'hl).toNat < 4294967296 := Nat.xor_lt_two_pow (n := 32) (by omega) (by omega)
    rw [refSum_l1 s (i : Int) 8 k _ 0 hcx (by omega) (by omega), crcByte_eq, w64 (by omega) (by omega)]
    have hb := crcByte_lt hc hx
    have h := ih (i + 1) k (crcByte c (s.data.toList[i]'hl).toNat) (by omega) hb (by omega)
    rw [List.drop_eq_getElem_cons hl, List.foldl_cons, ← h]
    norm_cast
def CRC (s : ByteArray) : Nat := 4294967295 ^^^ crcFold s.data.toList
theorem CRC_lt (s : ByteArray) : CRC s < 4294967296 := Nat.xor_lt_two_pow (n := 32) (by omega) (by have := crcFold_lt s.data.toList; omega)
theorem refSum (s : ByteArray) (k : Nat) (hs : s.size ≤ 9223372036854775806) (hk : 10 * s.size + 1 ≤ k) : lodestarref01_Sum.f k s = some ((CRC s : Nat) : Int) := by
  unfold lodestarref01_Sum.f
  have h := refSum_l0 s hs s.size 0 k 4294967295 (by omega) (by omega) (by omega)
  rw [List.drop_zero] at h
  exact h
theorem numSum (s : ByteArray) (hs : s.size ≤ 9223372036854775806) : num_Sum.f s = some ((CRC s : Nat) : Int) := by
  unfold num_Sum.f
  rw [if_pos (by omega)]
  rfl
def SUM (s : ByteArray) : ByteArray := FIX (CRC s) 4
theorem SUM_size (s : ByteArray) : (SUM s).size = 4 := FIX_size _ _
theorem walSum (s : ByteArray) (k : Nat) (hs : s.size ≤ 9223372036854775806) (hk : 10 ≤ k) : wal_sum.f k s = some (SUM s) := by
  have hc := CRC_lt s
  unfold wal_sum.f
  rw [numSum s hs]
  simp only [Option.bind_some]
  rw [w64 (by omega) (by omega), show (4 : Int) = ((4 : Nat) : Int) from rfl, walFix (CRC s) 4 k (by omega) (by omega) (by omega) hk]
  rfl
theorem refSum' (s : ByteArray) (k : Nat) (hs : s.size ≤ 9223372036854775806) (hk : 10 * s.size + 10 ≤ k) : lodestarref09_sum.f k s = some (SUM s) := by
  have hc := CRC_lt s
  unfold lodestarref09_sum.f
  rw [refSum s k hs (by omega)]
  simp only [Option.bind_some]
  rw [u64w (by omega) (by omega), show (4 : Int) = ((4 : Nat) : Int) from rfl, refFixed (CRC s) 4 k (by omega) (by omega) (by omega) (by omega)]
  rfl

/-! a number out of its bytes -/
def unle : List UInt8 → Nat
  | [] => 0
  | x :: l => x.toNat + 256 * unle l
theorem unle_lt : ∀ l : List UInt8, unle l < 256 ^ l.length
  | [] => by simp [unle]
  | x :: l => by
    have h := unle_lt l
    have hx := x.toNat_lt
    rw [unle, List.length_cons, Nat.pow_succ']
    omega
theorem u64_bits_or (a b : Nat) (ha : a < 18446744073709551616) (hb : b < 18446744073709551616) : bits .or .u64 (a : Int) (b : Int) = ((a ||| b : Nat) : Int) := by
  have hx : a ||| b < 2 ^ 64 := Nat.or_lt_two_pow (by omega) (by omega)
  show IntKind.u64.wrap ((BitVec.ofInt 64 (a : Int) ||| BitVec.ofInt 64 (b : Int)).toNat : Int) = _
  rw [BitVec.toNat_or, BitVec.ofInt_natCast, BitVec.ofInt_natCast, BitVec.toNat_ofNat, BitVec.toNat_ofNat, Nat.mod_eq_of_lt (by omega), Nat.mod_eq_of_lt (by omega), IntKind.wrap_u64]
  omega
theorem unle_drop (s : ByteArray) (i : Nat) (h : i < s.size) : unle (s.data.toList.drop i) = (s.data.toList[i]'(by simpa using h)).toNat + 256 * unle (s.data.toList.drop (i + 1)) := by
  rw [List.drop_eq_getElem_cons (by simpa using h), unle]
theorem unle_drop_lt (s : ByteArray) (i : Nat) (h8 : s.size ≤ 8) : unle (s.data.toList.drop (i + 1)) < 256 ^ 7 := by
  refine Nat.lt_of_lt_of_le (unle_lt _) (Nat.pow_le_pow_right (by omega) ?_)
  have : s.data.toList.length = s.size := by simp
  rw [List.length_drop]
  omega
theorem numUnfix_l0 (s : ByteArray) (h8 : s.size ≤ 8) : ∀ (d k : Nat), d ≤ s.size → d < k →
    num_Unfix.l0 k s ((unle (s.data.toList.drop d) : Nat) : Int) ((d : Int) - 1) = some (((unle s.data.toList : Nat) : Int), 0) := by
  intro d
  induction d with
  | zero =>
    intro k _ hk
    obtain ⟨k, rfl⟩ : ∃ m, k = m + 1 := ⟨k - 1, by omega⟩
    simp only [num_Unfix.l0]
    rw [if_neg (by omega)]
    simp
  | succ d ih =>
    intro k hd hk
    obtain ⟨k, rfl⟩ : ∃ m, k = m + 1 := ⟨k - 1, by omega⟩
    have hlt : d < s.size := by omega
    have hu := unle_drop_lt s d h8
    have hx := (s.data.toList[d]'(by simpa using hlt)).toNat_lt
    have ed : ((d + 1 : Nat) : Int) - 1 = (d : Int) := by omega
    simp only [num_Unfix.l0]
    rw [ed, if_pos (by omega), if_pos (by omega), if_pos (by omega), bt_getD s d hlt, u64w (by omega) (by omega), u64w (by omega) (by omega), w64 (by omega) (by omega)]
    have e : bits .or .u64 (((unle (s.data.toList.drop (d + 1)) : Nat) : Int) * 256) ((s.data.toList[d]'(by simpa using hlt)).toNat : Int) = ((unle (s.data.toList.drop d) : Nat) : Int) := by
      rw [show (((unle (s.data.toList.drop (d + 1)) : Nat) : Int) * 256) = ((2 ^ 8 * unle (s.data.toList.drop (d + 1)) : Nat) : Int) by omega,
        u64_bits_or _ _ (by omega) (by omega), ← Nat.two_pow_add_eq_or_of_lt (i := 8) hx, unle_drop s d hlt]
      omega
    rw [e]
    exact ih k (by omega) (by omega)
def UNFIX (s : ByteArray) : Nat := unle s.data.toList
theorem UNFIX_lt (s : ByteArray) : UNFIX s < 256 ^ s.size := by
  have h := unle_lt s.data.toList
  rwa [show s.data.toList.length = s.size by simp] at h
theorem numUnfix (s : ByteArray) (k : Nat) (h1 : 1 ≤ s.size) (h8 : s.size ≤ 8) (hk : 10 ≤ k) : num_Unfix.f k s = some (((UNFIX s : Nat) : Int), 0) := by
  obtain ⟨k, rfl⟩ : ∃ m, k = m + 1 := ⟨k - 1, by omega⟩
  unfold num_Unfix.f
  have hd : decide ((s.size : Int) > 8) = false := by simp; omega
  rw [if_neg (by omega), hd]
  simp only [num_Unfix.j0]
  rw [if_neg (by simp), w64 (by omega) (by omega)]
  have h := numUnfix_l0 s h8 s.size k (Nat.le_refl _) (by omega)
  rw [List.drop_of_length_le (by simp)] at h
  exact h
theorem refUnfix_l0 (s : ByteArray) (h8 : s.size ≤ 8) : ∀ (d k : Nat), d ≤ s.size → d < k →
    lodestarref01_Unfix.l0 k s ((unle (s.data.toList.drop d) : Nat) : Int) ((d : Int) - 1) = some (((unle s.data.toList : Nat) : Int), 0) := by
  intro d
  induction d with
  | zero =>
    intro k _ hk
    obtain ⟨k, rfl⟩ : ∃ m, k = m + 1 := ⟨k - 1, by omega⟩
    simp only [lodestarref01_Unfix.l0]
    rw [if_neg (by omega)]
    simp
  | succ d ih =>
    intro k hd hk
    obtain ⟨k, rfl⟩ : ∃ m, k = m + 1 := ⟨k - 1, by omega⟩
    have hlt : d < s.size := by omega
    have hu := unle_drop_lt s d h8
    have hx := (s.data.toList[d]'(by simpa using hlt)).toNat_lt
    have hv : unle (s.data.toList.drop d) < 256 * 256 ^ 7 := by rw [unle_drop s d hlt]; omega
    have ed : ((d + 1 : Nat) : Int) - 1 = (d : Int) := by omega
    simp only [lodestarref01_Unfix.l0]
    rw [ed, if_pos (by omega), if_pos (by omega), if_pos (by omega), bt_getD s d hlt, u64w (x := ((unle (s.data.toList.drop (d + 1)) : Nat) : Int) * 256) (by omega) (by omega), u64w (x := ((s.data.toList[d]'(by simpa using hlt)).toNat : Int)) (by omega) (by omega)]
    have e : (((unle (s.data.toList.drop (d + 1)) : Nat) : Int) * 256) + ((s.data.toList[d]'(by simpa using hlt)).toNat : Int) = ((unle (s.data.toList.drop d) : Nat) : Int) := by
      rw [unle_drop s d hlt]
      omega
    rw [e, u64w (by omega) (by omega), w64 (by omega) (by omega)]
    exact ih k (by omega) (by omega)
theorem refUnfix (s : ByteArray) (k : Nat) (h1 : 1 ≤ s.size) (h8 : s.size ≤ 8) (hk : 10 ≤ k) : lodestarref01_Unfix.f k s = some (((UNFIX s : Nat) : Int), 0) := by
  obtain ⟨k, rfl⟩ : ∃ m, k = m + 1 := ⟨k - 1, by omega⟩
  unfold lodestarref01_Unfix.f
  have hd : decide ((s.size : Int) > 8) = false := by simp; omega
  rw [if_neg (by omega), hd]
  simp only [lodestarref01_Unfix.j0]
  rw [if_neg (by simp), w64 (by omega) (by omega)]
  have h := refUnfix_l0 s h8 s.size k (Nat.le_refl _) (by omega)
  rw [List.drop_of_length_le (by simp)] at h
  exact h
theorem FIX_data (n w : Nat) : (FIX n w).data.toList = (leB w n).map fun x => UInt8.ofNat x.toNat := strOfNums_data _
theorem unle_FIX : ∀ (w n : Nat), n < 256 ^ w → unle ((leB w n).map fun x => UInt8.ofNat x.toNat) = n
  | 0, n, h => by simp at h; simp [leB, unle, h]
  | w + 1, n, h => by
    have hd : n / 256 < 256 ^ w := by rw [Nat.div_lt_iff_lt_mul (by omega), ← Nat.pow_succ]; exact h
    simp only [leB, List.map_cons, unle]
    rw [unle_FIX w (n / 256) hd]
    simp
    omega
theorem UNFIX_FIX (n w : Nat) (h : n < 256 ^ w) : UNFIX (FIX n w) = n := by
  unfold UNFIX
  rw [FIX_data, unle_FIX w n h]
end Go.Proofs.Ytmnmlicckmaegaa.WalA
