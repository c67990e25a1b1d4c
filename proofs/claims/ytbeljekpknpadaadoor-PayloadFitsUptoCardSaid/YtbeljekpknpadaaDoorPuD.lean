/- What payload.Encode answers, at every point: the bytes, one after the other. -/
import Derived.Test.YtbeljekpknpadaaDoorPPayUx7
import Derived.Test.YtbeljekpknpadaaDoorPPayUx8
import Derived.Test.YtbeljekpknpadaaDoorPuC
namespace Go.Proofs.YtbeljekpknpadaaDoor.PPayUL
open Go.RowKit Go.Proofs.YtbeljekpknpadaaDoor.PPayU Go.Proofs.YtbeljekpknpadaaDoorW.PrintWords Go.Proofs.YtbeljekpknpadaaDoorW.PrintLast Go.Proofs.YtbeljekpknpadaaDoorW.PrintMore
set_option linter.unusedVariables false
set_option linter.unusedSimpArgs false

/-! ### the bytes of a number, the least first -/
def leB : Nat → Nat → List Int
  | 0, _ => []
  | w + 1, n => ((n % 256 : Nat) : Int) :: leB w (n / 256)
theorem leB_length : ∀ w n, (leB w n).length = w
  | 0, _ => rfl
  | w + 1, n => by simp [leB, leB_length w]
theorem leB_snoc : ∀ w n, leB (w + 1) n = leB w n ++ [((n / 256 ^ w % 256 : Nat) : Int)]
  | 0, n => by simp [leB]
  | w + 1, n => by
    rw [leB, leB_snoc w (n / 256), Nat.div_div_eq_div_mul, ← Nat.pow_succ']
    rfl
theorem leB_inj : ∀ w n m, n < 256 ^ w → m < 256 ^ w → leB w n = leB w m → n = m
  | 0, n, m, hn, hm, _ => by
    have : n < 1 := by simpa using hn
    have : m < 1 := by simpa using hm
    omega
  | w + 1, n, m, hn, hm, h => by
    simp only [leB, List.cons.injEq] at h
    have h2 := leB_inj w (n / 256) (m / 256) (by rw [Nat.div_lt_iff_lt_mul (by omega), ← Nat.pow_succ]; exact hn) (by rw [Nat.div_lt_iff_lt_mul (by omega), ← Nat.pow_succ]; exact hm) h.2
    have h1 : n % 256 = m % 256 := by have := h.1; omega
    omega
theorem leB_byte : ∀ w n, ∀ x ∈ leB w n, 0 ≤ x ∧ x < 256
  | 0, n, x, hx => by simp [leB] at hx
  | w + 1, n, x, hx => by
    simp only [leB, List.mem_cons] at hx
    rcases hx with rfl | hx
    · omega
    · exact leB_byte w _ x hx
def FIX (n w : Nat) : ByteArray := strOfNums (leB w n)
theorem bytesOf_str (l : List Int) (h : ∀ x ∈ l, 0 ≤ x ∧ x < 256) : bytesOf (strOfNums l) = l := by
  simp only [bytesOf, strOfNums]
  rw [List.map_map]
  conv => rhs; rw [← List.map_id l]
  refine List.map_congr_left fun x hx => ?_
  obtain ⟨h0, h1⟩ := h x hx
  simp
  omega
theorem bytesOf_fix (n w : Nat) : bytesOf (FIX n w) = leB w n := bytesOf_str _ (leB_byte w n)
theorem fix_size (n w : Nat) : (FIX n w).size = w := by rw [FIX, strOfNums_size, leB_length]
theorem u64w {x : Int} (h0 : 0 ≤ x) (h : x ≤ 18446744073709551615) : IntKind.u64.wrap x = x := by rw [IntKind.wrap_u64]; omega
theorem pow_le_8 {w : Nat} (hw : w ≤ 8) : 256 ^ w ≤ 18446744073709551616 :=
  Nat.le_trans (Nat.pow_le_pow_right (by omega) hw) (by decide)
theorem shr_pow (n i : Nat) (hi : i ≤ 8) : shr .u64 (n : Int) (wrap64 (8 * (i : Int))) = ((n / 256 ^ i : Nat) : Int) := by
  rw [w64 (by omega) (by omega)]
  unfold shr
  have e : min (8 * (i : Int)).toNat IntKind.u64.bits = 8 * i := by
    have h : (8 * (i : Int)).toNat = 8 * i := by omega
    rw [h]
    show min (8 * i) 64 = 8 * i
    omega
  have h2 : (2 : Nat) ^ (8 * i) = 256 ^ i := by rw [Nat.pow_mul]
  rw [e, ← h2]
  norm_cast
theorem replicate_set (l : List Int) (d : Nat) (v : Int) : (l ++ List.replicate (d + 1) 0).set l.length v = l ++ [v] ++ List.replicate d 0 := by
  rw [List.replicate_succ, List.set_append_right _ _ (by omega)]
  simp
theorem numFix_l0 (n w : Nat) (h8 : w ≤ 8) : ∀ (d i k : Nat), i + d = w → d < k →
    num_Fix.l0 k (n : Int) (leB i n ++ List.replicate d 0) (w : Int) (i : Int) = some (strOfNums (leB w n), 0) := by
  intro d
  induction d with
  | zero =>
    intro i k hi hk
    obtain ⟨k, rfl⟩ : ∃ m, k = m + 1 := ⟨k - 1, by omega⟩
    obtain rfl : i = w := by omega
    simp only [num_Fix.l0]
    rw [if_neg (by omega)]
    simp
  | succ d ih =>
    intro i k hi hk
    obtain ⟨k, rfl⟩ : ∃ m, k = m + 1 := ⟨k - 1, by omega⟩
    simp only [num_Fix.l0]
    have e3 : ((n / 256 ^ i : Nat) : Int) % 256 = ((n / 256 ^ i % 256 : Nat) : Int) := by omega
    have e0 : ((i : Int)).toNat = (leB i n).length := by rw [leB_length]; omega
    have ew : wrap64 (8 * (i : Int)) = 8 * (i : Int) := w64 (by omega) (by omega)
    rw [if_pos (by omega), if_pos (by rw [ew]; omega), if_pos (by omega), if_pos (by simp [leB_length]; omega), shr_pow n i (by omega), e3, e0, replicate_set, ← leB_snoc, w64 (by omega) (by omega)]
    exact ih (i + 1) k (by omega) (by omega)
theorem numFix (n w k : Nat) (hn : n < 256 ^ w) (h1 : 1 ≤ w) (h8 : w ≤ 8) (hk : 10 ≤ k) : num_Fix.f k (n : Int) (w : Int) = some (FIX n w, 0) := by
  obtain ⟨k, rfl⟩ : ∃ m, k = m + 1 := ⟨k - 1, by omega⟩
  have hj : num_Fix.j0 (k + 1) (n : Int) (w : Int) false = some (FIX n w, 0) := by
    simp only [num_Fix.j0]
    rw [if_neg (by simp), if_pos (by omega), if_pos (by omega)]
    simp only [Option.bind_some]
    have h := numFix_l0 n w h8 w 0 k (by omega) (by omega)
    have e : ((w : Int)).toNat = w := by omega
    rw [e]
    simpa [leB, FIX] using h
  unfold num_Fix.f
  rw [if_neg (by omega), if_neg (by omega)]
  by_cases h : w < 8
  · have e : (shr .u64 (n : Int) (wrap64 (8 * (w : Int))) != 0) = false := by
      rw [shr_pow n w h8, Nat.div_eq_of_lt hn]
      rfl
    have ew : wrap64 (8 * (w : Int)) = 8 * (w : Int) := w64 (by omega) (by omega)
    rw [if_pos (by omega), if_pos (by rw [ew]; omega), e]
    exact hj
  · rw [if_neg (by omega)]
    exact hj
theorem put_eq (l : List Int) (z : Int) (n w k : Nat) (hz : IntKind.u64.wrap z = (n : Int)) (hn : n < 256 ^ w) (h1 : 1 ≤ w) (h8 : w ≤ 8) (hl : l.length ≤ 1099511627776) (hk : 10 ≤ k) : payload_put.f k l z (w : Int) = some (l ++ leB w n) := by
  unfold payload_put.f
  rw [hz, numFix n w k hn h1 h8 hk, Option.bind_some]
  simp only
  rw [if_pos (by rw [fix_size]; omega), bytesOf_fix]
theorem put_nat (l : List Int) (n w k : Nat) (hn : n < 256 ^ w) (h1 : 1 ≤ w) (h8 : w ≤ 8) (hl : l.length ≤ 1099511627776) (hk : 10 ≤ k) : payload_put.f k l (n : Int) (w : Int) = some (l ++ leB w n) := by
  have := pow_le_8 h8
  exact put_eq l n n w k (u64w (by omega) (by omega)) hn h1 h8 hl hk

/-! ### the bytes of a point -/
def encC (c : Int) : List Int := leB 2 (c + 32768).toNat
def encV (x : S59) : List Int := leB 1 x.f0.size ++ bytesOf x.f0 ++ leB 1 x.f1.length ++ x.f1.flatMap encC
def encN (v : S33) : List Int := if v.f0 = 2 then leB 2 v.f2.size else if v.f0 = 1 then leB 8 (IntKind.u64.wrap v.f1).toNat else leB 1 v.f1.toNat
def encF (x : S61) : List Int := leB 1 x.f0.size ++ bytesOf x.f0 ++ leB 1 x.f1.f0.toNat ++ encN x.f1 ++ bytesOf x.f1.f2
def encP (a0 : Int) (l1 : List S59) (l2 : List S61) : List Int := leB 8 a0.toNat ++ leB 1 l1.length ++ l1.flatMap encV ++ leB 1 l2.length ++ l2.flatMap encF
def okV (x : S59) : Prop := x.f0.size ≤ 32 ∧ x.f1.length ≤ 64 ∧ ∀ c ∈ x.f1, inB c = true
def okF (x : S61) : Prop := x.f0.size ≤ 32 ∧ valB x.f1 = true

theorem encode_comps (V : List Int) (hV : V.length ≤ 64) (hc : ∀ c ∈ V, inB c = true) (L : List S59) (i a0 : Int) (l1 : List S59) (l2 : List S61) (R : Nat) (RES : Option (ByteArray × Int)) : ∀ (n j k : Nat) (x4 : List Int), V.length - j = n → j ≤ V.length → n + 11 + R ≤ k → x4.length + 2 * n ≤ 1099511627776 →
    (∀ q, R ≤ q → payload_Encode.l0 q (x4 ++ (V.drop j).flatMap encC) L (L.length : Int) (wrap64 (i + 1)) a0 l1 l2 = RES) →
    payload_Encode.l1 k x4 L (L.length : Int) i V (V.length : Int) (j : Int) a0 l1 l2 = RES
  | 0, j, 0, x4, hn, hj, hk, hx, hR => absurd hk (by omega)
  | n + 1, j, 0, x4, hn, hj, hk, hx, hR => absurd hk (by omega)
  | 0, j, k + 1, x4, hn, hj, hk, hx, hR => by
    obtain rfl : j = V.length := by omega
    rw [payload_Encode.l1, if_neg (by omega)]
    have := hR k (by omega)
    rw [List.drop_eq_nil_of_le (Nat.le_refl _)] at this
    simpa using this
  | n + 1, j, k + 1, x4, hn, hj, hk, hx, hR => by
    have h1 : j < V.length := by omega
    have hb := hc V[j] (List.getElem_mem h1)
    simp only [inB, Bool.and_eq_true, decide_eq_true_eq] at hb
    have hp : payload_put.f k x4 (wrap64 (V[j] + 32768)) 2 = some (x4 ++ encC V[j]) := by
      have e : wrap64 (V[j] + 32768) = ((V[j] + 32768).toNat : Int) := by rw [w64 (by omega) (by omega)]; omega
      rw [e]
      exact put_nat x4 (V[j] + 32768).toNat 2 k (by omega) (by omega) (by omega) (by omega) (by omega)
    rw [payload_Encode.l1, if_pos (by omega), if_pos (by omega), if_pos (by omega), rdI V j h1, hp, Option.bind_some, succ_nat j V.length h1 (by omega)]
    refine encode_comps V hV hc L i a0 l1 l2 R RES n (j + 1) k (x4 ++ encC V[j]) (by omega) (by omega) (by omega) (by simp [encC, leB_length]; omega) ?_
    intro q hq
    have := hR q hq
    rw [List.drop_eq_getElem_cons h1, List.flatMap_cons, ← List.append_assoc] at this
    exact this
theorem encC_flat : ∀ V : List Int, (V.flatMap encC).length = 2 * V.length
  | [] => rfl
  | c :: V => by
    rw [List.flatMap_cons, List.length_append, encC_flat V]
    simp [encC, leB_length]
    omega
theorem encV_len (x : S59) (h : okV x) : (encV x).length ≤ 200 := by
  obtain ⟨h1, h2, _⟩ := h
  simp only [encV, List.length_append, leB_length, bytesOf_length, encC_flat]
  omega
theorem encode_vecs (L : List S59) (hL4 : L.length ≤ 4) (hL : ∀ x ∈ L, okV x) (a0 : Int) (l1 : List S59) (l2 : List S61) (hl2 : l2.length ≤ 16) (R : Nat) (RES : Option (ByteArray × Int)) : ∀ (n i k : Nat) (x4 : List Int), L.length - i = n → i ≤ L.length → 100 * n + 12 + R ≤ k → x4.length + 200 * n ≤ 1000000 →
    (∀ q, R ≤ q → payload_Encode.l2 q (x4 ++ (L.drop i).flatMap encV ++ leB 1 l2.length) l2 (l2.length : Int) 0 = RES) →
    payload_Encode.l0 k x4 L (L.length : Int) (i : Int) a0 l1 l2 = RES
  | 0, i, 0, x4, hn, hi, hk, hx, hR => absurd hk (by omega)
  | n + 1, i, 0, x4, hn, hi, hk, hx, hR => absurd hk (by omega)
  | 0, i, k + 1, x4, hn, hi, hk, hx, hR => by
    obtain rfl : i = L.length := by omega
    have hp := put_nat x4 l2.length 1 k (by omega) (by omega) (by omega) (by omega) (by omega)
    have e1 : ((1 : Nat) : Int) = 1 := rfl
    rw [e1] at hp
    rw [payload_Encode.l0, if_neg (by omega), hp, Option.bind_some]
    have := hR k (by omega)
    rw [List.drop_eq_nil_of_le (Nat.le_refl _)] at this
    simpa using this
  | n + 1, i, k + 1, x4, hn, hi, hk, hx, hR => by
    have h1 : i < L.length := by omega
    obtain ⟨o1, o2, o3⟩ := hL L[i] (List.getElem_mem h1)
    have e1 : ((1 : Nat) : Int) = 1 := rfl
    have p1 := put_nat x4 L[i].f0.size 1 k (by omega) (by omega) (by omega) (by omega) (by omega)
    rw [e1] at p1
    have p2 := put_nat (x4 ++ leB 1 L[i].f0.size ++ bytesOf L[i].f0) L[i].f1.length 1 k (by omega) (by omega) (by omega) (by simp [leB_length, bytesOf_length]; omega) (by omega)
    rw [e1] at p2
    rw [payload_Encode.l0, if_pos (by omega), if_pos (by omega), if_pos (by omega), rd59 L i h1, p1, Option.bind_some, if_pos (by simp [leB_length]; omega), p2, Option.bind_some]
    have e0 : (0 : Int) = ((0 : Nat) : Int) := rfl
    rw [e0]
    have hlen := encV_len L[i] ⟨o1, o2, o3⟩
    refine encode_comps L[i].f1 o2 o3 L i a0 l1 l2 (100 * n + 12 + R) RES L[i].f1.length 0 k _ (by omega) (by omega) (by omega) (by simp [leB_length, bytesOf_length]; omega) ?_
    intro q hq
    rw [succ_nat i L.length h1 (by omega)]
    have e2 : x4 ++ leB 1 L[i].f0.size ++ bytesOf L[i].f0 ++ leB 1 L[i].f1.length ++ (L[i].f1.drop 0).flatMap encC = x4 ++ encV L[i] := by simp [encV]
    rw [e2]
    refine encode_vecs L hL4 hL a0 l1 l2 hl2 R RES n (i + 1) q (x4 ++ encV L[i]) (by omega) (by omega) hq (by rw [List.length_append]; omega) ?_
    intro p hp
    have := hR p hp
    rw [List.drop_eq_getElem_cons h1, List.flatMap_cons] at this
    simpa [List.append_assoc] using this
theorem encN_len (v : S33) : (encN v).length ≤ 8 := by
  unfold encN
  split
  · simp [leB_length]
  · split <;> simp [leB_length]
set_option maxRecDepth 100000 in
theorem val_text (v : S33) (h : valB v = true) : v.f2.size ≤ 256 := by
  have e : ∀ s : ByteArray, s.toList = [] → s.size = 0 := fun s hs => by
    rw [Lib.toList_data] at hs
    have h2 := congrArg List.length hs
    rw [data_length] at h2
    exact h2
  unfold valB at h
  split at h
  · simp only [Bool.and_eq_true, decide_eq_true_eq] at h
    have := e _ h.1
    omega
  · split at h
    · simp only [Bool.and_eq_true, decide_eq_true_eq] at h
      exact h.2.1
    · split at h
      · simp only [Bool.and_eq_true, decide_eq_true_eq] at h
        have := e _ h.1
        omega
      · cases h
theorem encF_len (x : S61) (h : okF x) : (encF x).length ≤ 300 := by
  obtain ⟨h1, h2⟩ := h
  have := val_text _ h2
  have := encN_len x.f1
  simp only [encF, List.length_append, leB_length, bytesOf_length]
  omega
set_option maxRecDepth 100000 in
theorem encode_field (x4 : List Int) (v : S33) (h : valB v = true) (k : Nat) (hk : 10 ≤ k) (hx : x4.length ≤ 1000000) (hne : v.f0 ≠ 2) :
    ∃ w : Int, payload_width.f v.f0 = some w ∧ payload_put.f k x4 v.f1 w = some (x4 ++ encN v) := by
  unfold valB at h
  by_cases c1 : v.f0 = 1
  · rw [if_pos c1] at h
    simp only [Bool.and_eq_true, decide_eq_true_eq] at h
    refine ⟨8, by simp [payload_width.f, c1], ?_⟩
    have hw : IntKind.u64.wrap v.f1 = ((IntKind.u64.wrap v.f1).toNat : Int) := by rw [IntKind.wrap_u64]; omega
    have e8 : ((8 : Nat) : Int) = 8 := rfl
    have := put_eq x4 v.f1 _ 8 k hw (by rw [IntKind.wrap_u64]; omega) (by omega) (by omega) (by omega) hk
    rw [e8] at this
    rw [this, encN, if_neg hne, if_pos c1]
  · rw [if_neg c1, if_neg hne] at h
    by_cases c3 : v.f0 = 3
    · rw [if_pos c3] at h
      simp only [Bool.and_eq_true, Bool.or_eq_true, decide_eq_true_eq] at h
      refine ⟨1, by simp [payload_width.f, c3], ?_⟩
      have hw : v.f1 = (v.f1.toNat : Int) := by omega
      have e1 : ((1 : Nat) : Int) = 1 := rfl
      have := put_nat x4 v.f1.toNat 1 k (by omega) (by omega) (by omega) (by omega) hk
      rw [e1, ← hw] at this
      rw [this, encN, if_neg hne, if_neg c1]
    · rw [if_neg c3] at h
      cases h
set_option maxRecDepth 100000 in
theorem val_kind (v : S33) (h : valB v = true) : 1 ≤ v.f0 ∧ v.f0 ≤ 3 := by
  unfold valB at h
  split at h
  · omega
  · split at h
    · omega
    · split at h
      · omega
      · cases h
theorem encode_fields (L : List S61) (hL4 : L.length ≤ 16) (hL : ∀ x ∈ L, okF x) : ∀ (n i k : Nat) (x4 : List Int), L.length - i = n → i ≤ L.length → n + 12 ≤ k → x4.length + 400 * n ≤ 1000000 →
    payload_Encode.l2 k x4 L (L.length : Int) (i : Int) = some (strOfNums (x4 ++ (L.drop i).flatMap encF), 0)
  | 0, i, 0, x4, hn, hi, hk, hx => absurd hk (by omega)
  | n + 1, i, 0, x4, hn, hi, hk, hx => absurd hk (by omega)
  | 0, i, k + 1, x4, hn, hi, hk, hx => by
    obtain rfl : i = L.length := by omega
    rw [payload_Encode.l2, if_neg (by omega), List.drop_eq_nil_of_le (Nat.le_refl _)]
    simp
  | n + 1, i, k + 1, x4, hn, hi, hk, hx => by
    have h1 : i < L.length := by omega
    obtain ⟨o1, o2⟩ := hL L[i] (List.getElem_mem h1)
    have o3 := val_text _ o2
    have o4 := val_kind _ o2
    have e1 : ((1 : Nat) : Int) = 1 := rfl
    have e2 : ((2 : Nat) : Int) = 2 := rfl
    have hlen := encF_len L[i] ⟨o1, o2⟩
    have hln := encN_len L[i].f1
    have p1 := put_nat x4 L[i].f0.size 1 k (by omega) (by omega) (by omega) (by omega) (by omega)
    rw [e1] at p1
    have p2 := put_nat (x4 ++ leB 1 L[i].f0.size ++ bytesOf L[i].f0) L[i].f1.f0.toNat 1 k (by omega) (by omega) (by omega) (by simp [leB_length, bytesOf_length]; omega) (by omega)
    have ek : ((L[i].f1.f0.toNat : Nat) : Int) = L[i].f1.f0 := by omega
    rw [e1, ek] at p2
    have ih : payload_Encode.l2 k (x4 ++ encF L[i]) L (L.length : Int) (wrap64 ((i : Int) + 1)) = some (strOfNums (x4 ++ (L.drop i).flatMap encF), 0) := by
      rw [succ_nat i L.length h1 (by omega), encode_fields L hL4 hL n (i + 1) k (x4 ++ encF L[i]) (by omega) (by omega) (by omega) (by rw [List.length_append]; omega), List.drop_eq_getElem_cons h1, List.flatMap_cons, List.append_assoc]
    rw [payload_Encode.l2, if_pos (by omega), if_pos (by omega), if_pos (by omega), rd61 L i h1, p1, Option.bind_some, if_pos (by simp [leB_length]; omega), p2, Option.bind_some]
    by_cases c2 : L[i].f1.f0 = 2
    · have p3 := put_nat (x4 ++ leB 1 L[i].f0.size ++ bytesOf L[i].f0 ++ leB 1 L[i].f1.f0.toNat) L[i].f1.f2.size 2 k (by omega) (by omega) (by omega) (by simp [leB_length, bytesOf_length]; omega) (by omega)
      rw [e2] at p3
      have hw : payload_width.f L[i].f1.f0 = some 2 := by simp [payload_width.f, c2]
      have ee : x4 ++ leB 1 L[i].f0.size ++ bytesOf L[i].f0 ++ leB 1 L[i].f1.f0.toNat ++ leB 2 L[i].f1.f2.size ++ bytesOf L[i].f1.f2 = x4 ++ encF L[i] := by simp [encF, encN, c2, List.append_assoc]
      rw [if_pos c2, hw, Option.bind_some, p3, Option.bind_some, if_pos (by simp [leB_length, bytesOf_length]; omega), ee, ih]
    · obtain ⟨w, hw, hp⟩ := encode_field (x4 ++ leB 1 L[i].f0.size ++ bytesOf L[i].f0 ++ leB 1 L[i].f1.f0.toNat) L[i].f1 o2 k (by omega) (by simp [leB_length, bytesOf_length]; omega) c2
      have ee : x4 ++ leB 1 L[i].f0.size ++ bytesOf L[i].f0 ++ leB 1 L[i].f1.f0.toNat ++ encN L[i].f1 ++ bytesOf L[i].f1.f2 = x4 ++ encF L[i] := by simp [encF, List.append_assoc]
      rw [if_neg c2, hw, Option.bind_some, hp, Option.bind_some, if_pos (by simp [leB_length, bytesOf_length]; omega), ee, ih]
theorem ris_size : ∀ (p : Option ByteArray) (l : List ByteArray), risB p l = true → ∀ x ∈ l, x.size ≤ 32
  | _, [], _, x, hx => by cases hx
  | p, y :: l, h, x, hx => by
    have hn : nameB y = true ∧ risB (some y) l = true := by
      cases p <;> simp only [risB, Bool.and_eq_true] at h
      · exact h
      · exact ⟨h.1, h.2.2⟩
    rcases List.mem_cons.1 hx with rfl | hx
    · have h1 := hn.1
      simp only [nameB, Bool.and_eq_true, decide_eq_true_eq] at h1
      exact h1.2.2
    · exact ris_size (some y) l hn.2 x hx
set_option maxRecDepth 100000 in
theorem may_ok (a0 : Int) (l1 : List S59) (l2 : List S61) (h : mayB a0 l1 l2 = true) : 1 ≤ a0 ∧ a0 ≤ 4503599627370496 ∧ 1 ≤ l1.length ∧ l1.length ≤ 4 ∧ l2.length ≤ 16 ∧ (∀ x ∈ l1, okV x) ∧ (∀ x ∈ l2, okF x) := by
  simp only [mayB, shapeB, Bool.and_eq_true, decide_eq_true_eq, List.all_eq_true] at h
  obtain ⟨⟨h1, h2, h3, h4, h5, h6, h7⟩, h8, h9⟩ := h
  refine ⟨h1, h2, h3, h4, h5, fun x hx => ?_, fun x hx => ⟨ris_size _ _ h7 _ (List.mem_map_of_mem hx), h9 x hx⟩⟩
  have hv := h8 x hx
  simp only [vecB, Bool.and_eq_true, decide_eq_true_eq, List.all_eq_true] at hv
  exact ⟨ris_size _ _ h6 _ (List.mem_map_of_mem hx), hv.2.1, hv.2.2⟩
theorem encode_eq (a0 : Int) (l1 : List S59) (l2 : List S61) (h1 : wt59 l1 ≤ 1099511627776) (h2 : l2.length ≤ 1099511627776) (n1 : ∀ x ∈ l1, x.f0.size ≤ 1099511627776) (n2 : ∀ x ∈ l2, x.f0.size ≤ 1099511627776) (ht : ∀ x ∈ l2, x.f1.f2.size ≤ 1099511627776) (k : Nat) (hk : l1.length + wt59 l1 + l2.length + 1000 ≤ k) :
    payload_Encode.f k a0 l1 l2 = some (if mayB a0 l1 l2 = true then (strOfNums (encP a0 l1 l2), 0) else (⟨#[]⟩, 120)) := by
  unfold payload_Encode.f
  rw [may_eq a0 l1 l2 h1 h2 n1 n2 ht k (by omega), Option.bind_some]
  by_cases hm : mayB a0 l1 l2 = true
  · obtain ⟨o1, o2, o3, o4, o5, o6, o7⟩ := may_ok a0 l1 l2 hm
    rw [if_pos hm, if_pos hm]
    have e8 : ((8 : Nat) : Int) = 8 := rfl
    have e1 : ((1 : Nat) : Int) = 1 := rfl
    have e0 : ((0 : Nat) : Int) = 0 := rfl
    have ea : ((a0.toNat : Nat) : Int) = a0 := by omega
    have p1 := put_nat [] a0.toNat 8 k (by omega) (by omega) (by omega) (by simp) (by omega)
    rw [e8, ea, List.nil_append] at p1
    have p2 := put_nat (leB 8 a0.toNat) l1.length 1 k (by omega) (by omega) (by omega) (by simp [leB_length]) (by omega)
    rw [e1] at p2
    rw [p1, Option.bind_some, p2, Option.bind_some, ← e0]
    refine encode_vecs l1 o4 o6 a0 l1 l2 o5 40 _ l1.length 0 k _ (by omega) (by omega) (by omega) (by simp [leB_length]; omega) ?_
    intro q hq
    have hf := encode_fields l2 o5 o7 l2.length 0 q (leB 8 a0.toNat ++ leB 1 l1.length ++ (l1.drop 0).flatMap encV ++ leB 1 l2.length) (by omega) (by omega) (by omega) (by
      have hfl : ∀ L : List S59, (∀ x ∈ L, okV x) → (L.flatMap encV).length ≤ 200 * L.length := by
        intro L hL
        induction L with
        | nil => simp
        | cons x L ih =>
          have h5 := encV_len x (hL x (List.mem_cons_self ..))
          have h6 := ih (fun y hy => hL y (List.mem_cons_of_mem _ hy))
          rw [List.flatMap_cons, List.length_append, List.length_cons]
          omega
      have := hfl l1 o6
      simp only [List.length_append, leB_length, List.drop_zero]
      omega)
    rw [e0] at hf
    rw [hf]
    rfl
  · rw [if_neg hm, if_neg hm]
end Go.Proofs.YtbeljekpknpadaaDoor.PPayUL
