/- One byte of one record turned: its check sum tells it. -/
import Derived.Test.YtmnmlicckmaegaaWalD
namespace Go.Proofs.Ytmnmlicckmaegaa.WalE
open Go.RowKit Go.Proofs.Ytmnmlicckmaegaa.PWal Go.Proofs.Ytmnmlicckmaegaa.WalA Go.Proofs.Ytmnmlicckmaegaa.WalB Go.Proofs.Ytmnmlicckmaegaa.WalC Go.Proofs.Ytmnmlicckmaegaa.WalD Go.Proofs.YtmnmlicckmaegaaW.PrintWords Go.Proofs.YtmnmlicckmaegaaW.PrintLast Go.Proofs.YtmnmlicckmaegaaW.PrintMore

theorem step_top (c : Nat) (h : c < 4294967296) : (crcStep c).testBit 31 = decide (c % 2 = 1) := by
  unfold crcStep
  have h1 : (c / 2).testBit 31 = false := Nat.testBit_lt_two_pow (by omega)
  rw [Nat.testBit_xor, h1]
  have h2 : c % 2 = 0 ∨ c % 2 = 1 := by omega
  rcases h2 with h2 | h2 <;> rw [h2] <;> decide
theorem step_inj {a b : Nat} (ha : a < 4294967296) (hb : b < 4294967296) (h : crcStep a = crcStep b) : a = b := by
  have h1 := step_top a ha
  have h2 := step_top b hb
  rw [h] at h1
  rw [h1] at h2
  have hm : a % 2 = b % 2 := by
    have ha2 : a % 2 = 0 ∨ a % 2 = 1 := by omega
    have hb2 : b % 2 = 0 ∨ b % 2 = 1 := by omega
    rcases ha2 with ha2 | ha2 <;> rcases hb2 with hb2 | hb2 <;> simp [ha2, hb2] at h2 ⊢
  unfold crcStep at h
  rw [hm] at h
  have hd : a / 2 = b / 2 := by
    have := congrArg (fun x => x ^^^ (3988292384 * (b % 2))) h
    simp only [Nat.xor_assoc, Nat.xor_self, Nat.xor_zero] at this
    exact this
  omega
theorem iter_inj {a b : Nat} (ha : a < 4294967296) (hb : b < 4294967296) : ∀ t, crcIter t a = crcIter t b → a = b
  | 0, h => h
  | t + 1, h => iter_inj ha hb t (step_inj (crcIter_lt ha t) (crcIter_lt hb t) h)
theorem xor_lt32 {c x : Nat} (hc : c < 4294967296) (hx : x < 256) : c ^^^ x < 4294967296 := Nat.xor_lt_two_pow (n := 32) (by omega) (by omega)
theorem byte_inj {c c' x x' : Nat} (hc : c < 4294967296) (hc' : c' < 4294967296) (hx : x < 256) (hx' : x' < 256) (h : crcByte c x = crcByte c' x') : c ^^^ x = c' ^^^ x' := by
  rw [← crcByte_eq, ← crcByte_eq] at h
  exact iter_inj (xor_lt32 hc hx) (xor_lt32 hc' hx') 8 h
theorem foldl_inj : ∀ (l : List UInt8) (c c' : Nat), c < 4294967296 → c' < 4294967296 → l.foldl (fun c x => crcByte c x.toNat) c = l.foldl (fun c x => crcByte c x.toNat) c' → c = c'
  | [], _, _, _, _, h => h
  | x :: l, c, c', hc, hc', h => by
    have h1 := foldl_inj l _ _ (crcByte_lt hc x.toNat_lt) (crcByte_lt hc' x.toNat_lt) h
    have h2 := byte_inj hc hc' x.toNat_lt x.toNat_lt h1
    have := congrArg (fun z => z ^^^ x.toNat) h2
    simpa only [Nat.xor_assoc, Nat.xor_self, Nat.xor_zero] using this
theorem foldl_set : ∀ (l : List UInt8) (i : Nat) (v : UInt8) (c : Nat) (hi : i < l.length), c < 4294967296 → v ≠ l[i] → (l.set i v).foldl (fun c x => crcByte c x.toNat) c ≠ l.foldl (fun c x => crcByte c x.toNat) c
  | x :: l, 0, v, c, _, hc, hv => by
    intro h
    simp only [List.set_cons_zero, List.foldl_cons] at h
    have h1 := foldl_inj l _ _ (crcByte_lt hc v.toNat_lt) (crcByte_lt hc x.toNat_lt) h
    have h2 := byte_inj hc hc v.toNat_lt x.toNat_lt h1
    have h3 : v.toNat = x.toNat := by
      have := congrArg (fun z => c ^^^ z) h2
      simpa only [← Nat.xor_assoc, Nat.xor_self, Nat.zero_xor] using this
    exact hv (UInt8.toNat_inj.1 h3)
  | x :: l, i + 1, v, c, hi, hc, hv => by
    simp only [List.set_cons_succ, List.foldl_cons]
    exact foldl_set l i v _ (by simpa using hi) (crcByte_lt hc x.toNat_lt) (by simpa using hv)
theorem xor_inj {a b : Nat} (h : 4294967295 ^^^ a = 4294967295 ^^^ b) : a = b := by
  have := congrArg (fun z => 4294967295 ^^^ z) h
  simpa only [← Nat.xor_assoc, Nat.xor_self, Nat.zero_xor] using this
/-- one byte turned: another sum -/
theorem SUM_ne (a a' : ByteArray) (i : Nat) (v : UInt8) (hi : i < a.data.toList.length) (hv : v ≠ a.data.toList[i]) (h : a'.data.toList = a.data.toList.set i v) : SUM a' ≠ SUM a := by
  intro he
  have h1 := UNFIX_FIX (CRC a') 4 (by have := CRC_lt a'; omega)
  have h2 := UNFIX_FIX (CRC a) 4 (by have := CRC_lt a; omega)
  unfold SUM at he
  rw [he, h2] at h1
  unfold CRC crcFold at h1
  rw [h] at h1
  exact foldl_set _ i v _ hi (by omega) hv (xor_inj h1).symm
theorem toList_ne {a b : ByteArray} (h : a ≠ b) : ¬ a.toList = b.toList := by
  intro he
  rw [ByteArray.toList_eq, ByteArray.toList_eq] at he
  exact h (WideShapes.bytes_inj he)
theorem extract_list (s : ByteArray) (i j : Nat) : (s.extract i j).data.toList = (s.data.toList.take j).drop i := by
  rw [ByteArray.data_extract, Array.toList_extract, List.extract_eq_take_drop]
  rw [List.drop_take]
/-- bytes of which one is turned -/
def Turned (s s' : ByteArray) (q : Nat) (v : UInt8) : Prop := ∃ h : q < s.data.toList.length, v ≠ s.data.toList[q] ∧ s'.data.toList = s.data.toList.set q v
theorem Turned.size {s s' : ByteArray} {q : Nat} {v : UInt8} (h : Turned s s' q v) : s'.size = s.size := by
  obtain ⟨_, _, h⟩ := h
  have := congrArg List.length h
  simpa using this
theorem Turned.far {s s' : ByteArray} {q : Nat} {v : UInt8} (h : Turned s s' q v) (i j : Nat) (hq : q < i ∨ j ≤ q) : s'.extract i j = s.extract i j := by
  obtain ⟨_, _, h⟩ := h
  apply WideShapes.bytes_inj
  rw [extract_list, extract_list, h]
  rcases hq with hq | hq
  · rw [List.take_set, List.drop_set_of_lt hq]
  · rw [List.take_set, List.set_eq_of_length_le (by rw [List.length_take]; omega)]
theorem Turned.near {s s' : ByteArray} {q : Nat} {v : UInt8} (h : Turned s s' q v) (i j : Nat) (hi : i ≤ q) (hj : q < j) : Turned (s.extract i j) (s'.extract i j) (q - i) v := by
  obtain ⟨hl, hv, h⟩ := h
  refine ⟨?_, ?_, ?_⟩
  · rw [extract_list, List.length_drop, List.length_take]
    omega
  · have e : (s.extract i j).data.toList[q - i]'(by rw [extract_list, List.length_drop, List.length_take]; omega) = s.data.toList[q] := by
      simp only [extract_list, List.getElem_drop, List.getElem_take]
      congr 1
      omega
    rw [e]
    exact hv
  · rw [extract_list, extract_list, h, List.take_set, List.drop_set, if_neg (by omega)]
theorem Turned.sum {s s' : ByteArray} {q : Nat} {v : UInt8} (h : Turned s s' q v) : SUM s' ≠ SUM s := by
  obtain ⟨hl, hv, h⟩ := h
  exact SUM_ne s s' q v hl hv h
theorem Turned.ne {s s' : ByteArray} {q : Nat} {v : UInt8} (h : Turned s s' q v) : s' ≠ s := by
  obtain ⟨hl, hv, h⟩ := h
  intro he
  rw [he] at h
  have := congrArg (fun l => l[q]?) h
  simp only [List.getElem?_eq_getElem hl, List.getElem?_set_self hl] at this
  injection this with this
  exact hv this.symm
theorem Turned.behind {s s' : ByteArray} {q : Nat} {v : UInt8} (p : ByteArray) (h : Turned s s' q v) : Turned (p ++ s) (p ++ s') (p.size + q) v := by
  obtain ⟨hl, hv, h⟩ := h
  have hp : p.data.toList.length = p.size := by simp
  refine ⟨?_, ?_, ?_⟩
  · rw [ByteArray.data_append, Array.toList_append, List.length_append]
    omega
  · have e : (p ++ s).data.toList[p.size + q]'(by rw [ByteArray.data_append, Array.toList_append, List.length_append]; omega) = s.data.toList[q] := by
      simp only [ByteArray.data_append, Array.toList_append]
      rw [List.getElem_append_right (by omega)]
      congr 1
      omega
    rw [e]
    exact hv
  · rw [ByteArray.data_append, ByteArray.data_append, Array.toList_append, Array.toList_append, h, List.set_append_right _ _ (by omega)]
    congr 2
    omega
/-- a record of which one byte is turned is refused -/
theorem FIRST_turned (n : Nat) (b t s' : ByteArray) (q : Nat) (v : UInt8) (h : OkRec (n : Int) b) (hq : q < 20 + b.size) (hT : Turned (FRAME n b ++ t) s' q v) : FIRST s' = NONE 90 := by
  unfold OkRec at h
  have hz : s'.size = 20 + b.size + t.size := by rw [hT.size, ByteArray.size_append, FRAME_size]
  unfold FIRST
  rw [if_neg (by omega)]
  by_cases h1 : q < 16
  · rw [if_neg]
    apply toList_ne
    by_cases h2 : q < 12
    · have hn := (hT.near 0 12 (by omega) h2).sum
      rw [FRAME_head] at hn
      rw [hT.far 12 16 (by omega), FRAME_hsum]
      exact hn
    · have hn := (hT.near 12 16 (by omega) h1).ne
      rw [FRAME_hsum] at hn
      rw [hT.far 0 12 (by omega), FRAME_head]
      exact fun he => hn he.symm
  · rw [hT.far 0 12 (by omega), hT.far 12 16 (by omega), hT.far 0 4 (by omega), hT.far 4 12 (by omega), FRAME_head, FRAME_hsum, if_pos rfl, FRAME_len, FRAME_seq, UNFIX_FIX _ _ (by omega), UNFIX_FIX _ _ (by omega), if_neg (by omega), if_neg (by omega)]
    rw [if_neg]
    apply toList_ne
    by_cases h2 : q < 16 + b.size
    · have hn := ((hT.near 16 (16 + b.size) (by omega) h2).behind (FIX n 8)).sum
      rw [FRAME_body] at hn
      rw [hT.far (16 + b.size) (20 + b.size) (by omega), FRAME_bsum]
      exact hn
    · have hn := (hT.near (16 + b.size) (20 + b.size) (by omega) hq).ne
      rw [FRAME_bsum] at hn
      rw [hT.far 16 (16 + b.size) (by omega), FRAME_body]
      exact fun he => hn he.symm
/-- the records ahead of the one that is refused stand -/
theorem SCAN_turned (l : List ByteArray) (n p j : Nat) (s' : ByteArray) (v : UInt8) (hok : ∀ i, (h : i < l.length) → OkRec ((n + i : Nat) : Int) l[i]) (hj : j < l.length) (h1 : LEN (l.take j) ≤ p) (h2 : p < LEN (l.take (j + 1))) (hT : Turned (JOIN n l) s' p v) :
    SCAN s' = (RECS n (l.take j), (LEN (l.take j) : Int), 90) := by
  have hok1 : ∀ i, (h : i < (l.take j).length) → OkRec ((n + i : Nat) : Int) (l.take j)[i] := fun i h => by
    rw [List.getElem_take]
    exact hok i (by rw [List.length_take] at h; omega)
  have hlj : (l.take j).length = j := by rw [List.length_take]; omega
  have hd : l = l.take j ++ (l[j] :: l.drop (j + 1)) := by rw [← List.drop_eq_getElem_cons hj, List.take_append_drop]
  have hJ : JOIN n l = JOIN n (l.take j) ++ (FRAME (n + j) l[j] ++ JOIN (n + j + 1) (l.drop (j + 1))) := by
    have h := JOIN_append (l.take j) (l[j] :: l.drop (j + 1)) n
    rw [← hd, hlj, JOIN] at h
    exact h
  have ht : LEN (l.take (j + 1)) = LEN (l.take j) + (20 + l[j].size) := by
    rw [List.take_succ_eq_append_getElem hj, LEN_append]
    simp [LEN]
  have hsz : (JOIN n l).size = LEN (l.take j) + (20 + l[j].size + (JOIN (n + j + 1) (l.drop (j + 1))).size) := by
    rw [hJ]
    simp only [ByteArray.size_append, JOIN_size n (l.take j), FRAME_size]
  -- what stands behind the whole records
  have hR := hT.near (LEN (l.take j)) (JOIN n l).size h1 (by omega)
  have hx : (JOIN n l).extract (LEN (l.take j)) (JOIN n l).size = FRAME (n + j) l[j] ++ JOIN (n + j + 1) (l.drop (j + 1)) := by
    have hjs := JOIN_size n (l.take j)
    rw [hsz, hJ, ext_right _ _ _ _ (by omega), hjs, Nat.sub_self]
    exact ext_all _ _ (by simp only [ByteArray.size_append, FRAME_size]; omega)
  rw [hx] at hR
  have hF := FIRST_turned (n + j) l[j] _ _ _ v (hok j hj) (by omega) hR
  have hs' : s' = JOIN n (l.take j) ++ s'.extract (LEN (l.take j)) (JOIN n l).size := by
    have ha : s'.extract 0 (LEN (l.take j)) = JOIN n (l.take j) := by
      rw [hT.far 0 (LEN (l.take j)) (by omega), hJ, ext_left _ _ _ _ (by rw [JOIN_size]; omega)]
      exact ext_all _ _ (by rw [JOIN_size]; omega)
    apply WideShapes.bytes_inj
    rw [ByteArray.data_append, Array.toList_append, ← ha, extract_list, extract_list]
    have hl : s'.data.toList.length = (JOIN n l).size := by rw [← hT.size]; simp
    rw [List.drop_zero, List.take_of_length_le (i := (JOIN n l).size) (by omega), List.take_append_drop]
  have hg := LEN_ge (l.take j)
  obtain ⟨f, hf⟩ : ∃ f, s'.size + 1 = (f + 1) + (l.take j).length := ⟨s'.size - j, by rw [hT.size]; omega⟩
  unfold SCAN
  have hjn := scanGo_join (l.take j) ByteArray.empty n (s'.extract (LEN (l.take j)) (JOIN n l).size) (f + 1) [] hok1 (fun h => absurd h (by simp))
  rw [ByteArray.empty_append, ← hs'] at hjn
  have he : ByteArray.empty.size = 0 := rfl
  rw [he, Nat.zero_add, List.nil_append] at hjn
  rw [hf, hjn, scanGo, if_pos (by rw [hT.size]; omega), hT.size, hF]
  have hr : errAt (RECS n (l.take j)) (NONE 90) = 90 := by
    unfold errAt NONE
    rw [if_neg (by simp)]
  rw [hr, if_neg (by simp)]
/-- bytes with one set anew, as the walk makes them -/
theorem turned_set (s : ByteArray) (p : Nat) (x : Int) (hp : p < s.size) (h0 : 0 ≤ x) (h1 : x < 256) (hx : x ≠ bt s (p : Int)) : Turned s (strOfNums ((bytesOf s).set p x)) p (UInt8.ofNat x.toNat) := by
  have hl : p < s.data.toList.length := by simpa using hp
  refine ⟨hl, fun he => ?_, ?_⟩
  · rw [bt_getD s p hp] at hx
    have := congrArg UInt8.toNat he
    rw [UInt8.toNat_ofNat'] at this
    omega
  · rw [strOfNums_data, List.map_set]
    congr 1
    have h := congrArg (fun z => z.data.toList) (strOfNums_bytesOf s)
    rw [strOfNums_data] at h
    exact h
end Go.Proofs.Ytmnmlicckmaegaa.WalE
