/- Records one behind the other: what is found where they are whole, and where they are cut off. -/
import Derived.Test.YtmnmlicckmaegaaWalB
namespace Go.Proofs.Ytmnmlicckmaegaa.WalC
open Go.RowKit Go.Proofs.Ytmnmlicckmaegaa.PWal Go.Proofs.Ytmnmlicckmaegaa.WalA Go.Proofs.Ytmnmlicckmaegaa.WalB Go.Proofs.YtmnmlicckmaegaaW.PrintWords Go.Proofs.YtmnmlicckmaegaaW.PrintLast Go.Proofs.YtmnmlicckmaegaaW.PrintMore

theorem ext_left (a b : ByteArray) (i j : Nat) (hj : j ≤ a.size) : (a ++ b).extract i j = a.extract i j := by
  rw [ByteArray.extract_append]
  have e : b.extract (i - a.size) (j - a.size) = ByteArray.empty := by rw [ByteArray.extract_eq_empty_iff]; omega
  rw [e, ByteArray.append_empty]
theorem ext_right (a b : ByteArray) (i j : Nat) (hi : a.size ≤ i) : (a ++ b).extract i j = b.extract (i - a.size) (j - a.size) := by
  rw [ByteArray.extract_append]
  have e : a.extract i j = ByteArray.empty := by rw [ByteArray.extract_eq_empty_iff]; omega
  rw [e, ByteArray.empty_append]
theorem ext_all (a : ByteArray) (j : Nat) (hj : a.size ≤ j) : a.extract 0 j = a := by
  have h := @ByteArray.extract_append_eq_left a ByteArray.empty a.size rfl
  rw [ByteArray.append_empty] at h
  have e : a.extract 0 j = a.extract 0 a.size := by
    apply ByteArray.ext
    simp only [ByteArray.data_extract]
    apply Array.ext_getElem?
    intro i
    simp only [Array.getElem?_extract]
    have hs : a.data.size = a.size := rfl
    by_cases hi : i < a.size
    · rw [if_pos (by omega), if_pos (by omega)]
    · rw [if_neg (by omega), if_neg (by omega)]
  rw [e, h]

/-- what a record's bytes begin with -/
theorem parts (n : Nat) (b : ByteArray) (m : Nat) : (FRAME n b).extract 0 m = (FRAME n b).extract 0 m := rfl
theorem FRAME_head (n : Nat) (b t : ByteArray) : (FRAME n b ++ t).extract 0 12 = HEAD n b := by
  rw [ext_left _ _ _ _ (by rw [FRAME_size]; omega)]
  unfold FRAME
  rw [ext_left _ _ _ _ (by simp only [ByteArray.size_append, HEAD_size, SUM_size]; omega), ext_left _ _ _ _ (by simp only [ByteArray.size_append, HEAD_size, SUM_size]; omega), ext_left _ _ _ _ (by rw [HEAD_size]; omega)]
  exact ext_all _ _ (by rw [HEAD_size]; omega)
theorem FRAME_hsum (n : Nat) (b t : ByteArray) : (FRAME n b ++ t).extract 12 16 = SUM (HEAD n b) := by
  rw [ext_left _ _ _ _ (by rw [FRAME_size]; omega)]
  unfold FRAME
  rw [ext_left _ _ _ _ (by simp only [ByteArray.size_append, HEAD_size, SUM_size]; omega), ext_left _ _ _ _ (by simp only [ByteArray.size_append, HEAD_size, SUM_size]; omega), ext_right _ _ _ _ (by rw [HEAD_size]; omega), HEAD_size]
  exact ext_all _ _ (by rw [SUM_size]; omega)
theorem FRAME_len (n : Nat) (b t : ByteArray) : (FRAME n b ++ t).extract 0 4 = FIX b.size 4 := by
  have h := congrArg (fun x => x.extract 0 4) (FRAME_head n b t)
  simp only [ByteArray.extract_extract] at h
  rw [show min (0 + 4) 12 = 4 from rfl, Nat.add_zero] at h
  rw [h]
  unfold HEAD
  rw [ext_left _ _ _ _ (by rw [FIX_size]; omega)]
  exact ext_all _ _ (by rw [FIX_size]; omega)
theorem FRAME_seq (n : Nat) (b t : ByteArray) : (FRAME n b ++ t).extract 4 12 = FIX n 8 := by
  have h := congrArg (fun x => x.extract 4 12) (FRAME_head n b t)
  simp only [ByteArray.extract_extract] at h
  rw [show min (0 + 12) 12 = 12 from rfl, Nat.zero_add] at h
  rw [h]
  unfold HEAD
  rw [ext_right _ _ _ _ (by rw [FIX_size]; omega), FIX_size]
  exact ext_all _ _ (by rw [FIX_size]; omega)
theorem FRAME_body (n : Nat) (b t : ByteArray) : (FRAME n b ++ t).extract 16 (16 + b.size) = b := by
  rw [ext_left _ _ _ _ (by rw [FRAME_size]; omega)]
  unfold FRAME
  rw [ext_left _ _ _ _ (by simp only [ByteArray.size_append, HEAD_size, SUM_size]; omega), ext_right _ _ _ _ (by simp only [ByteArray.size_append, HEAD_size, SUM_size]; omega)]
  simp only [ByteArray.size_append, HEAD_size, SUM_size]
  exact ext_all _ _ (by omega)
theorem FRAME_bsum (n : Nat) (b t : ByteArray) : (FRAME n b ++ t).extract (16 + b.size) (20 + b.size) = SUM (FIX n 8 ++ b) := by
  rw [ext_left _ _ _ _ (by rw [FRAME_size]; omega)]
  unfold FRAME
  rw [ext_right _ _ _ _ (by simp only [ByteArray.size_append, HEAD_size, SUM_size]; omega)]
  simp only [ByteArray.size_append, HEAD_size, SUM_size]
  rw [show 16 + b.size - (12 + 4 + b.size) = 0 by omega]
  exact ext_all _ _ (by rw [SUM_size]; omega)

/-- a whole record at the begin -/
theorem FIRST_frame (n : Nat) (b t : ByteArray) (h : OkRec n b) : FIRST (FRAME n b ++ t) = ((n : Int), b, (20 + b.size : Int), 0) := by
  unfold OkRec at h
  unfold FIRST
  have hz : (FRAME n b ++ t).size = 20 + b.size + t.size := by rw [ByteArray.size_append, FRAME_size]
  rw [if_neg (by omega), FRAME_head, FRAME_hsum, if_pos rfl, FRAME_len, FRAME_seq, UNFIX_FIX _ _ (by omega), UNFIX_FIX _ _ (by omega), if_neg (by omega), if_neg (by omega), FRAME_body, FRAME_bsum, if_pos rfl]
/-- a record that is cut off -/
theorem FIRST_torn (n : Nat) (b : ByteArray) (m : Nat) (h : OkRec n b) (hm : m < 20 + b.size) : FIRST ((FRAME n b).extract 0 m) = NONE 91 := by
  unfold OkRec at h
  have hz : ((FRAME n b).extract 0 m).size = m := by rw [ByteArray.size_extract, FRAME_size]; omega
  have hsub : ∀ i j, j ≤ m → ((FRAME n b).extract 0 m).extract i j = (FRAME n b ++ ByteArray.empty).extract i j := by
    intro i j hj
    rw [ByteArray.extract_extract, ByteArray.append_empty]
    congr 1
    · omega
    · omega
  unfold FIRST
  by_cases h1 : m < 16
  · rw [if_pos (by omega)]
  · rw [if_neg (by omega), hsub 0 12 (by omega), hsub 12 16 (by omega), hsub 0 4 (by omega), hsub 4 12 (by omega), FRAME_head, FRAME_hsum, if_pos rfl, FRAME_len, FRAME_seq, UNFIX_FIX _ _ (by omega), UNFIX_FIX _ _ (by omega), if_neg (by omega), if_pos (by omega)]

/-! records one behind the other -/
def JOIN : Nat → List ByteArray → ByteArray
  | _, [] => ByteArray.empty
  | n, b :: l => FRAME n b ++ JOIN (n + 1) l
def RECS : Nat → List ByteArray → List S23
  | _, [] => []
  | n, b :: l => ⟨(n : Int), b⟩ :: RECS (n + 1) l
theorem RECS_length : ∀ (n : Nat) (l : List ByteArray), (RECS n l).length = l.length
  | _, [] => rfl
  | n, b :: l => by simp [RECS, RECS_length (n + 1) l]
/-- the next number that fits behind what was found -/
def Next (acc : List S23) (n : Nat) : Prop := acc.length > 0 → (rd_T23 acc ((acc.length : Int) - 1)).f0 + 1 = n
theorem last_snoc (acc : List S23) (x : S23) : rd_T23 (acc ++ [x]) (((acc ++ [x]).length : Int) - 1) = x := by
  unfold rd_T23
  have e : (((acc ++ [x]).length : Int) - 1).toNat = acc.length := by rw [List.length_append, List.length_singleton]; omega
  rw [e, List.getD_eq_getElem?_getD, List.getElem?_append_right (by omega)]
  simp
theorem Next.snoc (acc : List S23) (n : Nat) (b : ByteArray) : Next (acc ++ [⟨(n : Int), b⟩]) (n + 1) := by
  intro _
  rw [last_snoc]
  simp
/-- the sum of the records' sizes -/
def LEN : List ByteArray → Nat
  | [] => 0
  | b :: l => 20 + b.size + LEN l
theorem JOIN_size : ∀ (n : Nat) (l : List ByteArray), (JOIN n l).size = LEN l
  | _, [] => rfl
  | n, b :: l => by rw [JOIN, ByteArray.size_append, FRAME_size, JOIN_size (n + 1) l, LEN]
/-- behind a beginning that is passed, a whole record is found -/
theorem scanGo_frame (p : ByteArray) (n : Nat) (b t : ByteArray) (f : Nat) (acc : List S23) (h : OkRec n b) (hx : Next acc n) :
    scanGo (p ++ (FRAME n b ++ t)) (f + 1) acc p.size = scanGo (p ++ (FRAME n b ++ t)) f (acc ++ [⟨(n : Int), b⟩]) (p.size + (20 + b.size)) := by
  have hz : (p ++ (FRAME n b ++ t)).size = p.size + (20 + b.size + t.size) := by simp only [ByteArray.size_append, FRAME_size]
  have he : (p ++ (FRAME n b ++ t)).extract p.size (p ++ (FRAME n b ++ t)).size = FRAME n b ++ t := by
    rw [ext_right _ _ _ _ (by omega), hz, Nat.sub_self]
    exact ext_all _ _ (by simp only [ByteArray.size_append, FRAME_size]; omega)
  rw [scanGo, if_pos (by omega), he, FIRST_frame n b t h]
  have hr : errAt acc ((n : Int), b, (20 + b.size : Int), 0) = 0 := by
    unfold errAt
    rw [if_pos rfl, if_neg]
    rintro ⟨h0, h1⟩
    exact h1 (hx h0).symm
  have ht : (20 + (b.size : Int)).toNat = 20 + b.size := by omega
  rw [hr, if_pos rfl]
  simp only [ht]
theorem scanGo_join : ∀ (l : List ByteArray) (p : ByteArray) (n : Nat) (t : ByteArray) (f : Nat) (acc : List S23), (∀ j, (hj : j < l.length) → OkRec ((n + j : Nat) : Int) l[j]) → Next acc n →
    scanGo (p ++ (JOIN n l ++ t)) (f + l.length) acc p.size = scanGo (p ++ (JOIN n l ++ t)) f (acc ++ RECS n l) (p.size + LEN l) := by
  intro l
  induction l with
  | nil =>
    intro p n t f acc _ _
    simp [RECS, LEN]
  | cons b l ih =>
    intro p n t f acc hok hx
    have h0 := hok 0 (by simp)
    simp only [Nat.add_zero, List.getElem_cons_zero] at h0
    have e1 : p ++ (JOIN n (b :: l) ++ t) = p ++ (FRAME n b ++ (JOIN (n + 1) l ++ t)) := by rw [JOIN, ByteArray.append_assoc]
    have e2 : p ++ (FRAME n b ++ (JOIN (n + 1) l ++ t)) = (p ++ FRAME n b) ++ (JOIN (n + 1) l ++ t) := by rw [ByteArray.append_assoc]
    have e3 : f + (b :: l).length = (f + l.length) + 1 := by rw [List.length_cons]; omega
    have hz : (p ++ FRAME n b).size = p.size + (20 + b.size) := by rw [ByteArray.size_append, FRAME_size]
    rw [e1, e3, scanGo_frame p n b _ _ acc h0 hx, e2, ← hz, ih (p ++ FRAME n b) (n + 1) t f _ (fun j hj => by
      have h := hok (j + 1) (by simpa using hj)
      have e : n + (j + 1) = n + 1 + j := by omega
      rw [e] at h
      simpa using h) (Next.snoc acc n b), hz]
    simp only [RECS, LEN, List.append_assoc, List.singleton_append, Nat.add_assoc]
/-- what is left behind whole records: nothing, or a record that is cut off -/
theorem scanGo_rest (p : ByteArray) (n : Nat) (b : ByteArray) (m f : Nat) (acc : List S23) (h : OkRec n b) (hm : m < 20 + b.size) :
    scanGo (p ++ (FRAME n b).extract 0 m) (f + 1) acc p.size = (acc, (p.size : Int), if m = 0 then 0 else 91) := by
  have hz0 : ((FRAME n b).extract 0 m).size = m := by rw [ByteArray.size_extract, FRAME_size]; omega
  have hz : (p ++ (FRAME n b).extract 0 m).size = p.size + m := by rw [ByteArray.size_append, hz0]
  rw [scanGo]
  by_cases h0 : m = 0
  · rw [if_neg (by omega), if_pos h0]
  · have he : (p ++ (FRAME n b).extract 0 m).extract p.size (p ++ (FRAME n b).extract 0 m).size = (FRAME n b).extract 0 m := by
      rw [ext_right _ _ _ _ (by omega), hz, Nat.sub_self]
      exact ext_all _ _ (by omega)
    have hr : errAt acc (NONE 91) = 91 := by
      unfold errAt NONE
      rw [if_neg (by simp)]
    rw [if_pos (by omega), he, FIRST_torn n b m h hm, hr, if_neg (by simp), if_neg h0]
theorem scanGo_end (s : ByteArray) (f : Nat) (acc : List S23) : scanGo s (f + 1) acc s.size = (acc, (s.size : Int), 0) := by
  rw [scanGo, if_neg (by omega)]
theorem LEN_ge : ∀ l : List ByteArray, l.length ≤ LEN l
  | [] => by simp [LEN]
  | b :: l => by have := LEN_ge l; simp only [LEN, List.length_cons]; omega
/-- whole records, and behind them a record that is cut off -/
theorem SCAN_torn (n : Nat) (l : List ByteArray) (b : ByteArray) (m : Nat) (hok : ∀ j, (hj : j < l.length) → OkRec ((n + j : Nat) : Int) l[j]) (h : OkRec ((n + l.length : Nat) : Int) b) (hm : m < 20 + b.size) :
    SCAN (JOIN n l ++ (FRAME (n + l.length) b).extract 0 m) = (RECS n l, (LEN l : Int), if m = 0 then 0 else 91) := by
  unfold SCAN
  have hz : (JOIN n l ++ (FRAME (n + l.length) b).extract 0 m).size = LEN l + m := by
    rw [ByteArray.size_append, JOIN_size, ByteArray.size_extract, FRAME_size]
    omega
  have hg := LEN_ge l
  obtain ⟨f, hf⟩ : ∃ f, LEN l + m + 1 = (f + 1) + l.length := ⟨LEN l + m - l.length, by omega⟩
  have hj := scanGo_join l ByteArray.empty n ((FRAME (n + l.length) b).extract 0 m) (f + 1) [] hok (fun h => absurd h (by simp))
  rw [ByteArray.empty_append] at hj
  have he : ByteArray.empty.size = 0 := rfl
  rw [he, Nat.zero_add, List.nil_append] at hj
  rw [hz, hf, hj, ← JOIN_size n l, scanGo_rest (JOIN n l) (n + l.length) b m f (RECS n l) h hm]
theorem SCAN_whole (n : Nat) (l : List ByteArray) (hok : ∀ j, (hj : j < l.length) → OkRec ((n + j : Nat) : Int) l[j]) : SCAN (JOIN n l) = (RECS n l, (LEN l : Int), 0) := by
  unfold SCAN
  have hg := LEN_ge l
  obtain ⟨f, hf⟩ : ∃ f, LEN l + 1 = (f + 1) + l.length := ⟨LEN l - l.length, by omega⟩
  have hj := scanGo_join l ByteArray.empty n ByteArray.empty (f + 1) [] hok (fun h => absurd h (by simp))
  rw [ByteArray.empty_append, ByteArray.append_empty] at hj
  have he : ByteArray.empty.size = 0 := rfl
  rw [he, Nat.zero_add, List.nil_append] at hj
  rw [JOIN_size, hf, hj]
  have h2 := scanGo_end (JOIN n l) f (RECS n l)
  rw [JOIN_size] at h2
  exact h2

/-- chapter 9's example -/
def AB : ByteArray := ⟨#[97, 98]⟩
theorem AB_size : AB.size = 2 := rfl
theorem AB_ok : OkRec ((1 : Nat) : Int) AB := by unfold OkRec; rw [AB_size]; omega
theorem AB_ok2 : OkRec ((2 : Nat) : Int) AB := by unfold OkRec; rw [AB_size]; omega
/-- the beginning of a record of three bytes: its length's first bytes -/
theorem FRAME_three (n m : Nat) : (FRAME n AB).extract 0 3 = (FRAME m AB).extract 0 3 := by
  have h := fun n => congrArg (fun x => x.extract 0 3) (FRAME_len n AB ByteArray.empty)
  simp only [ByteArray.extract_extract, ByteArray.append_empty] at h
  rw [show min (0 + 3) 4 = 3 from rfl, Nat.add_zero] at h
  rw [h n, h m]
theorem awake (k : Nat) (hk : 300 ≤ k) : lodestarlaw09_awake.f k = some true := by
  obtain ⟨k, rfl⟩ : ∃ m, k = m + 1 := ⟨k - 1, by omega⟩
  unfold lodestarlaw09_awake.f
  have hf : FRAMES 1 AB = (FRAME 1 AB, 0) := by
    unfold FRAMES
    have h : OkRec 1 AB := AB_ok
    rw [if_pos h]
    rfl
  have hw : wal_Frame.f (k + 1) 1 (⟨#[97, 98]⟩ : ByteArray) = some (FRAME 1 AB, 0) := by
    have h := walFrame 1 AB (k + 1) (by omega)
    rw [hf] at h
    exact h
  have hz : (FRAME 1 AB).size = 22 := by rw [FRAME_size, AB_size]
  have hj : JOIN 1 [AB] = FRAME 1 AB := by rw [JOIN, JOIN, ByteArray.append_empty]
  have hs := SCAN_torn 1 [AB] AB 3 (fun j hj => by
    obtain rfl : j = 0 := by simpa using hj
    exact AB_ok) AB_ok2 (by rw [AB_size]; omega)
  rw [hj, show 1 + [AB].length = 2 from rfl, FRAME_three 2 1] at hs
  have hsz : (FRAME 1 AB ++ (FRAME 1 AB).extract 0 3).size = 25 := by rw [ByteArray.size_append, ByteArray.size_extract, hz]; rfl
  rw [hw]
  simp only [Option.bind_some]
  rw [if_pos (by rw [hz]; rfl)]
  simp only [lodestarlaw09_awake.j0]
  rw [if_neg (by simp), if_pos (by omega), if_pos (by rw [hz]; omega), if_pos (by rw [ByteArray.size_extract, hz]; omega), walScan _ k (by omega) (by omega), hs]
  simp only [Option.bind_some]
  have he : ([(⟨1, (⟨#[97, 98]⟩ : ByteArray)⟩ : S23)] : List S23) = RECS 1 [AB] := rfl
  rw [he, same_self (RECS 1 [AB]) k (by decide) (by show 1 < k; omega)]
  simp only [Option.bind_some]
  simp only [if_true]
  rw [if_pos (by decide)]
  rfl
end Go.Proofs.Ytmnmlicckmaegaa.WalC
