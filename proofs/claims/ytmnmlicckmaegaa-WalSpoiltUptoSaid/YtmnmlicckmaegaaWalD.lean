/- Records joined by the law's own loop; cut off anywhere; the law's loops come to true. -/
import Derived.Test.YtmnmlicckmaegaaWalC
namespace Go.Proofs.Ytmnmlicckmaegaa.WalD
open Go.RowKit Go.Proofs.Ytmnmlicckmaegaa.PWal Go.Proofs.Ytmnmlicckmaegaa.WalA Go.Proofs.Ytmnmlicckmaegaa.WalB Go.Proofs.Ytmnmlicckmaegaa.WalC Go.Proofs.YtmnmlicckmaegaaW.PrintWords Go.Proofs.YtmnmlicckmaegaaW.PrintLast Go.Proofs.YtmnmlicckmaegaaW.PrintMore

theorem bytesOf_append (a b : ByteArray) : bytesOf (a ++ b) = bytesOf a ++ bytesOf b := by
  unfold bytesOf
  rw [ByteArray.data_append, Array.toList_append, List.map_append]
theorem strOfNums_bytesOf (s : ByteArray) : strOfNums (bytesOf s) = s := by
  apply WideShapes.bytes_inj
  rw [strOfNums_data, bytesOf, List.map_map]
  have h : ((fun n : Int => UInt8.ofNat n.toNat) ∘ fun b : UInt8 => (b.toNat : Int)) = id := by
    funext b
    simp
  rw [h, List.map_id]
theorem LEN_append (l r : List ByteArray) : LEN (l ++ r) = LEN l + LEN r := by
  induction l with
  | nil => simp [LEN]
  | cons b l ih => simp only [List.cons_append, LEN, ih]; omega
theorem JOIN_append : ∀ (l r : List ByteArray) (n : Nat), JOIN n (l ++ r) = JOIN n l ++ JOIN (n + l.length) r
  | [], r, n => by rw [List.nil_append, JOIN, ByteArray.empty_append]; rfl
  | b :: l, r, n => by
    rw [List.cons_append, JOIN, JOIN, JOIN_append l r (n + 1), ByteArray.append_assoc, List.length_cons]
    congr 3
    omega
/-- where each record ends -/
def ENDS (l : List ByteArray) : List Int := (List.range (l.length + 1)).map fun i => (LEN (l.take i) : Int)
theorem ENDS_length (l : List ByteArray) : (ENDS l).length = l.length + 1 := by simp [ENDS]
theorem ENDS_rd (l : List ByteArray) (i : Nat) (h : i ≤ l.length) : rd (ENDS l) (i : Int) = (LEN (l.take i) : Int) := by
  unfold rd ENDS
  rw [Int.toNat_natCast, List.getD_eq_getElem?_getD, List.getElem?_map, List.getElem?_range (by omega)]
  rfl
theorem ENDS_snoc (l : List ByteArray) (b : ByteArray) : ENDS (l ++ [b]) = ENDS l ++ [(LEN (l ++ [b]) : Int)] := by
  unfold ENDS
  rw [List.length_append, List.length_singleton, List.range_succ, List.map_append]
  congr 1
  · apply List.map_congr_left
    intro i hi
    rw [List.mem_range] at hi
    rw [List.take_append_of_le_length (by omega)]
  · simp
    rw [List.take_of_length_le (by simp)]
theorem FRAMES_ok (n : Nat) (b : ByteArray) (h : OkRec (n : Int) b) : FRAMES (n : Int) b = (FRAME n b, 0) := by
  unfold FRAMES
  rw [if_pos h, Int.toNat_natCast]
theorem FRAME_ne (n : Nat) (b : ByteArray) : ¬ (FRAME n b).toList = ([] : List UInt8) := by
  intro h
  rw [ByteArray.toList_eq] at h
  have hz := FRAME_size n b
  have hl : (FRAME n b).data.toList.length = (FRAME n b).size := by simp
  rw [h] at hl
  simp at hl
  omega
theorem rdOf_get (l : List ByteArray) (i : Nat) (h : i < l.length) : rdOf ByteArray.empty l (i : Int) = l[i] := by
  unfold rdOf
  rw [Int.toNat_natCast, List.getD_eq_getElem?_getD, List.getElem?_eq_getElem h]
  rfl

theorem joined_l0 (l : List ByteArray) (n : Nat) (hn : n + l.length ≤ 4503599627370496) (h1 : 1 ≤ n) (hb : ∀ i, (h : i < l.length) → l[i].size ≤ 65536) (hL : LEN l ≤ 1099511627776) (hl : l.length ≤ 1099511627776) :
    ∀ (d i k : Nat), i + d = l.length → d + 30 ≤ k → lodestarlaw09_joined.l0 k l (n : Int) (bytesOf (JOIN n (l.take i))) (ENDS (l.take i)) (i : Int) = some (JOIN n l, ENDS l, true) := by
  intro d
  induction d with
  | zero =>
    intro i k hi hk
    obtain ⟨k, rfl⟩ : ∃ m, k = m + 1 := ⟨k - 1, by omega⟩
    rw [lodestarlaw09_joined.l0, if_neg (by omega), List.take_of_length_le (by omega), strOfNums_bytesOf]
  | succ d ih =>
    intro i k hi hk
    obtain ⟨k, rfl⟩ : ∃ m, k = m + 1 := ⟨k - 1, by omega⟩
    have hlt : i < l.length := by omega
    have hbi := hb i hlt
    have hok : OkRec ((n + i : Nat) : Int) l[i] := by unfold OkRec; omega
    have ew : wrap64 ((n : Int) + (i : Int)) = ((n + i : Nat) : Int) := by rw [w64 (by omega) (by omega)]; omega
    have ht : l.take (i + 1) = l.take i ++ [l[i]] := by rw [List.take_succ_eq_append_getElem hlt]
    have hLt : LEN (l.take (i + 1)) ≤ LEN l := by
      have h := LEN_append (l.take (i + 1)) (l.drop (i + 1))
      rw [List.take_append_drop] at h
      omega
    have hj : JOIN n (l.take (i + 1)) = JOIN n (l.take i) ++ FRAME (n + i) l[i] := by
      rw [ht, JOIN_append, JOIN, JOIN, ByteArray.append_empty, List.length_take, Nat.min_eq_left (by omega)]
    have hsz : (JOIN n (l.take (i + 1))).size = LEN (l.take (i + 1)) := JOIN_size _ _
    rw [hj, ByteArray.size_append] at hsz
    rw [lodestarlaw09_joined.l0, if_pos (by omega), if_pos (by omega), ew, rdOf_get l i hlt, walFrame _ _ k (by omega), FRAMES_ok _ _ hok]
    simp only [Option.bind_some]
    rw [if_pos trivial, if_neg (FRAME_ne _ _), if_pos (by rw [bytesOf_length]; omega)]
    rw [← bytesOf_append, ← hj]
    have hlen : (bytesOf (JOIN n (l.take (i + 1)))).length = LEN (l.take (i + 1)) := by rw [bytesOf_length, JOIN_size]
    rw [hlen, if_pos (by rw [ENDS_length, List.length_take]; omega), w64 (by omega) (by omega)]
    have he : ENDS (l.take i) ++ [(LEN (l.take (i + 1)) : Int)] = ENDS (l.take (i + 1)) := by rw [ht, ENDS_snoc]
    rw [he]
    exact ih (i + 1) k (by omega) (by omega)
theorem joined (l : List ByteArray) (n : Nat) (k : Nat) (hn : n + l.length ≤ 4503599627370496) (h1 : 1 ≤ n) (hb : ∀ i, (h : i < l.length) → l[i].size ≤ 65536) (hL : LEN l ≤ 1099511627776) (hl : l.length ≤ 1099511627776) (hk : l.length + 30 ≤ k) :
    lodestarlaw09_joined.f k l (n : Int) = some (JOIN n l, ENDS l, true) := by
  have h := joined_l0 l n hn h1 hb hL hl l.length 0 k (by omega) (by omega)
  unfold lodestarlaw09_joined.f
  simpa [JOIN, ENDS, LEN, bytesOf] using h

/-- how many records are whole in so many bytes -/
theorem whole (l : List ByteArray) : ∀ c, c ≤ LEN l → ∃ j, j ≤ l.length ∧ (∀ i, i ≤ j → LEN (l.take i) ≤ c) ∧ (j < l.length → c < LEN (l.take (j + 1))) := by
  induction l with
  | nil => exact fun c _ => ⟨0, Nat.le_refl _, fun i _ => by simp [LEN], fun h => absurd h (by simp)⟩
  | cons b l ih =>
    intro c hc
    by_cases h : c < 20 + b.size
    · exact ⟨0, by simp, fun i hi => by obtain rfl : i = 0 := by omega
                                        simp [LEN], fun _ => by simp [LEN]; omega⟩
    · obtain ⟨j, hj, h1, h2⟩ := ih (c - (20 + b.size)) (by simp only [LEN] at hc; omega)
      refine ⟨j + 1, by simpa using hj, fun i hi => ?_, fun hlt => ?_⟩
      · cases i with
        | zero => simp [LEN]
        | succ i =>
          have := h1 i (by omega)
          simp only [List.take_succ_cons, LEN]
          omega
      · have := h2 (by simpa using hlt)
        simp only [List.take_succ_cons, LEN]
        omega
/-- what is found in the first bytes of records one behind the other -/
theorem SCAN_cut (l : List ByteArray) (n c j : Nat) (hok : ∀ i, (h : i < l.length) → OkRec ((n + i : Nat) : Int) l[i]) (hc : c ≤ LEN l) (hj : j ≤ l.length) (h1 : LEN (l.take j) ≤ c) (h2 : j < l.length → c < LEN (l.take (j + 1))) :
    SCAN ((JOIN n l).extract 0 c) = (RECS n (l.take j), (LEN (l.take j) : Int), if c = LEN (l.take j) then 0 else 91) := by
  have hok1 : ∀ i, (h : i < (l.take j).length) → OkRec ((n + i : Nat) : Int) (l.take j)[i] := fun i h => by
    rw [List.getElem_take]
    exact hok i (by rw [List.length_take] at h; omega)
  by_cases hlt : j < l.length
  · have hd : l = l.take j ++ (l[j] :: l.drop (j + 1)) := by rw [← List.drop_eq_getElem_cons hlt, List.take_append_drop]
    have hlj : (l.take j).length = j := by rw [List.length_take]; omega
    have hJ : JOIN n l = JOIN n (l.take j) ++ (FRAME (n + j) l[j] ++ JOIN (n + j + 1) (l.drop (j + 1))) := by
      have h := JOIN_append (l.take j) (l[j] :: l.drop (j + 1)) n
      rw [← hd, hlj, JOIN] at h
      exact h
    have ht : LEN (l.take (j + 1)) = LEN (l.take j) + (20 + l[j].size) := by
      rw [List.take_succ_eq_append_getElem hlt, LEN_append]
      simp [LEN]
    have hm := h2 hlt
    rw [ht] at hm
    have hx : (JOIN n l).extract 0 c = JOIN n (l.take j) ++ (FRAME (n + (l.take j).length) l[j]).extract 0 (c - LEN (l.take j)) := by
      rw [hJ, ByteArray.extract_append, ext_all _ _ (by rw [JOIN_size]; omega), JOIN_size, Nat.zero_sub, ext_left _ _ _ _ (by rw [FRAME_size]; omega), hlj]
    have hr := SCAN_torn n (l.take j) l[j] (c - LEN (l.take j)) hok1 (by rw [hlj]; exact hok j hlt) (by omega)
    rw [hx, hr]
    congr 2
    by_cases h : c = LEN (l.take j)
    · rw [if_pos (by omega), if_pos h]
    · rw [if_neg (by omega), if_neg h]
  · have hjl : l.take j = l := List.take_of_length_le (by omega)
    rw [hjl] at h1 ⊢
    have hce : c = LEN l := by omega
    rw [if_pos hce, ext_all _ _ (by rw [JOIN_size]; omega)]
    exact SCAN_whole n l hok

theorem RECS_rd (l : List ByteArray) : ∀ (n i : Nat), (h : i < l.length) → rd_T23 (RECS n l) (i : Int) = ⟨((n + i : Nat) : Int), l[i]⟩ := by
  induction l with
  | nil => exact fun n i h => absurd h (by simp)
  | cons b l ih =>
    intro n i h
    cases i with
    | zero => rfl
    | succ i =>
      have hr := ih (n + 1) i (by simpa using h)
      unfold rd_T23 at hr ⊢
      rw [Int.toNat_natCast] at hr ⊢
      rw [RECS, List.getD_cons_succ, hr]
      simp
      omega
end Go.Proofs.Ytmnmlicckmaegaa.WalD
