/- WalLasts: what the log and the disk are, step by step. -/
import Derived.Test.YtdnfflfofgeokaaDoorWlD
namespace Go.Proofs.YtdnfflfofgeokaaDoor.WalL
open Go.RowKit Go.Extern.Stop Go.Stop Go.Extern Go.Proofs.YtdnfflfofgeokaaDoorW.PrintWords Go.Proofs.YtdnfflfofgeokaaDoor.WalN Go.Proofs.YtdnfflfofgeokaaDoor.Dk Go.Proofs.YtdnfflfofgeokaaDoor.PWal Go.Proofs.YtdnfflfofgeokaaDoor.WalB Go.Proofs.YtdnfflfofgeokaaDoor.WalC Go.Proofs.YtdnfflfofgeokaaDoor.WalD

/-! ### plain -/
theorem take_one {bs : List ByteArray} {i : Nat} {b : ByteArray} (h : bs[i]? = some b) : bs.take (i + 1) = bs.take i ++ [b] := by
  rw [List.take_add_one, h]
  rfl
theorem take_len {bs : List ByteArray} {i : Nat} {b : ByteArray} (h : bs[i]? = some b) : (bs.take i).length = i := by
  have := (List.getElem?_eq_some_iff.1 h).1
  rw [List.length_take]
  omega
theorem join_one {bs : List ByteArray} {i : Nat} {b : ByteArray} (h : bs[i]? = some b) : JOIN 1 (bs.take (i + 1)) = JOIN 1 (bs.take i) ++ FRAME (i + 1) b := by
  rw [take_one h, JOIN_append, take_len h, Nat.add_comm 1 i, JOIN, JOIN, ByteArray.append_empty]
theorem len_one {bs : List ByteArray} {i : Nat} {b : ByteArray} (h : bs[i]? = some b) : LEN (bs.take (i + 1)) = LEN (bs.take i) + (FRAME (i + 1) b).size := by
  rw [take_one h, LEN_append, FRAME_size, LEN, LEN, Nat.add_zero]
theorem len_mono (bs : List ByteArray) {i j : Nat} (h : i ≤ j) : LEN (bs.take i) ≤ LEN (bs.take j) := by
  obtain ⟨d, rfl⟩ := Nat.exists_eq_add_of_le h
  rw [List.take_add, LEN_append]
  omega
theorem len_le (bs : List ByteArray) : ∀ i, (∀ b ∈ bs.take i, b.size ≤ 65536) → LEN (bs.take i) ≤ 65556 * i := by
  induction bs with
  | nil => intro i _; simp [LEN]
  | cons b l ih =>
    intro i h
    cases i with
    | zero => simp [LEN]
    | succ i =>
      rw [List.take_succ_cons] at h ⊢
      rw [LEN]
      have h1 := h b (List.mem_cons_self ..)
      have h2 := ih i (fun x hx => h x (List.mem_cons_of_mem _ hx))
      omega

/-- what the script's number says of a log of i records -/
def least (sy : Int) (i : Nat) : Nat := if 1 ≤ sy ∧ sy ≤ i then sy.toNat else 0
theorem least_zero (sy : Int) : least sy 0 = 0 := by
  unfold least
  rw [if_neg (by omega)]
theorem least_le (sy : Int) (i : Nat) : least sy i ≤ i := by
  unfold least
  split <;> omega
theorem least_next {sy : Int} {i : Nat} (h : (i : Int) + 1 = sy) : least sy (i + 1) = i + 1 := by
  unfold least
  rw [if_pos (by omega)]
  omega
theorem least_same {sy : Int} {i : Nat} (h : ¬ (i : Int) + 1 = sy) : least sy (i + 1) = least sy i := by
  unfold least
  by_cases h1 : 1 ≤ sy ∧ sy ≤ i
  · rw [if_pos h1, if_pos (by omega)]
  · rw [if_neg h1, if_neg (by omega)]

section
variable {B d g : Nat} {W1 w : World} {bs : List ByteArray} {p : Addr}
/-- behind i records: the first 'lo' bytes are synced -/
def St (B d g : Nat) (W1 w : World) (bs : List ByteArray) (i lo kb : Nat) : Prop :=
  ∃ m k : Int, LiveX B w d (lg (JOIN 1 (bs.take i)) m [] k) [(g, logO d (LEN (bs.take i) : Nat) (i : Nat) false)] ∧ B ≤ w.heap.size ∧ Below B W1 w ∧ (lo : Int) ≤ m ∧ m ≤ (LEN (bs.take i) : Nat) ∧ 0 ≤ k ∧ k ≤ kb
theorem St.mono {i lo kb kb' : Nat} (h : St B d g W1 w bs i lo kb) (hk : kb ≤ kb') : St B d g W1 w bs i lo kb' := by
  obtain ⟨m, k, h1, h2, h3, h4, h5, h6, h7⟩ := h
  exact ⟨m, k, h1, h2, h3, h4, h5, h6, by omega⟩
theorem St.below {i lo kb : Nat} {w' : World} (h : St B d g W1 w bs i lo kb) (hb : Below w.heap.size w w') : St B d g W1 w' bs i lo kb := by
  obtain ⟨m, k, h1, h2, h3, h4⟩ := h
  exact ⟨m, k, h1.below hb, Nat.le_trans h2 hb.size, h3.trans (hb.mono h2), h4⟩
theorem St.stay {i lo kb : Nat} (h : St B d g W1 w bs i lo kb) : Below B W1 w := by
  obtain ⟨m, k, h1, h2, h3, h4⟩ := h
  exact h3
theorem ok_rec {i : Nat} {b : ByteArray} (hi : i < 50) (hb : b.size ≤ 65536) : OkRec ((i : Int) + 1) b := by
  unfold OkRec
  omega
theorem ap_st {i lo kb : Nat} {b : ByteArray} (h : St B d g W1 w bs i lo kb) (hG : Gl (.pointer (some p)) W1) (h1 : 1 < B) (hgB : B ≤ g) (hb : bs[i]? = some b) (hi : i < 50) (hz : b.size ≤ 65536) (hL : LEN (bs.take i) ≤ 65556 * i) (hk : kb < 1000) :
    Calls Tryd.prog 7 #[.pointer (some ⟨g, 0, none⟩), .agg #[.int .i64 ((i : Int) + 1), .string b]] w fun e w' => e = .returned (.int .i64 0) ∧ St B d g W1 w' bs (i + 1) lo (kb + 1) := by
  obtain ⟨m, k, hl, hs, hbl, hm0, hm1, hk0, hk1⟩ := h
  refine (append_calls hl (fun x hx => by cases hx) hs hgB (Gl.low hG hbl h1) h1 (ok_rec hi hz) (by rw [JOIN_size]; omega) (by omega) hk0 (by omega)).mono ?_
  rintro e w' ⟨rfl, hl2, hb2⟩
  have e1 := len_one hb
  refine ⟨rfl, m, k + 1, ?_, Nat.le_trans hs hb2.size, hbl.trans hb2, hm0, by omega, by omega, by omega⟩
  rw [join_one hb, e1]
  exact hl2
theorem sy_st {i lo kb : Nat} (h : St B d g W1 w bs i lo kb) (hG : Gl (.pointer (some p)) W1) (h1 : 1 < B) (hgB : B ≤ g) (hk : kb < 1000) :
    Calls Tryd.prog 8 #[.pointer (some ⟨g, 0, none⟩)] w fun e w' => e = .returned (.int .i64 0) ∧ St B d g W1 w' bs i (LEN (bs.take i)) (kb + 1) := by
  obtain ⟨m, k, hl, hs, hbl, hm0, hm1, hk0, hk1⟩ := h
  refine (sync_calls hl (fun x hx => by cases hx) hs hgB (Gl.low hG hbl h1) h1 hk0 (by omega)).mono ?_
  rintro e w' ⟨rfl, hl2, hb2⟩
  refine ⟨rfl, _, k + 1, hl2, Nat.le_trans hs hb2.size, hbl.trans hb2, ?_, ?_, by omega, by omega⟩
  · rw [JOIN_size]; exact Int.le_refl _
  · rw [JOIN_size]; exact Int.le_refl _

/-- behind the crash: c bytes are left -/
def St2 (B d : Nat) (W1 w : World) (bs : List ByteArray) (i c : Nat) : Prop :=
  ∃ k : Int, LiveX B w d (lg ((JOIN 1 (bs.take i)).extract 0 c) c [] k) [] ∧ B ≤ w.heap.size ∧ Below B W1 w ∧ 0 ≤ k ∧ k < 1000
theorem cr_st {i lo kb : Nat} (h : St B d g W1 w bs i lo kb) (n : Int) (l : List Int) {vb : Value} (hb : IntsAt w vb l) (hbo : l ≠ [] → ∀ k, vb.ownBlock = some k → k < B) (hL : LEN (bs.take i) ≤ 65556 * i) (hi : i ≤ 50) (hk : kb < 1000) :
    Calls Tryd.prog 12 #[.pointer (some ⟨d, 0, none⟩), .agg #[.int .i64 n, vb]] w fun e w' => e = .returned (.tuple #[]) ∧ ∃ c : Nat, lo ≤ c ∧ c ≤ LEN (bs.take i) ∧ St2 B d W1 w' bs i c := by
  obtain ⟨m, k, hl, hs, hbl, hm0, hm1, hk0, hk1⟩ := h
  obtain ⟨c, hc, h1, h2⟩ := lg_crash (JOIN 1 (bs.take i)) m k n l (by omega) (by rw [JOIN_size]; exact hm1)
  rw [JOIN_size] at h2
  refine (crash_x hl hs n l hb hbo (of_decide_eq_true rfl) (fun c hc => by cases hc) (fun f hf => by simp [lg] at hf; subst hf; have h9 : maxLen = 9223372036854775807 := rfl; show (JOIN 1 (bs.take i)).size ≤ maxLen; rw [JOIN_size]; omega) hc).mono ?_
  rintro e w' ⟨rfl, hl2, hb2⟩
  exact ⟨rfl, c, by omega, h2, k, hl2.sub (fun x hx => by cases hx), Nat.le_trans hs hb2.size, hbl.trans hb2, hk0, by omega⟩
/-- a log opened: j records are there -/
def St3 (B d : Nat) (W1 w : World) (bs : List ByteArray) (j : Nat) (Y : List (Nat × Obj)) : Prop :=
  ∃ k m : Int, LiveX B w d (lg (JOIN 1 (bs.take j)) m [] k) Y ∧ B ≤ w.heap.size ∧ Below B W1 w ∧ 0 ≤ k ∧ k < 2000
/-- the rows that Open gave, with the blocks that they lie in -/
def Rs (w : World) (A : Option Addr) (c : Nat) (l : List S23) (Y : List (Nat × Obj)) : Prop := l.length ≤ c ∧ Kd.C k23 w A l.length l ∧ ∀ ad, A = some ad → 0 < l.length → ∃ y ∈ Y, y.1 = ad.block
theorem take_take_le {bs : List ByteArray} {i j : Nat} (h : j ≤ i) : (bs.take i).take j = bs.take j := by
  rw [List.take_take, Nat.min_eq_left h]
theorem ok_all {bs : List ByteArray} {i : Nat} (hi : i ≤ 50) (hz : ∀ b ∈ bs.take i, b.size ≤ 65536) : ∀ j, (h : j < (bs.take i).length) → OkRec ((1 + j : Nat) : Int) (bs.take i)[j] := by
  intro j h
  have h1 := hz _ (List.getElem_mem h)
  rw [List.length_take] at h
  unfold OkRec
  omega
theorem join_cut {bs : List ByteArray} {i j : Nat} (h : j ≤ i) : (JOIN 1 (bs.take i)).extract 0 (LEN (bs.take j)) = JOIN 1 (bs.take j) := by
  obtain ⟨d, rfl⟩ := Nat.exists_eq_add_of_le h
  rw [List.take_add, JOIN_append, ext_left _ _ _ _ (by rw [JOIN_size]; exact Nat.le_refl _)]
  exact ext_all _ _ (by rw [JOIN_size]; exact Nat.le_refl _)
theorem ext_ext (z : ByteArray) {c n : Nat} (h : n ≤ c) : (z.extract 0 c).extract 0 n = z.extract 0 n := by
  rw [ByteArray.extract_extract, Nat.zero_add, Nat.zero_add, Nat.min_eq_left h]
theorem op_st1 {i c : Nat} (h : St2 B d W1 w bs i c) (hG : Gl (.pointer (some p)) W1) (h1 : 1 < B) (hi : i ≤ 50) (hil : i ≤ bs.length) (hz : ∀ b ∈ bs.take i, b.size ≤ 65536) (hL : LEN (bs.take i) ≤ 65556 * i) (hc : c ≤ LEN (bs.take i)) :
    ∃ j, j ≤ i ∧ (∀ q, LEN (bs.take q) ≤ c → q ≤ i → q ≤ j) ∧ Calls Tryd.prog 5 #[.pointer (some ⟨d, 0, none⟩), .string nLog] w fun e w' => ∃ (A : Option Addr) (c g : Nat) (Y : List (Nat × Obj)), e = .returned (.tuple #[.pointer (some ⟨g, 0, none⟩), .slice A (RECS 1 (bs.take j)).length c, .int .i64 0]) ∧ Rs w' A c (RECS 1 (bs.take j)) Y ∧ St3 B d W1 w' bs j Y := by
  obtain ⟨k, hl, hs, hbl, hk0, hk1⟩ := h
  have hlen : (bs.take i).length = i := by rw [List.length_take]; omega
  obtain ⟨j, hj, hw1, hw2⟩ := whole (bs.take i) c hc
  rw [hlen] at hj hw2
  have hok := ok_all hi hz
  have hsc := SCAN_cut (bs.take i) 1 c j hok hc (by omega) (hw1 j (Nat.le_refl _)) (by rw [hlen]; exact hw2)
  rw [take_take_le hj] at hsc
  have hjc : LEN (bs.take j) ≤ c := by have := hw1 j (Nat.le_refl _); rwa [take_take_le hj] at this
  refine ⟨j, hj, fun q hq hqi => ?_, ?_⟩
  · by_cases hqj : q ≤ j
    · exact hqj
    · have h3 := hw2 (by omega)
      rw [take_take_le (by omega)] at h3
      have := len_mono bs (show j + 1 ≤ q by omega)
      omega
  · have hsz : ((JOIN 1 (bs.take i)).extract 0 c).size = c := by rw [ByteArray.size_extract, JOIN_size]; omega
    refine (open_calls hs (Gl.low hG hbl h1) h1 ((begun_old hl (Gl.low hG hbl h1)).mono fun e w' hx => ⟨hx.1, hx.2 ▸ hl, hx.2 ▸ Below.refl _ _⟩) hsc (by rw [hsz]; omega) (by split <;> simp) (by omega) (by rw [hsz]; omega) hk0 (by omega)).mono ?_
    rintro e w' ⟨A, ca, g, k', Y, rfl, hca, hC, hl2, hY, hA, hb2, hk2, hk3, _⟩
    have hleft : left ((JOIN 1 (bs.take i)).extract 0 c) (RECS 1 (bs.take j), (LEN (bs.take j) : Int), if c = LEN (bs.take j) then 0 else 91) = JOIN 1 (bs.take j) := by
      unfold left
      dsimp only
      by_cases he : c = LEN (bs.take j)
      · rw [if_pos he, if_neg (by decide), he, join_cut hj]
      · rw [if_neg he, if_pos rfl, Int.toNat_natCast, ext_ext _ hjc, join_cut hj]
    rw [hleft] at hl2
    refine ⟨A, ca, g, Y, rfl, ⟨hca, hC, hA⟩, k', _, hl2.sub (fun x hx => List.mem_cons_of_mem _ (List.mem_append_left _ hx)), Nat.le_trans hs hb2.size, hbl.trans hb2, by omega, by omega⟩
theorem op_st2 {j : Nat} {A1 : Option Addr} {c1 : Nat} {Y : List (Nat × Obj)} (h : St3 B d W1 w bs j Y) (hR : Rs w A1 c1 (RECS 1 (bs.take j)) Y) (hG : Gl (.pointer (some p)) W1) (h1 : 1 < B) (hi : j ≤ 50) (hz : ∀ b ∈ bs.take j, b.size ≤ 65536) (hL : LEN (bs.take j) ≤ 65556 * j) :
    Calls Tryd.prog 5 #[.pointer (some ⟨d, 0, none⟩), .string nLog] w fun e w' => ∃ (A : Option Addr) (c g : Nat), e = .returned (.tuple #[.pointer (some ⟨g, 0, none⟩), .slice A (RECS 1 (bs.take j)).length c, .int .i64 0]) ∧ (RECS 1 (bs.take j)).length ≤ c ∧ Kd.C k23 w' A (RECS 1 (bs.take j)).length (RECS 1 (bs.take j)) ∧ (RECS 1 (bs.take j)).length ≤ c1 ∧ Kd.C k23 w' A1 (RECS 1 (bs.take j)).length (RECS 1 (bs.take j)) ∧ B ≤ w'.heap.size ∧ Below B W1 w' := by
  obtain ⟨k, m, hl, hs, hbl, hk0, hk1⟩ := h
  have hsc := SCAN_whole 1 (bs.take j) (ok_all hi hz)
  have hsz : (JOIN 1 (bs.take j)).size = LEN (bs.take j) := JOIN_size _ _
  refine (open_calls hs (Gl.low hG hbl h1) h1 ((begun_old hl (Gl.low hG hbl h1)).mono fun e w' hx => ⟨hx.1, hx.2 ▸ hl, hx.2 ▸ Below.refl _ _⟩) hsc (by rw [hsz]; omega) (.inl rfl) (by omega) (by rw [hsz]; omega) hk0 (by omega)).mono ?_
  rintro e w' ⟨A, ca, g, k', Y2, rfl, hca, hC, hl2, hY, hA, hb2, hk2, hk3, _⟩
  refine ⟨A, ca, g, rfl, hca, hC, hR.1, ?_, Nat.le_trans hs hb2.size, hbl.trans hb2⟩
  by_cases h0 : 0 < (RECS 1 (bs.take j)).length
  · refine c23_move hR.2.1 (fun ad hA => ?_)
    obtain ⟨y, hy, he⟩ := hR.2.2 ad hA h0
    rw [← he]
    exact (hl2.get (List.mem_cons_of_mem _ (List.mem_append_right _ hy))).trans (hl.get hy).symm
  · exact ⟨hR.2.1.1, hR.2.1.2.1, fun h => absurd h h0⟩
/-- the new log -/
theorem op_new {W0 : World} (hl : LiveX B W0 d DS.new []) (hs : B ≤ W0.heap.size) (hbl : Below B W1 W0) (hG : Gl (.pointer (some p)) W1) (h1 : 1 < B) :
    Calls Tryd.prog 5 #[.pointer (some ⟨d, 0, none⟩), .string nLog] W0 fun e w' => ∃ (A : Option Addr) (c g : Nat), e = .returned (.tuple #[.pointer (some ⟨g, 0, none⟩), .slice A 0 c, .int .i64 0]) ∧ B ≤ g ∧ St B d g W1 w' bs 0 0 4 := by
  have hsc : SCAN ⟨#[]⟩ = ([], 0, 0) := by
    have := SCAN_whole 1 [] (fun j h => absurd h (by simp))
    exact this
  refine (open_calls (X := []) hs (Gl.low hG hbl h1) h1 (begun_new hl hs (Gl.low hG hbl h1) h1) hsc (by decide) (.inl rfl) (by decide) (by decide) (by decide) (by decide)).mono ?_
  rintro e w' ⟨A, ca, g, k', Y2, rfl, hca, hC, hl2, hY, hA, hb2, hk2, hk3, hgB⟩
  refine ⟨A, ca, g, rfl, hgB, _, k', hl2.sub (fun x hx => ?_), Nat.le_trans hs hb2.size, hbl.trans hb2, ?_, ?_, by omega, by omega⟩
  · rw [List.mem_singleton.1 hx]
    exact List.mem_cons_self ..
  · decide
  · exact Int.le_refl (0 : Int)
end
end Go.Proofs.YtdnfflfofgeokaaDoor.WalL
