/- What the document's May answers: names, shapes, runes, values, points. -/
import Derived.Test.YtbeljekpknpadaaDoorPPayUx15
import Derived.Test.YtbeljekpknpadaaDoorPPayUx16
import Derived.Test.YtbeljekpknpadaaDoorPuN
import Derived.Lib.TrimUEq
namespace Go.Proofs.YtbeljekpknpadaaDoor.PPayUL
open Go.RowKit Go.Proofs.YtbeljekpknpadaaDoor.PPayU Go.Proofs.YtbeljekpknpadaaDoorW.PrintWords Go.Proofs.YtbeljekpknpadaaDoorW.PrintLast Go.Proofs.YtbeljekpknpadaaDoorW.PrintMore
set_option linter.unusedVariables false
set_option linter.unusedSimpArgs false

/-! ### one rune -/
theorem bt_n (s : ByteArray) (j : Nat) (h : j < s.size) : bt s (j : Int) = (((s.data.toList.getD j 0).toNat : Nat) : Int) := by
  have hl : j < s.data.toList.length := by simpa using h
  rw [bt_getD s j h, List.getD_eq_getElem?_getD, List.getElem?_eq_getElem hl]
  rfl
theorem rune_step (s : ByteArray) (n least v i c k : Nat) (hk : 1 ≤ k) (hi : i < n) (hs : i < s.size) (hb : s.size ≤ 1099511627776) (hv : v ≤ 1099511627776) (hc : (s.data.toList.getD i 0).toNat = c) :
    lodestarref03_Rune.l0 k s (n : Int) (least : Int) (v : Int) (i : Int) = if c < 128 ∨ 192 ≤ c then some (0, 0) else lodestarref03_Rune.l0 (k - 1) s (n : Int) (least : Int) ((v * 64 + c - 128 : Nat) : Int) ((i + 1 : Nat) : Int) := by
  obtain ⟨k, rfl⟩ : ∃ m, k = m + 1 := ⟨k - 1, by omega⟩
  have h256 : c < 256 := by rw [← hc]; exact UInt8.toNat_lt _
  have e : bt s (i : Int) = (c : Int) := by rw [bt_n s i hs, hc]
  rw [lodestarref03_Rune.l0, if_pos (by omega), if_pos (by omega), if_pos (by omega), e, w64 (x := (c : Int)) (by omega) (by omega)]
  by_cases h1 : c < 128
  · rw [if_pos (by omega), if_pos (Or.inl h1)]
  · by_cases h2 : 192 ≤ c
    · rw [if_neg (by omega), if_pos (by omega), if_pos (Or.inr h2)]
    · rw [if_neg (by omega), if_neg (by omega), if_neg (by omega), w64 (x := (v : Int) * 64) (by omega) (by omega), w64 (x := (v : Int) * 64 + (c : Int)) (by omega) (by omega), w64 (x := (v : Int) * 64 + (c : Int) - 128) (by omega) (by omega), w64 (x := (i : Int) + 1) (by omega) (by omega)]
      have e1 : (v : Int) * 64 + (c : Int) - 128 = ((v * 64 + c - 128 : Nat) : Int) := by omega
      have e2 : (i : Int) + 1 = ((i + 1 : Nat) : Int) := by omega
      rw [e1, e2]
      rfl
theorem rune_end (s : ByteArray) (n least v k : Nat) (hk : 1 ≤ k) :
    lodestarref03_Rune.l0 k s (n : Int) (least : Int) (v : Int) (n : Int) = if v < least ∨ 1114111 < v ∨ (55296 ≤ v ∧ v < 57344) then some (0, 0) else some ((n : Int), (v : Int)) := by
  obtain ⟨k, rfl⟩ : ∃ m, k = m + 1 := ⟨k - 1, by omega⟩
  rw [lodestarref03_Rune.l0, if_neg (by omega)]
  by_cases h1 : v < least
  · rw [if_pos (by omega), if_pos (Or.inl h1)]
  · by_cases h2 : 1114111 < v
    · rw [if_neg (by omega), if_pos (by omega), if_pos (Or.inr (Or.inl h2))]
    · rw [if_neg (by omega), if_neg (by omega)]
      by_cases h3 : 55296 ≤ v
      · by_cases h4 : v < 57344
        · rw [if_pos (by omega), if_pos (by omega), if_pos (Or.inr (Or.inr ⟨h3, h4⟩))]
        · rw [if_pos (by omega), if_neg (by omega), if_neg (by omega)]
      · rw [if_neg (by omega), if_neg (by omega)]
theorem rune_j2 (s : ByteArray) (n least v k : Nat) (hk : 1 ≤ k) :
    lodestarref03_Rune.j2 k s (n : Int) (least : Int) (v : Int) = if s.size < n then some (0, 0) else lodestarref03_Rune.l0 (k - 1) s (n : Int) (least : Int) (v : Int) ((1 : Nat) : Int) := by
  obtain ⟨k, rfl⟩ : ∃ m, k = m + 1 := ⟨k - 1, by omega⟩
  rw [lodestarref03_Rune.j2]
  by_cases h : s.size < n
  · rw [if_pos (by omega), if_pos h]
  · rw [if_neg (by omega), if_neg h]
    rfl
/-- the first rune: what the document's Rune tells, by the bytes -/
def runeW (n b0 b1 b2 b3 : Nat) : Nat :=
  if b0 < 128 then 1
  else if b0 < 192 then 0
  else if b0 < 224 then (if n < 2 then 0 else if b1 < 128 ∨ 192 ≤ b1 then 0 else if (b0 - 192) * 64 + b1 - 128 < 128 then 0 else 2)
  else if b0 < 240 then (if n < 3 then 0 else if b1 < 128 ∨ 192 ≤ b1 then 0 else if b2 < 128 ∨ 192 ≤ b2 then 0 else
    let v := ((b0 - 224) * 64 + b1 - 128) * 64 + b2 - 128
    if v < 2048 ∨ 1114111 < v ∨ (55296 ≤ v ∧ v < 57344) then 0 else 3)
  else if b0 < 248 then (if n < 4 then 0 else if b1 < 128 ∨ 192 ≤ b1 then 0 else if b2 < 128 ∨ 192 ≤ b2 then 0 else if b3 < 128 ∨ 192 ≤ b3 then 0 else
    let v := (((b0 - 240) * 64 + b1 - 128) * 64 + b2 - 128) * 64 + b3 - 128
    if v < 65536 ∨ 1114111 < v ∨ (55296 ≤ v ∧ v < 57344) then 0 else 4)
  else 0
theorem runeW_eq (n b0 b1 b2 b3 : Nat) (h0 : b0 < 256) (h1 : b1 < 256) (h2 : b2 < 256) (h3 : b3 < 256) :
    runeW n b0 b1 b2 b3 = if (Lib.decodeN n b0 b1 b2 b3).1 = 65533 ∧ (Lib.decodeN n b0 b1 b2 b3).2 = 1 then 0 else (Lib.decodeN n b0 b1 b2 b3).2 := by
  by_cases c0 : b0 < 128
  · have e : Lib.decodeN n b0 b1 b2 b3 = (b0, 1) := by unfold Lib.decodeN; rw [if_pos c0]
    rw [e, if_neg (by simp only; omega), runeW, if_pos c0]
  · have bad : Lib.decodeN n b0 b1 b2 b3 = (65533, 1) → (if (Lib.decodeN n b0 b1 b2 b3).1 = 65533 ∧ (Lib.decodeN n b0 b1 b2 b3).2 = 1 then 0 else (Lib.decodeN n b0 b1 b2 b3).2) = 0 := fun e => by rw [e]; rfl
    unfold runeW
    rw [if_neg c0]
    by_cases c1 : b0 < 192
    · rw [if_pos c1, bad (by unfold Lib.decodeN; rw [if_neg c0, if_neg (by omega), if_neg (by omega), if_neg (by omega)])]
    rw [if_neg c1]
    by_cases c2 : b0 < 224
    · rw [if_pos c2]
      by_cases d1 : n < 2
      · rw [if_pos d1, bad (by unfold Lib.decodeN; rw [if_neg c0, if_neg (by omega), if_neg (by omega), if_neg (by omega)])]
      by_cases d2 : b1 < 128 ∨ 192 ≤ b1
      · rw [if_neg d1, if_pos d2, bad (by unfold Lib.decodeN; rw [if_neg c0, if_neg (by omega), if_neg (by omega), if_neg (by omega)])]
      rw [if_neg d1, if_neg d2]
      by_cases d3 : (b0 - 192) * 64 + b1 - 128 < 128
      · rw [if_pos d3, bad (by unfold Lib.decodeN; rw [if_neg c0, if_pos (by omega), if_neg (by omega)])]
      · have e : Lib.decodeN n b0 b1 b2 b3 = (b0 % 32 * 64 + b1 % 64, 2) := by unfold Lib.decodeN; rw [if_neg c0, if_pos (by omega), if_pos (by omega)]
        rw [if_neg d3, e, if_neg (by simp)]
    rw [if_neg c2]
    by_cases c3 : b0 < 240
    · rw [if_pos c3]
      by_cases d1 : n < 3
      · rw [if_pos d1, bad (by unfold Lib.decodeN; rw [if_neg c0, if_neg (by omega), if_neg (by omega), if_neg (by omega)])]
      by_cases d2 : b1 < 128 ∨ 192 ≤ b1
      · rw [if_neg d1, if_pos d2, bad (by unfold Lib.decodeN; rw [if_neg c0, if_neg (by omega), if_neg (by omega), if_neg (by omega)])]
      by_cases d3 : b2 < 128 ∨ 192 ≤ b2
      · rw [if_neg d1, if_neg d2, if_pos d3, bad (by unfold Lib.decodeN; rw [if_neg c0, if_neg (by omega), if_neg (by omega), if_neg (by omega)])]
      rw [if_neg d1, if_neg d2, if_neg d3]
      have ev : ((b0 - 224) * 64 + b1 - 128) * 64 + b2 - 128 = b0 % 16 * 4096 + b1 % 64 * 64 + b2 % 64 := by omega
      simp only [ev]
      by_cases d4 : b0 % 16 * 4096 + b1 % 64 * 64 + b2 % 64 < 2048 ∨ 1114111 < b0 % 16 * 4096 + b1 % 64 * 64 + b2 % 64 ∨ (55296 ≤ b0 % 16 * 4096 + b1 % 64 * 64 + b2 % 64 ∧ b0 % 16 * 4096 + b1 % 64 * 64 + b2 % 64 < 57344)
      · rw [if_pos d4, bad (by unfold Lib.decodeN; rw [if_neg c0, if_neg (by omega), if_pos (by omega), if_neg (by omega)])]
      · have e : Lib.decodeN n b0 b1 b2 b3 = (b0 % 16 * 4096 + b1 % 64 * 64 + b2 % 64, 3) := by unfold Lib.decodeN; rw [if_neg c0, if_neg (by omega), if_pos (by omega), if_pos (by omega)]
        rw [if_neg d4, e, if_neg (by simp)]
    rw [if_neg c3]
    by_cases c4 : b0 < 248
    · rw [if_pos c4]
      by_cases d1 : n < 4
      · rw [if_pos d1, bad (by unfold Lib.decodeN; rw [if_neg c0, if_neg (by omega), if_neg (by omega), if_neg (by omega)])]
      by_cases d2 : b1 < 128 ∨ 192 ≤ b1
      · rw [if_neg d1, if_pos d2, bad (by unfold Lib.decodeN; rw [if_neg c0, if_neg (by omega), if_neg (by omega), if_neg (by omega)])]
      by_cases d3 : b2 < 128 ∨ 192 ≤ b2
      · rw [if_neg d1, if_neg d2, if_pos d3, bad (by unfold Lib.decodeN; rw [if_neg c0, if_neg (by omega), if_neg (by omega), if_neg (by omega)])]
      by_cases d3' : b3 < 128 ∨ 192 ≤ b3
      · rw [if_neg d1, if_neg d2, if_neg d3, if_pos d3', bad (by unfold Lib.decodeN; rw [if_neg c0, if_neg (by omega), if_neg (by omega), if_neg (by omega)])]
      rw [if_neg d1, if_neg d2, if_neg d3, if_neg d3']
      have ev : (((b0 - 240) * 64 + b1 - 128) * 64 + b2 - 128) * 64 + b3 - 128 = b0 % 8 * 262144 + b1 % 64 * 4096 + b2 % 64 * 64 + b3 % 64 := by omega
      simp only [ev]
      by_cases d4 : b0 % 8 * 262144 + b1 % 64 * 4096 + b2 % 64 * 64 + b3 % 64 < 65536 ∨ 1114111 < b0 % 8 * 262144 + b1 % 64 * 4096 + b2 % 64 * 64 + b3 % 64 ∨ (55296 ≤ b0 % 8 * 262144 + b1 % 64 * 4096 + b2 % 64 * 64 + b3 % 64 ∧ b0 % 8 * 262144 + b1 % 64 * 4096 + b2 % 64 * 64 + b3 % 64 < 57344)
      · rw [if_pos d4, bad (by unfold Lib.decodeN; rw [if_neg c0, if_neg (by omega), if_neg (by omega), if_pos (by omega), if_neg (by omega)])]
      · have e : Lib.decodeN n b0 b1 b2 b3 = (b0 % 8 * 262144 + b1 % 64 * 4096 + b2 % 64 * 64 + b3 % 64, 4) := by unfold Lib.decodeN; rw [if_neg c0, if_neg (by omega), if_neg (by omega), if_pos (by omega), if_pos (by omega)]
        rw [if_neg d4, e, if_neg (by simp)]
    · rw [if_neg c4, bad (by unfold Lib.decodeN; rw [if_neg c0, if_neg (by omega), if_neg (by omega), if_neg (by omega)])]
theorem rune_w (s : ByteArray) (b0 b1 b2 b3 k : Nat) (hk : 10 ≤ k) (h1 : 1 ≤ s.size) (hb : s.size ≤ 1099511627776) (e0 : (s.data.toList.getD 0 0).toNat = b0) (e1 : (s.data.toList.getD 1 0).toNat = b1) (e2 : (s.data.toList.getD 2 0).toNat = b2) (e3 : (s.data.toList.getD 3 0).toNat = b3) :
    ∃ v : Int, lodestarref03_Rune.f k s = some (((runeW s.size b0 b1 b2 b3 : Nat) : Int), v) := by
  have h256 : b0 < 256 := by rw [← e0]; exact UInt8.toNat_lt _
  have h256' : b1 < 256 := by rw [← e1]; exact UInt8.toNat_lt _
  have h256'' : b2 < 256 := by rw [← e2]; exact UInt8.toNat_lt _
  have hb0 : bt s 0 = (b0 : Int) := by
    have := bt_n s 0 (by omega)
    rw [e0] at this
    exact this
  have hne : ¬ s.toList = ([] : List UInt8) := fun h => by
    rw [Lib.toList_data] at h
    have h2 : s.size = 0 := by rw [← data_length, h]; rfl
    omega
  have j0 : ∀ x : Bool, lodestarref03_Rune.j0 k s (b0 : Int) x = if x = true then lodestarref03_Rune.j2 (k - 1) s 2 128 (wrap64 ((b0 : Int) - 192)) else if (b0 : Int) ≥ 224 then lodestarref03_Rune.j1 (k - 1) s (b0 : Int) (decide ((b0 : Int) < 240)) else lodestarref03_Rune.j1 (k - 1) s (b0 : Int) false := fun x => by
    obtain ⟨k, rfl⟩ : ∃ m, k = m + 1 := ⟨k - 1, by omega⟩
    rfl
  have j1 : ∀ x : Bool, lodestarref03_Rune.j1 (k - 1) s (b0 : Int) x = if x = true then lodestarref03_Rune.j2 (k - 2) s 3 2048 (wrap64 ((b0 : Int) - 224)) else if (b0 : Int) ≥ 240 then (if (b0 : Int) < 248 then lodestarref03_Rune.j2 (k - 2) s 4 65536 (wrap64 ((b0 : Int) - 240)) else some (0, 0)) else some (0, 0) := fun x => by
    obtain ⟨k, rfl⟩ : ∃ m, k = m + 2 := ⟨k - 2, by omega⟩
    rfl
  unfold lodestarref03_Rune.f runeW
  rw [if_neg hne, if_pos (by omega), hb0, w64 (x := (b0 : Int)) (by omega) (by omega)]
  by_cases c0 : b0 < 128
  · rw [if_pos (by omega), if_pos c0]
    exact ⟨_, rfl⟩
  rw [if_neg (by omega), if_neg c0]
  by_cases c1 : b0 < 192
  · rw [if_neg (by omega), if_pos c1, j0, if_neg (by simp), if_neg (by omega), j1, if_neg (by simp), if_neg (by omega)]
    exact ⟨0, rfl⟩
  rw [if_pos (by omega), if_neg c1]
  by_cases c2 : b0 < 224
  · have ed : decide ((b0 : Int) < 224) = true := by simp; omega
    have ev : wrap64 ((b0 : Int) - 192) = ((b0 - 192 : Nat) : Int) := by rw [w64 (by omega) (by omega)]; omega
    have e2' : (2 : Int) = ((2 : Nat) : Int) := rfl
    have e128 : (128 : Int) = ((128 : Nat) : Int) := rfl
    rw [if_pos c2, ed, j0, if_pos rfl, ev, e2', e128, rune_j2 s 2 128 _ _ (by omega)]
    by_cases d1 : s.size < 2
    · rw [if_pos d1, if_pos d1]
      exact ⟨0, rfl⟩
    rw [if_neg d1, if_neg d1, rune_step s 2 128 _ 1 b1 _ (by omega) (by omega) (by omega) hb (by omega) e1]
    by_cases d2 : b1 < 128 ∨ 192 ≤ b1
    · rw [if_pos d2, if_pos d2]
      exact ⟨0, rfl⟩
    rw [if_neg d2, if_neg d2, rune_end s 2 128 _ _ (by omega)]
    by_cases d3 : (b0 - 192) * 64 + b1 - 128 < 128
    · rw [if_pos (Or.inl d3), if_pos d3]
      exact ⟨0, rfl⟩
    · rw [if_neg (by omega), if_neg d3]
      exact ⟨_, rfl⟩
  have ed : decide ((b0 : Int) < 224) = false := by simp; omega
  rw [if_neg c2, ed, j0, if_neg (by simp), if_pos (by omega), j1]
  by_cases c3 : b0 < 240
  · have ed3 : decide ((b0 : Int) < 240) = true := by simp; omega
    have ev : wrap64 ((b0 : Int) - 224) = ((b0 - 224 : Nat) : Int) := by rw [w64 (by omega) (by omega)]; omega
    have e3' : (3 : Int) = ((3 : Nat) : Int) := rfl
    have e2048 : (2048 : Int) = ((2048 : Nat) : Int) := rfl
    rw [if_pos c3, ed3, if_pos rfl, ev, e3', e2048, rune_j2 s 3 2048 _ _ (by omega)]
    by_cases d1 : s.size < 3
    · rw [if_pos d1, if_pos d1]
      exact ⟨0, rfl⟩
    rw [if_neg d1, if_neg d1, rune_step s 3 2048 _ 1 b1 _ (by omega) (by omega) (by omega) hb (by omega) e1]
    by_cases d2 : b1 < 128 ∨ 192 ≤ b1
    · rw [if_pos d2, if_pos d2]
      exact ⟨0, rfl⟩
    rw [if_neg d2, if_neg d2, rune_step s 3 2048 _ 2 b2 _ (by omega) (by omega) (by omega) hb (by omega) e2]
    by_cases d3 : b2 < 128 ∨ 192 ≤ b2
    · rw [if_pos d3, if_pos d3]
      exact ⟨0, rfl⟩
    rw [if_neg d3, if_neg d3, rune_end s 3 2048 _ _ (by omega)]
    simp only
    by_cases d4 : ((b0 - 224) * 64 + b1 - 128) * 64 + b2 - 128 < 2048 ∨ 1114111 < ((b0 - 224) * 64 + b1 - 128) * 64 + b2 - 128 ∨ (55296 ≤ ((b0 - 224) * 64 + b1 - 128) * 64 + b2 - 128 ∧ ((b0 - 224) * 64 + b1 - 128) * 64 + b2 - 128 < 57344)
    · rw [if_pos d4, if_pos d4]
      exact ⟨0, rfl⟩
    · rw [if_neg d4, if_neg d4]
      exact ⟨_, rfl⟩
  have ed3 : decide ((b0 : Int) < 240) = false := by simp; omega
  rw [if_neg c3, ed3, if_neg (by simp), if_pos (by omega)]
  by_cases c4 : b0 < 248
  · have ev : wrap64 ((b0 : Int) - 240) = ((b0 - 240 : Nat) : Int) := by rw [w64 (by omega) (by omega)]; omega
    have e4' : (4 : Int) = ((4 : Nat) : Int) := rfl
    have e6 : (65536 : Int) = ((65536 : Nat) : Int) := rfl
    rw [if_pos c4, if_pos (by omega), ev, e4', e6, rune_j2 s 4 65536 _ _ (by omega)]
    by_cases d1 : s.size < 4
    · rw [if_pos d1, if_pos d1]
      exact ⟨0, rfl⟩
    rw [if_neg d1, if_neg d1, rune_step s 4 65536 _ 1 b1 _ (by omega) (by omega) (by omega) hb (by omega) e1]
    by_cases d2 : b1 < 128 ∨ 192 ≤ b1
    · rw [if_pos d2, if_pos d2]
      exact ⟨0, rfl⟩
    rw [if_neg d2, if_neg d2, rune_step s 4 65536 _ 2 b2 _ (by omega) (by omega) (by omega) hb (by omega) e2]
    by_cases d3 : b2 < 128 ∨ 192 ≤ b2
    · rw [if_pos d3, if_pos d3]
      exact ⟨0, rfl⟩
    rw [if_neg d3, if_neg d3, rune_step s 4 65536 _ 3 b3 _ (by omega) (by omega) (by omega) hb (by omega) e3]
    by_cases d5 : b3 < 128 ∨ 192 ≤ b3
    · rw [if_pos d5, if_pos d5]
      exact ⟨0, rfl⟩
    rw [if_neg d5, if_neg d5, rune_end s 4 65536 _ _ (by omega)]
    simp only
    by_cases d4 : (((b0 - 240) * 64 + b1 - 128) * 64 + b2 - 128) * 64 + b3 - 128 < 65536 ∨ 1114111 < (((b0 - 240) * 64 + b1 - 128) * 64 + b2 - 128) * 64 + b3 - 128 ∨ (55296 ≤ (((b0 - 240) * 64 + b1 - 128) * 64 + b2 - 128) * 64 + b3 - 128 ∧ (((b0 - 240) * 64 + b1 - 128) * 64 + b2 - 128) * 64 + b3 - 128 < 57344)
    · rw [if_pos d4, if_pos d4]
      exact ⟨0, rfl⟩
    · rw [if_neg d4, if_neg d4]
      exact ⟨_, rfl⟩
  · rw [if_neg c4, if_neg (by omega)]
    exact ⟨0, rfl⟩

/-! ### runes -/
def stepW (l : List UInt8) : Nat := if (Lib.decodeL l).1 = 65533 ∧ (Lib.decodeL l).2 = 1 then 0 else (Lib.decodeL l).2
theorem rune_eq (s : ByteArray) (k : Nat) (hk : 10 ≤ k) (h1 : 1 ≤ s.size) (hb : s.size ≤ 1099511627776) : ∃ v : Int, lodestarref03_Rune.f k s = some (((stepW s.data.toList : Nat) : Int), v) := by
  obtain ⟨v, hv⟩ := rune_w s _ _ _ _ k hk h1 hb rfl rfl rfl rfl
  refine ⟨v, ?_⟩
  rw [hv, runeW_eq _ _ _ _ _ (UInt8.toNat_lt _) (UInt8.toNat_lt _) (UInt8.toNat_lt _) (UInt8.toNat_lt _), stepW, Lib.decodeL_N, data_length]
theorem valid_step (n : Nat) (l : List UInt8) (hl : l ≠ []) : Lib.validGoD (n + 1) l = if stepW l = 0 then false else Lib.validGoD n (l.drop (stepW l)) := by
  rw [Lib.validGoD, if_neg hl, stepW]
  by_cases c : (Lib.decodeL l).1 = 65533 ∧ (Lib.decodeL l).2 = 1
  · rw [if_pos c, if_pos c, if_pos rfl]
  · have := Lib.decodeL_width l
    rw [if_neg c, if_neg c, if_neg (by omega)]
theorem step_le (l : List UInt8) (hl : l ≠ []) : stepW l ≤ l.length := by
  unfold stepW
  split
  · omega
  · exact Lib.decodeL_le l hl
theorem valid_more : ∀ (n m : Nat) (l : List UInt8), l.length ≤ n → l.length ≤ m → Lib.validGoD n l = Lib.validGoD m l
  | 0, 0, _, _, _ => rfl
  | 0, m + 1, l, h, _ => by
    obtain rfl : l = [] := List.length_eq_zero_iff.1 (by omega)
    simp [Lib.validGoD]
  | n + 1, 0, l, _, h => by
    obtain rfl : l = [] := List.length_eq_zero_iff.1 (by omega)
    simp [Lib.validGoD]
  | n + 1, m + 1, l, h1, h2 => by
    by_cases hl : l = []
    · subst hl
      simp [Lib.validGoD]
    · rw [valid_step n l hl, valid_step m l hl]
      split
      · rfl
      · rename_i c
        exact valid_more n m _ (by rw [List.length_drop]; omega) (by rw [List.length_drop]; omega)
theorem runes_loop : ∀ (n : Nat) (s : ByteArray) (k : Nat), s.size ≤ n → s.size ≤ 1099511627776 → n + 11 ≤ k → lodestarref03_Runes.l0 k s = some (Lib.validGoD n s.data.toList)
  | n, s, 0, _, _, hk => absurd hk (by omega)
  | n, s, k + 1, hn, hb, hk => by
    have e := Lib.toList_data s
    rw [lodestarref03_Runes.l0]
    by_cases h0 : s.size = 0
    · have hl : s.data.toList = [] := List.length_eq_zero_iff.1 (by rw [data_length]; exact h0)
      rw [if_pos (by rw [e]; exact hl), hl]
      cases n <;> simp [Lib.validGoD]
    · have hl : s.data.toList ≠ [] := fun h => h0 (by rw [← data_length, h]; rfl)
      obtain ⟨m, rfl⟩ : ∃ m, n = m + 1 := ⟨n - 1, by omega⟩
      obtain ⟨v, hv⟩ := rune_eq s k (by omega) (by omega) hb
      have hle := step_le s.data.toList hl
      rw [data_length] at hle
      rw [if_neg (by rw [e]; exact hl), hv, Option.bind_some, valid_step m _ hl]
      simp only
      by_cases c : stepW s.data.toList = 0
      · rw [if_pos (by omega), if_pos c]
      · have ex : (s.extract (((stepW s.data.toList : Nat) : Int)).toNat s.size).data.toList = s.data.toList.drop (stepW s.data.toList) := by
          rw [Int.toNat_natCast]
          simp [List.take_of_length_le]
        have hs2 : (s.extract (((stepW s.data.toList : Nat) : Int)).toNat s.size).size = s.size - stepW s.data.toList := by
          rw [← data_length, ex, List.length_drop, data_length]
        rw [if_neg (by omega), if_neg c, if_pos (by omega), if_pos (by omega), runes_loop m _ k (by omega) (by omega) (by omega), ex]
theorem runes_eq (s : ByteArray) (k : Nat) (hb : s.size ≤ 1099511627776) (hk : s.size + 11 ≤ k) : lodestarref03_Runes.f k s = some (Lib.validD s.data.toList) := by
  unfold lodestarref03_Runes.f
  rw [runes_loop s.size s k (Nat.le_refl _) hb hk, Lib.validD, data_length]

/-! ### values, components -/
theorem refValue_eq (v : S33) (k : Nat) (h : v.f2.size ≤ 1099511627776) (hk : 300 ≤ k) : lodestarref05_Value.f k v.f0 v.f1 v.f2 = some (valB v) := by
  unfold lodestarref05_Value.f valB
  by_cases c1 : v.f0 = 1
  · rw [if_pos c1, if_pos c1]
    by_cases c2 : v.f2.toList = []
    · rw [if_pos c2]
      by_cases c3 : v.f1 ≥ -4503599627370496
      · rw [if_pos c3]
        simp [c2]
        omega
      · rw [if_neg c3]
        simp
        omega
    · rw [if_neg c2]
      simp [c2]
  · rw [if_neg c1, if_neg c1]
    by_cases c2 : v.f0 = 2
    · rw [if_pos c2, if_pos c2]
      by_cases c3 : v.f1 = 0
      · rw [if_pos c3]
        by_cases c4 : v.f2.size ≤ 256
        · rw [if_pos (by omega), runes_eq v.f2 k (by omega) (by omega), Option.bind_some]
          simp [c3, c4]
        · rw [if_neg (by omega)]
          simp [c4]
      · rw [if_neg c3]
        simp [c3]
    · rw [if_neg c2, if_neg c2]
      by_cases c3 : v.f0 = 3
      · rw [if_pos c3, if_pos c3]
        by_cases c4 : v.f2.toList = []
        · rw [if_pos c4]
          by_cases c5 : v.f1 = 0
          · rw [if_pos c5]
            simp [c4, c5]
          · rw [if_neg c5]
            simp only [c4, c5, decide_true, decide_false, Bool.true_and, Bool.false_or]
            rfl
        · rw [if_neg c4]
          simp [c4]
      · rw [if_neg c3, if_neg c3]
theorem refRange_loop (l : List Int) (h : l.length ≤ 1099511627776) : ∀ (n i k : Nat), l.length - i = n → i ≤ l.length → n + 1 ≤ k → lodestarref05_Range.l0 k l (i : Int) = some ((l.drop i).all inB)
  | n, i, 0, hn, hi, hk => absurd hk (by omega)
  | 0, i, k + 1, hn, hi, hk => by
    obtain rfl : i = l.length := by omega
    rw [lodestarref05_Range.l0, if_neg (by omega), List.drop_eq_nil_of_le (Nat.le_refl _)]
    rfl
  | n + 1, i, k + 1, hn, hi, hk => by
    have h1 : i < l.length := by omega
    rw [lodestarref05_Range.l0, if_pos (by omega), if_pos (by omega), rdI l i h1, List.drop_eq_getElem_cons h1, List.all_cons, succ_nat i l.length h1 (by omega), refRange_loop l h n (i + 1) k (by omega) (by omega) (by omega)]
    unfold inB
    by_cases c1 : l[i] < -32768
    · rw [if_pos c1, decide_eq_false (by omega)]
      simp
    · rw [if_neg c1, decide_eq_true (show -32768 ≤ l[i] by omega)]
      by_cases c2 : l[i] > 32767
      · rw [if_pos c2, decide_eq_false (by omega)]
        simp
      · rw [if_neg c2, decide_eq_true (show l[i] ≤ 32767 by omega)]
        simp [inB]
theorem refRange_eq (l : List Int) (h : l.length ≤ 1099511627776) (k : Nat) (hk : l.length + 1 ≤ k) : lodestarref05_Range.f k l = some (l.all inB) := by
  have := refRange_loop l h l.length 0 k (by omega) (by omega) (by omega)
  unfold lodestarref05_Range.f
  simpa using this
end Go.Proofs.YtbeljekpknpadaaDoor.PPayUL
