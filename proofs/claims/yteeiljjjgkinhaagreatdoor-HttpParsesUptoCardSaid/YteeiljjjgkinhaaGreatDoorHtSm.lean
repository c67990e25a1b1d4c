import Derived.Test.YteeiljjjgkinhaaGreatDoorProg
import Derived.Lib.ConvBytes
import Derived.Lib.Case
import Derived.Laws.IdiomStrings
import Derived.Shelf.Strings.IndexAnyAll
import Derived.Below
import Derived.Deep.Draws
import Derived.WalkKit
namespace Go.Proofs.YteeiljjjgkinhaaGreatDoor.HtSm
open Go.RowKit Go.Lib

theorem lower_get (l : List UInt8) (j : Nat) : (Lib.toLowerA l)[j]? = (l[j]?).map Lib.lowerB := by simp [Lib.toLowerA]
theorem lower_in (b : UInt8) (h : 65 ≤ b.toNat ∧ b.toNat ≤ 90) : (Lib.lowerB b).toNat = b.toNat + 32 := by
  have hall : ∀ x : Fin 256, (65 ≤ x.val ∧ x.val ≤ 90) → (Lib.lowerB (UInt8.ofNat x.val)).toNat = x.val + 32 := by decide +kernel
  have := hall ⟨b.toNat, b.toNat_lt⟩ h
  simpa using this
theorem lower_out (b : UInt8) (h : ¬ (65 ≤ b.toNat ∧ b.toNat ≤ 90)) : Lib.lowerB b = b := by
  have hall : ∀ x : Fin 256, ¬ (65 ≤ x.val ∧ x.val ≤ 90) → Lib.lowerB (UInt8.ofNat x.val) = UInt8.ofNat x.val := by decide +kernel
  have := hall ⟨b.toNat, b.toNat_lt⟩ h
  simpa using this
/-- the row as it stands behind i rounds -/
def Row (s : ByteArray) (i : Nat) (C : Array Value) : Prop := ∀ (j : Nat) (b : UInt8), s.data.toList[j]? = some b → C[j]? = some (.int .u8 ((if j < i then Lib.lowerB b else b).toNat : Int))
theorem Row.keep {s : ByteArray} {i : Nat} {C : Array Value} (h : Row s i C) {b : UInt8} (hb : s.data.toList[i]? = some b) (hl : Lib.lowerB b = b) : Row s (i + 1) C := by
  intro j c hc
  rw [h j c hc]
  by_cases e : j = i
  · subst e
    rw [hb] at hc
    obtain rfl := Option.some.inj hc
    rw [if_neg (by omega), if_pos (by omega), hl]
  · by_cases h1 : j < i
    · rw [if_pos h1, if_pos (by omega)]
    · rw [if_neg h1, if_neg (by omega)]
theorem Row.put {s : ByteArray} {i : Nat} {C : Array Value} (h : Row s i C) {b : UInt8} (hb : s.data.toList[i]? = some b) {v : Value} (hv : v = .int .u8 ((Lib.lowerB b).toNat : Int)) : Row s (i + 1) (C.setIfInBounds i v) := by
  intro j c hc
  by_cases e : j = i
  · subst e
    rw [hb] at hc
    obtain rfl := Option.some.inj hc
    have hlt : j < C.size := by
      have := h j b hb
      rcases Nat.lt_or_ge j C.size with h' | h'
      · exact h'
      · rw [Array.getElem?_eq_none h'] at this; cases this
    rw [if_pos (by omega), hv]
    simp [hlt]
  · rw [Array.getElem?_setIfInBounds_ne (by omega), h j c hc]
    by_cases h1 : j < i
    · rw [if_pos h1, if_pos (by omega)]
    · rw [if_neg h1, if_neg (by omega)]
theorem blk_set {w : World} {B i k : Nat} {C : Array Value} {t : TypeId} (h : w.heap[B]? = some (.cells C t (k, k + 1))) (v : Value) : (w.setCell ⟨B, i, none⟩ v).heap[B]? = some (.cells (C.setIfInBounds i v) t (k, k + 1)) := by
  simp only [World.setCell, Array.getElem?_modify]
  rw [if_pos trivial, h]
  rfl
theorem blk_fz {w : World} {B i k : Nat} {C : Array Value} {t : TypeId} (h : w.heap[B]? = some (.cells C t (k, k + 1))) (hi : i < k) : w.frozen? ⟨B, i, none⟩ = false := by
  simp only [World.frozen?, h]
  simp
  omega

set_option maxHeartbeats 8000000 in
set_option maxRecDepth 1000000 in
theorem small_calls (s : ByteArray) (hs : s.size ≤ 1073741824) (w : World) :
    Calls Tryz.prog 38 #[.string s] w fun e w' => e = .returned (.string ⟨(Lib.toLowerA s.data.toList).toArray⟩) ∧ Below w.heap.size w w' := by
  have hconv := Lib.run_convert_string_bytes (P := Tryz.prog) w 9 64 5 s Tryz.underlying9 Tryz.underlying64 Tryz.underlying5
  obtain ⟨cap, hcap⟩ : ∃ cap, grownCap w s.size 0 5 = cap := ⟨_, rfl⟩
  obtain ⟨k, hk⟩ : ∃ k, (Lib.bytesCells w 5 s).size = k := ⟨_, rfl⟩
  have hnew := Lib.bytesWorld_at_new w 5 s
  rw [hk] at hnew
  have hks : s.size ≤ k := by
    rw [← hk]
    unfold Lib.bytesCells
    simp
  have hrow : Row s 0 (Lib.bytesCells w 5 s) := by
    intro j b hb
    have hj : j < s.size := by
      have := (List.getElem?_eq_some_iff.1 hb).1
      rwa [Array.length_toList] at this
    have h := Lib.bytesWorld_cell w 5 s j hj
    rw [Lib.cell_of_heap hnew] at h
    rw [h, List.getD_eq_getElem?_getD, hb]
    rfl
  have hbel : Below w.heap.size w (Lib.bytesWorld w 5 s) := ⟨rfl, rfl, rfl, by rw [Lib.bytesWorld_size]; omega, fun j hj => Lib.bytesWorld_at_old w 5 s j hj⟩
  rw [hcap] at hconv
  obtain ⟨C0, hC0⟩ : ∃ C0, Lib.bytesCells w 5 s = C0 := ⟨_, rfl⟩
  rw [hC0] at hnew hrow
  obtain ⟨W, hW⟩ : ∃ W, Lib.bytesWorld w 5 s = W := ⟨_, rfl⟩
  rw [hW] at hconv hnew hbel
  have HN : Aside (W.heap[w.heap.size]? = some (.cells C0 5 (k, k + 1))) := hnew
  have HR : Aside (Row s 0 C0) := hrow
  have HB : Aside (Below w.heap.size w W) := hbel
  clear hnew hrow hbel hk hC0 hW hcap
  go_enter Tryz.func38, Tryz.ntmps38
  go_wp2
  go_loopg [4] s.size (fun g v4 wx => ∃ (i : Nat) (C : Array Value), i + g = s.size ∧ v4 = .int .i64 i ∧ Aside (wx.heap[w.heap.size]? = some (.cells C 5 (k, k + 1))) ∧ Aside (Row s i C) ∧ Aside (Below w.heap.size w wx))
  case atStart => exact ⟨0, C0, by omega, rfl, HN, HR, HB⟩
  case round =>
    obtain ⟨i, C, hig, rfl, HN, HR, HB⟩ := hrel
    cases gk with
    | zero =>
      obtain rfl : i = s.size := by omega
      have hiz : decide ((s.size : Int) < (s.size : Int)) = false := decide_eq_false (by omega)
      have hback : (convert 64 9 (.slice (some ⟨w.heap.size, 0, none⟩) s.size cap)).run Tryz.prog wr = .ok (.string ⟨(Lib.toLowerA s.data.toList).toArray⟩) wr := by
        have hl : (Lib.toLowerA s.data.toList).length = s.size := by simp [Lib.toLowerA]
        have h := run_convert_bytes_back (P := Tryz.prog) wr 64 9 5 ⟨w.heap.size, 0, none⟩ cap (Lib.toLowerA s.data.toList) Tryz.underlying64 Tryz.underlying5 Tryz.underlying9 (fun j hj => by
          have hjs : j < s.data.toList.length := by rw [Array.length_toList]; show j < s.size; omega
          have e1 : s.data.toList[j]? = some s.data.toList[j] := List.getElem?_eq_getElem hjs
          have e2 := HR.out j _ e1
          rw [if_pos (by rw [Array.length_toList] at hjs; exact hjs)] at e2
          have e3 : (Lib.toLowerA s.data.toList)[j]? = some (Lib.lowerB s.data.toList[j]) := by rw [lower_get, e1]; rfl
          rw [List.getElem?_eq_getElem hj] at e3
          rw [Option.some.inj e3]
          have ea : (⟨w.heap.size, 0, none⟩ : Addr).add j = ⟨w.heap.size, j, none⟩ := by simp [Addr.add]; omega
          rw [ea, Lib.cell_of_heap HN.out, e2])
        rw [hl] at h
        exact h
      go_wp2
      go_ret
      exact ⟨rfl, HB.out⟩
    | succ g =>
      have hi : i < s.size := by omega
      have hiz : (i : Int) < (s.size : Int) := by omega
      obtain ⟨b, hb⟩ : ∃ b, s.data.toList[i]? = some b := ⟨_, List.getElem?_eq_getElem (by rw [Array.length_toList]; exact hi)⟩
      have hci : wr.cell? ⟨w.heap.size, i, none⟩ = some (.int .u8 (b.toNat : Int)) := by
        rw [Lib.cell_of_heap HN.out, HR.out i b hb, if_neg (by omega)]
      have hfi : wr.frozen? ⟨w.heap.size, i, none⟩ = false := blk_fz HN.out (by omega)
      have Hb : Aside (s.data.toList[i]? = some b) := hb
      clear hb
      by_cases h1 : 65 ≤ b.toNat ∧ b.toNat ≤ 90
      · have d1 : decide ((65 : Int) ≤ (b.toNat : Int)) = true := decide_eq_true (by omega)
        have d2 : decide ((b.toNat : Int) ≤ 90) = true := decide_eq_true (by omega)
        have hb90 : b.toNat ≤ 90 := h1.2
        go_wp2
        go_roundg g
        case measure => omega
        case rel => exact ⟨i + 1, _, by omega, by simp, blk_set HN.out _, HR.out.put Hb.out (by rw [lower_in b h1]; simp), HB.out.setCell (Nat.le_refl _) _⟩
      · have hl := lower_out b h1
        by_cases h2 : 65 ≤ b.toNat
        · have d1 : decide ((65 : Int) ≤ (b.toNat : Int)) = true := decide_eq_true (by omega)
          have d2 : decide ((b.toNat : Int) ≤ 90) = false := decide_eq_false (by omega)
          clear hl
          go_wp2
          go_roundg g
          case measure => omega
          case rel => exact ⟨i + 1, C, by omega, by simp, HN, HR.out.keep Hb.out (lower_out b h1), HB⟩
        · have d1 : decide ((65 : Int) ≤ (b.toNat : Int)) = false := decide_eq_false (by omega)
          clear hl
          go_wp2
          go_roundg g
          case measure => omega
          case rel => exact ⟨i + 1, C, by omega, by simp, HN, HR.out.keep Hb.out (lower_out b h1), HB⟩
end Go.Proofs.YteeiljjjgkinhaaGreatDoor.HtSm
