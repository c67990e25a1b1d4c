import Derived.Test.YteeiljjjgkinhaaGreatDoorHtE
import Derived.Test.YteeiljjjgkinhaaGreatDoorHtJ
namespace Go.Proofs.YteeiljjjgkinhaaGreatDoor.PHttpFL
open Go.RowKit Go.Proofs.YteeiljjjgkinhaaGreatDoor.PHttpF Go.Proofs.YteeiljjjgkinhaaGreatDoor.HtLists Go.Proofs.YteeiljjjgkinhaaGreatDoorW.PrintWords Go.Proofs.YteeiljjjgkinhaaGreatDoorW.PrintLast Go.Proofs.YteeiljjjgkinhaaGreatDoorW.PrintMore
set_option linter.unusedVariables false
set_option linter.unusedSimpArgs false

theorem sure_ev : Ev (fun k => lodestarlaw04_sure.f k) true := ⟨64, sure_eq⟩
theorem sure_some : Ev (fun k => (lodestarlaw04_sure.f k).bind fun t => some t) true := Ev.bind sure_ev (Ev.const fun _ => rfl)
theorem bt_list {s : ByteArray} {j : Nat} {c : UInt8} (h : s.data.toList[j]? = some c) : bt s j = (c.toNat : Int) := by
  have hlt : j < s.size := by
    have := (List.getElem?_eq_some_iff.1 h).1
    rwa [Array.length_toList] at this
  obtain ⟨h1, h2⟩ := bt_get s j hlt
  rw [h2]
  rw [h1] at h
  rw [Option.some.inj h]
theorem extract_data (s : ByteArray) (a b : Nat) : (s.extract a b).data.toList = (s.data.toList.drop a).take (b - a) := by
  simp [ByteArray.data_extract, List.extract_eq_take_drop]

/-! ### find -/
theorem find_l (s t : ByteArray) (ht : 1 ≤ t.size) (htb : t.size ≤ 100) (hs : s.size ≤ 1073741824) : ∀ n a, a + n = s.size + 1 → ∃ r, Ev (fun k => lodestarref04_find.l0 k s t (a : Int)) r ∧ FindAt s.data.toList t.data.toList a r
  | 0, a, ha => by
    refine ⟨-1, Ev.succ (g := fun _ => some (-1)) (fun k => ?_) (Ev.const fun _ => rfl), .inl ⟨rfl, fun j hj => ?_⟩⟩
    · conv => lhs; unfold lodestarref04_find.l0
      rw [wrap_small _ (by omega) (by omega), if_neg (by omega)]
    · cases h : Lib.occAt s.data.toList t.data.toList j with
      | false => rfl
      | true =>
        rcases Lib.occAt_room h with h' | h'
        · rw [size_len, size_len] at h'; omega
        · have := congrArg List.length h'; rw [size_len, List.length_nil] at this; omega
  | n + 1, a, ha => by
    by_cases hr : a + t.size ≤ s.size
    · have hocc := Lib.occAt_iff_take s.data.toList t.data.toList a (by rw [size_len, size_len]; exact hr)
      have hex : (s.extract a (a + t.size)).data.toList = (s.data.toList.drop a).take t.size := by rw [extract_data, Nat.add_sub_cancel_left]
      rw [size_len] at hocc
      by_cases he : (s.extract a (a + t.size)).toList = t.toList
      · refine ⟨(a : Int), Ev.succ (g := fun _ => some (a : Int)) (fun k => ?_) (Ev.const fun _ => rfl), .inr ⟨a, rfl, Nat.le_refl _, by rw [size_len, size_len]; exact hr, ?_, fun j h1 h2 => by omega⟩⟩
        · conv => lhs; unfold lodestarref04_find.l0
          rw [wrap_small ((a : Int) + (t.size : Int)) (by omega) (by omega), if_pos (by omega), if_pos (by omega), if_pos (by omega), show ((a : Int)).toNat = a by omega, show ((a : Int) + (t.size : Int)).toNat = a + t.size by omega, if_pos he]
        · rw [hocc, ← hex]
          rw [Lib.toList_data, Lib.toList_data] at he
          rw [he]
          exact beq_self_eq_true _
      · obtain ⟨r, hE, hF⟩ := find_l s t ht htb hs n (a + 1) (by omega)
        have hno : Lib.occAt s.data.toList t.data.toList a = false := by
          rw [hocc, ← hex]
          rw [Lib.toList_data, Lib.toList_data] at he
          exact beq_eq_false_iff_ne.2 he
        refine ⟨r, Ev.succ (fun k => ?_) hE, ?_⟩
        · conv => lhs; unfold lodestarref04_find.l0
          rw [wrap_small ((a : Int) + (t.size : Int)) (by omega) (by omega), if_pos (by omega), if_pos (by omega), if_pos (by omega), show ((a : Int)).toNat = a by omega, show ((a : Int) + (t.size : Int)).toNat = a + t.size by omega, if_neg he, wrap_next a (by omega)]
        · rcases hF with ⟨e, h⟩ | ⟨i, e, h1, h2, h3, h4⟩
          · refine .inl ⟨e, fun j hj => ?_⟩
            by_cases hja : j = a
            · subst hja; exact hno
            · exact h j (by omega)
          · refine .inr ⟨i, e, by omega, h2, h3, fun j hj1 hj2 => ?_⟩
            by_cases hja : j = a
            · subst hja; exact hno
            · exact h4 j (by omega) hj2
    · refine ⟨-1, Ev.succ (g := fun _ => some (-1)) (fun k => ?_) (Ev.const fun _ => rfl), .inl ⟨rfl, fun j hj => ?_⟩⟩
      · conv => lhs; unfold lodestarref04_find.l0
        rw [wrap_small _ (by omega) (by omega), if_neg (by omega)]
      · cases h : Lib.occAt s.data.toList t.data.toList j with
        | false => rfl
        | true =>
          rcases Lib.occAt_room h with h' | h'
          · rw [size_len, size_len] at h'; omega
          · have := congrArg List.length h'; rw [size_len, List.length_nil] at this; omega
theorem find_ev (s t : ByteArray) (ht : 1 ≤ t.size) (htb : t.size ≤ 100) (hs : s.size ≤ 1073741824) (a : Nat) (ha : a ≤ s.size) : ∃ r, Ev (fun k => lodestarref04_find.f k s t (a : Int)) r ∧ FindAt s.data.toList t.data.toList a r := by
  obtain ⟨r, h1, h2⟩ := find_l s t ht htb hs (s.size + 1 - a) a (by omega)
  exact ⟨r, Ev.congr (fun k => rfl) h1, h2⟩

/-! ### bare -/
theorem bare_l1 : ∀ r : List UInt8, r.length ≤ 1073741824 → Ev (fun k => lodestarref04_bare.l1 k ⟨r.reverse.toArray⟩) ⟨((r.dropWhile blankB).reverse).toArray⟩
  | [], _ => by
    refine Ev.succ (g := fun _ => some ⟨#[]⟩) (fun k => ?_) (Ev.const fun _ => rfl)
    conv => lhs; unfold lodestarref04_bare.l1
    rw [if_pos ((toList_nil _).2 rfl)]
    rfl
  | c :: t, hl => by
    have hsz : (⟨(c :: t).reverse.toArray⟩ : ByteArray).size = t.length + 1 := by rw [size_mk]; simp
    have hbt : bt ⟨(c :: t).reverse.toArray⟩ (t.length : Int) = (c.toNat : Int) := bt_list (by
      show ((c :: t).reverse)[t.length]? = some c
      rw [List.reverse_cons, List.getElem?_append_right (by simp)]
      simp)
    have hex : (⟨(c :: t).reverse.toArray⟩ : ByteArray).extract 0 t.length = ⟨t.reverse.toArray⟩ := by
      apply ba_ext
      rw [Lib.extract_from_zero]
      show ((c :: t).reverse).take t.length = t.reverse
      rw [List.reverse_cons, List.take_append_of_le_length (by simp), List.take_of_length_le (by simp)]
    have hne : ¬ (⟨(c :: t).reverse.toArray⟩ : ByteArray).toList = [] := fun e => by have := (toList_nil _).1 e; omega
    have hw : wrap64 (((⟨(c :: t).reverse.toArray⟩ : ByteArray).size : Int) - 1) = (t.length : Int) := by rw [hsz, wrap_small _ (by omega) (by simp at hl; omega)]; omega
    by_cases hb : blankB c = true
    · have e : (c :: t).dropWhile blankB = t.dropWhile blankB := by simp [List.dropWhile_cons, hb]
      rw [e]
      refine Ev.succ (fun k => ?_) (bare_l1 t (by simp at hl; omega))
      conv => lhs; unfold lodestarref04_bare.l1
      rw [if_neg hne, hw, if_pos (by omega), if_pos (by rw [hsz]; omega), hbt, show ((t.length : Int)).toNat = t.length by omega, hex]
      rcases (blank_iff c).1 hb with h | h
      · subst h
        rw [if_pos (show ((32 : UInt8).toNat : Int) = 32 by decide), if_pos (by rw [hsz]; omega)]
      · subst h
        rw [if_neg (show ¬ ((9 : UInt8).toNat : Int) = 32 by decide), if_pos (show ((9 : UInt8).toNat : Int) = 9 by decide), if_pos (by rw [hsz]; omega)]
    · have e : (c :: t).dropWhile blankB = c :: t := by simp [List.dropWhile_cons, hb]
      rw [e]
      refine Ev.succ (g := fun _ => some ⟨((c :: t).reverse).toArray⟩) (fun k => ?_) (Ev.const fun _ => rfl)
      have hn : ¬ (c = 32 ∨ c = 9) := fun h => hb ((blank_iff c).2 h)
      conv => lhs; unfold lodestarref04_bare.l1
      rw [if_neg hne, hw, if_pos (by omega), if_pos (by rw [hsz]; omega), hbt, if_neg (fun h => hn (.inl (UInt8.toNat_inj.1 (by have : (32 : UInt8).toNat = 32 := rfl; omega)))), if_neg (fun h => hn (.inr (UInt8.toNat_inj.1 (by have : (9 : UInt8).toNat = 9 := rfl; omega))))]
theorem bare_l0 : ∀ l : List UInt8, l.length ≤ 1073741824 → Ev (fun k => lodestarref04_bare.l0 k ⟨l.toArray⟩) ⟨(rdrop blankB (l.dropWhile blankB)).toArray⟩
  | [], _ => by
    refine Ev.succ (g := fun k => lodestarref04_bare.j1 k ⟨#[]⟩) (fun k => ?_) (Ev.succ (g := fun k => lodestarref04_bare.l1 k ⟨#[]⟩) (fun k => by simp only [lodestarref04_bare.j1]) (bare_l1 [] (by simp)))
    conv => lhs; unfold lodestarref04_bare.l0
    rw [if_pos ((toList_nil _).2 rfl)]
  | c :: t, hl => by
    have hsz : (⟨(c :: t).toArray⟩ : ByteArray).size = t.length + 1 := by rw [size_mk]; simp
    have hbt : bt ⟨(c :: t).toArray⟩ 0 = (c.toNat : Int) := bt_list (j := 0) rfl
    have hex : (⟨(c :: t).toArray⟩ : ByteArray).extract 1 (⟨(c :: t).toArray⟩ : ByteArray).size = ⟨t.toArray⟩ := by
      apply ba_ext
      rw [Lib.extract_to_end]
      rfl
    have hne : ¬ (⟨(c :: t).toArray⟩ : ByteArray).toList = [] := fun e => by have := (toList_nil _).1 e; omega
    by_cases hb : blankB c = true
    · have e : (c :: t).dropWhile blankB = t.dropWhile blankB := by simp [List.dropWhile_cons, hb]
      rw [e]
      refine Ev.succ (fun k => ?_) (bare_l0 t (by simp at hl; omega))
      conv => lhs; unfold lodestarref04_bare.l0
      rw [if_neg hne, if_pos (by rw [hsz]; omega), hbt, hex]
      rcases (blank_iff c).1 hb with h | h
      · subst h
        rw [if_pos (show ((32 : UInt8).toNat : Int) = 32 by decide), if_pos (by rw [hsz]; omega)]
      · subst h
        rw [if_neg (show ¬ ((9 : UInt8).toNat : Int) = 32 by decide), if_pos (show ((9 : UInt8).toNat : Int) = 9 by decide), if_pos (by rw [hsz]; omega)]
    · have e : (c :: t).dropWhile blankB = c :: t := by simp [List.dropWhile_cons, hb]
      rw [e]
      have hn : ¬ (c = 32 ∨ c = 9) := fun h => hb ((blank_iff c).2 h)
      have h1 := bare_l1 (c :: t).reverse (by simpa using hl)
      rw [List.reverse_reverse] at h1
      refine Ev.succ (g := fun k => lodestarref04_bare.j1 k ⟨(c :: t).toArray⟩) (fun k => ?_) (Ev.succ (g := fun k => lodestarref04_bare.l1 k ⟨(c :: t).toArray⟩) (fun k => by simp only [lodestarref04_bare.j1]) h1)
      conv => lhs; unfold lodestarref04_bare.l0
      rw [if_neg hne, if_pos (by rw [hsz]; omega), hbt, if_neg (fun h => hn (.inl (UInt8.toNat_inj.1 (by have : (32 : UInt8).toNat = 32 := rfl; omega)))), if_neg (fun h => hn (.inr (UInt8.toNat_inj.1 (by have : (9 : UInt8).toNat = 9 := rfl; omega))))]
theorem bare_ev (l : List UInt8) (hl : l.length ≤ 1073741824) : Ev (fun k => lodestarref04_bare.f k ⟨l.toArray⟩) ⟨(Lib.trimS l [32, 9]).toArray⟩ := by
  rw [trimS_blank]
  exact Ev.congr (fun k => rfl) (bare_l0 l hl)
end Go.Proofs.YteeiljjjgkinhaaGreatDoor.PHttpFL
