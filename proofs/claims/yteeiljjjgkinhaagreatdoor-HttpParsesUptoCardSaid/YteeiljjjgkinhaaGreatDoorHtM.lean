import Derived.Test.YteeiljjjgkinhaaGreatDoorHtK
namespace Go.Proofs.YteeiljjjgkinhaaGreatDoor.PHttpFL
open Go.RowKit Go.Proofs.YteeiljjjgkinhaaGreatDoor.PHttpF Go.Proofs.YteeiljjjgkinhaaGreatDoor.HtLists Go.Proofs.YteeiljjjgkinhaaGreatDoorW.PrintWords Go.Proofs.YteeiljjjgkinhaaGreatDoorW.PrintLast Go.Proofs.YteeiljjjgkinhaaGreatDoorW.PrintMore
set_option linter.unusedVariables false
set_option linter.unusedSimpArgs false

/-! ### names -/
def nameP (c : Int) : Prop := (97 ≤ c ∧ c ≤ 122) ∨ (65 ≤ c ∧ c ≤ 90) ∨ (48 ≤ c ∧ c ≤ 57) ∨ c = 45
theorem same_name : ∀ k s i, lodestarref04_name.l0 k s i = http_name.l0 k s i
  | 0, _, _ => rfl
  | k + 1, s, i => by
    unfold lodestarref04_name.l0 http_name.l0
    simp only [same_name k]
theorem name_good (k : Nat) (s : ByteArray) (i : Nat) (h : i < s.size) (hs : s.size ≤ 1073741824) (hp : nameP (bt s i)) : http_name.l0 (k + 1) s (i : Int) = http_name.l0 k s ((i + 1 : Nat) : Int) := by
  conv => lhs; unfold http_name.l0
  rw [if_pos (by omega), if_pos (by omega), wrap_next i (by omega)]
  unfold nameP at hp
  generalize bt s i = c at hp ⊢
  repeat' split
  all_goals first | rfl | (exfalso; omega)
theorem name_bad (k : Nat) (s : ByteArray) (i : Nat) (h : i < s.size) (hs : s.size ≤ 1073741824) (hp : ¬ nameP (bt s i)) : http_name.l0 (k + 1) s (i : Int) = some false := by
  conv => lhs; unfold http_name.l0
  rw [if_pos (by omega), if_pos (by omega), wrap_next i (by omega)]
  unfold nameP at hp
  generalize bt s i = c at hp ⊢
  repeat' split
  all_goals first | rfl | (exfalso; omega)
theorem name_l2 (s : ByteArray) (hs : s.size ≤ 1073741824) : ∀ n i, i + n = s.size → ∃ b, Ev (fun k => http_name.l0 k s (i : Int)) b ∧ (b = true → ∀ j : Nat, i ≤ j → j < s.size → nameP (bt s j))
  | 0, i, hi => by
    refine ⟨_, Ev.succ (g := fun _ => some (s.toList != ([] : List UInt8))) (fun k => ?_) (Ev.const fun _ => rfl), fun _ j h1 h2 => by omega⟩
    conv => lhs; unfold http_name.l0
    rw [if_neg (by omega)]
  | n + 1, i, hi => by
    obtain ⟨b, hb, hq⟩ := name_l2 s hs n (i + 1) (by omega)
    by_cases hp : nameP (bt s i)
    · refine ⟨b, Ev.succ (fun k => name_good k s i (by omega) hs hp) hb, fun h j h1 h2 => ?_⟩
      by_cases e : j = i
      · subst e; exact hp
      · exact hq h j (by omega) h2
    · exact ⟨false, Ev.succ (g := fun _ => some false) (fun k => name_bad k s i (by omega) hs hp) (Ev.const fun _ => rfl), fun h => by cases h⟩
def nameC (c : UInt8) : Prop := nameP (c.toNat : Int)
theorem name_ev (s : ByteArray) (hs : s.size ≤ 1073741824) : ∃ b, Ev (fun k => http_name.f k s) b ∧ (b = true → ∀ c ∈ s.data.toList, nameC c) := by
  obtain ⟨b, hb, hq⟩ := name_l2 s hs s.size 0 (by omega)
  exact ⟨b, Ev.congr (fun k => rfl) hb, fun h => all_bt (P := nameP) fun j hj => hq h j (by omega) hj⟩

/-! ### numbers -/
def digC (c : UInt8) : Prop := 48 ≤ c.toNat ∧ c.toNat ≤ 57
theorem drop_cons {v : ByteArray} {i : Nat} (h : i < v.size) : ∃ c, v.data.toList.drop i = c :: v.data.toList.drop (i + 1) ∧ bt v i = (c.toNat : Int) := by
  have hl : i < v.data.toList.length := by rw [size_len]; exact h
  refine ⟨v.data.toList[i], List.drop_eq_getElem_cons hl, bt_list (List.getElem?_eq_getElem hl)⟩
theorem capped (acc d : Nat) (hd : d ≤ 9) : (min (acc * 10 + d) 262145 : Nat) = min (min acc 262145 * 10 + d) 262145 := by omega
theorem num_l (v : ByteArray) (hs : v.size ≤ 1073741824) : ∀ n i acc, i + n = v.size →
    ((∀ c ∈ v.data.toList.drop i, digC c) → Ev (fun k => lodestarref04_number.l0 k v ((min acc 262145 : Nat) : Int) (i : Int)) (((min (valFrom acc (v.data.toList.drop i)) 262145 : Nat) : Int), true)) ∧
    ((¬ ∀ c ∈ v.data.toList.drop i, digC c) → Ev (fun k => lodestarref04_number.l0 k v ((min acc 262145 : Nat) : Int) (i : Int)) (0, false))
  | 0, i, acc, hi => by
    have e : v.data.toList.drop i = [] := List.drop_eq_nil_of_le (by rw [size_len]; omega)
    rw [e, valFrom_nil]
    refine ⟨fun _ => ?_, fun h => absurd (fun c hc => by cases hc) h⟩
    refine Ev.succ (g := fun _ => some (((min acc 262145 : Nat) : Int), true)) (fun k => ?_) (Ev.const fun _ => rfl)
    conv => lhs; unfold lodestarref04_number.l0
    rw [if_neg (by omega)]
  | n + 1, i, acc, hi => by
    obtain ⟨c, hc, hbt⟩ := drop_cons (v := v) (i := i) (by omega)
    have ih := num_l v hs n (i + 1) (acc * 10 + (c.toNat - 48)) (by omega)
    rw [hc, valFrom_cons]
    obtain ⟨m, hm⟩ : ∃ m, min acc 262145 = m := ⟨_, rfl⟩
    have hm1 : m ≤ 262145 := by rw [← hm]; exact Nat.min_le_right _ _
    by_cases hd : digC c
    · have hd' := hd
      unfold digC at hd'
      have hstep : ∀ k, lodestarref04_number.l0 (k + 1) v ((min acc 262145 : Nat) : Int) (i : Int) = lodestarref04_number.l0 k v ((min (acc * 10 + (c.toNat - 48)) 262145 : Nat) : Int) ((i + 1 : Nat) : Int) := fun k => by
        rw [capped acc (c.toNat - 48) (by omega), hm]
        conv => lhs; unfold lodestarref04_number.l0
        rw [if_pos (by omega), if_pos (by omega), hbt, if_neg (by omega), if_neg (by omega), wrap_next i (by omega), wrap_small (10 * (m : Int)) (by omega) (by omega), wrap_small _ (by omega) (by omega)]
        congr 1
        unfold mn
        split <;> omega
      refine ⟨fun h => Ev.succ hstep (ih.1 fun x hx => h x (.tail _ hx)), fun h => Ev.succ hstep (ih.2 fun h2 => h fun x hx => ?_)⟩
      rcases List.mem_cons.1 hx with rfl | hx
      · exact hd
      · exact h2 x hx
    · refine ⟨fun h => absurd (h c (.head _)) hd, fun _ => ?_⟩
      refine Ev.succ (g := fun _ => some (0, false)) (fun k => ?_) (Ev.const fun _ => rfl)
      unfold digC at hd
      conv => lhs; unfold lodestarref04_number.l0
      rw [if_pos (by omega), if_pos (by omega), hbt]
      by_cases h1 : (c.toNat : Int) < 48
      · rw [if_pos h1]
      · rw [if_neg h1, if_pos (by omega)]
theorem len_bad (v : ByteArray) (hs : v.size ≤ 1073741824) : ∀ n i, i + n = v.size → (¬ ∀ c ∈ v.data.toList.drop i, digC c) → Ev (fun k => http_length.l0 k v (i : Int)) (0, 40)
  | 0, i, hi, h => by
    have e : v.data.toList.drop i = [] := List.drop_eq_nil_of_le (by rw [size_len]; omega)
    rw [e] at h
    exact absurd (fun c hc => by cases hc) h
  | n + 1, i, hi, h => by
    obtain ⟨c, hc, hbt⟩ := drop_cons (v := v) (i := i) (by omega)
    rw [hc] at h
    by_cases hd : digC c
    · have hd' := hd
      unfold digC at hd'
      refine Ev.succ (fun k => ?_) (len_bad v hs n (i + 1) (by omega) fun h2 => h fun x hx => ?_)
      · conv => lhs; unfold http_length.l0
        rw [if_pos (by omega), if_pos (by omega), hbt, if_neg (by omega), if_neg (by omega), wrap_next i (by omega)]
      · rcases List.mem_cons.1 hx with rfl | hx
        · exact hd
        · exact h2 x hx
    · refine Ev.succ (g := fun _ => some (0, 40)) (fun k => ?_) (Ev.const fun _ => rfl)
      unfold digC at hd
      conv => lhs; unfold http_length.l0
      rw [if_pos (by omega), if_pos (by omega), hbt]
      by_cases h1 : (c.toNat : Int) < 48
      · rw [if_pos h1]
      · rw [if_neg h1, if_pos (by omega)]
theorem j1_true (v : ByteArray) : Ev (fun k => http_length.j1 k v true) (0, 40) := Ev.succ (g := fun _ => some (0, 40)) (fun k => by simp only [http_length.j1]; rfl) (Ev.const fun _ => rfl)
theorem nj0_true (v : ByteArray) : Ev (fun k => lodestarref04_number.j0 k v true) (0, false) := Ev.succ (g := fun _ => some (0, false)) (fun k => by simp only [lodestarref04_number.j0]; rfl) (Ev.const fun _ => rfl)
/-- how the loop of http.length ends at digits -/
theorem len_end (v : ByteArray) (h1 : 1 ≤ v.size) {r : Int × Int} (h : Ev (fun k => http_length.j1 k v (decide (v.size > 1) && (bt v 0 == 48))) r) : Ev (fun k => http_length.l0 k v (v.size : Int)) r := by
  refine Ev.succ (fun k => ?_) h
  conv => lhs; unfold http_length.l0
  rw [if_neg (by omega), if_neg (fun e => by have := (toList_nil _).1 e; omega)]
  by_cases hg : v.size > 1
  · rw [if_pos (by omega), if_pos (by omega), decide_eq_true hg, Bool.true_and]
  · rw [if_neg (by omega), decide_eq_false hg, Bool.false_and]
theorem len_both (v : ByteArray) (hs : v.size ≤ 1073741824) : ∃ (K e N : Int) (ok : Bool), Ev (fun k => http_length.f k v) (K, e) ∧ Ev (fun k => lodestarref04_number.f k v) (N, ok) ∧
    ((ok = false ∧ e = 40) ∨ (ok = true ∧ N > 262144 ∧ e = 41) ∨ (ok = true ∧ 0 ≤ N ∧ N ≤ 262144 ∧ e = 0 ∧ K = N)) := by
  by_cases h0 : v.size = 0
  · have ht := (toList_nil v).2 h0
    refine ⟨0, 40, 0, false, ?_, ?_, .inl ⟨rfl, rfl⟩⟩
    · refine Ev.congr (g := fun k => http_length.l0 k v 0) (fun k => rfl) (Ev.succ (fun k => ?_) (j1_true v))
      conv => lhs; unfold http_length.l0
      rw [if_neg (by omega), if_pos ht]
    · refine Ev.congr (fun k => ?_) (nj0_true v)
      show lodestarref04_number.f k v = _
      unfold lodestarref04_number.f
      rw [if_pos ht]
  · have htn : ¬ v.toList = [] := fun e => h0 ((toList_nil v).1 e)
    have hd0 : v.data.toList.drop 0 = v.data.toList := rfl
    have hnum : ∀ {r : Int × Bool}, Ev (fun k => lodestarref04_number.j0 k v (decide (v.size > 1) && (bt v 0 == 48))) r → Ev (fun k => lodestarref04_number.f k v) r := fun h => by
      refine Ev.congr (fun k => ?_) h
      show lodestarref04_number.f k v = _
      unfold lodestarref04_number.f
      rw [if_neg htn]
      by_cases hg : v.size > 1
      · rw [if_pos (by omega), if_pos (by omega), decide_eq_true hg, Bool.true_and]
      · rw [if_neg (by omega), decide_eq_false hg, Bool.false_and]
    obtain ⟨z, hz⟩ : ∃ z, (decide (v.size > 1) && (bt v 0 == 48)) = z := ⟨_, rfl⟩
    have hend := fun (r : Int × Int) (h : Ev (fun k => http_length.j1 k v z) r) => len_end v (by omega) (r := r) (by rw [hz]; exact h)
    rw [hz] at hnum
    by_cases hall : ∀ c ∈ v.data.toList, digC c
    · have hloop := fun (r : Int × Int) (h : Ev (fun k => http_length.j1 k v z) r) => length_l (by omega) hall (hend r h) v.size 0 (by omega)
      cases z with
      | true => exact ⟨0, 40, 0, false, Ev.congr (fun k => rfl) (hloop _ (j1_true v)), hnum (nj0_true v), .inl ⟨rfl, rfl⟩⟩
      | false =>
        have hn := (num_l v hs v.size 0 0 (by omega)).1 (by rw [hd0]; exact hall)
        rw [hd0] at hn
        have hnj : Ev (fun k => lodestarref04_number.j0 k v false) (((min (valFrom 0 v.data.toList) 262145 : Nat) : Int), true) := by
          refine Ev.succ (fun k => ?_) hn
          simp only [lodestarref04_number.j0]
          rfl
        have hne : v.data.toList ≠ [] := fun e => by have := congrArg List.length e; rw [size_len, List.length_nil] at this; omega
        have hat := atoi_digits v.data.toList hne hall
        obtain ⟨V, hV⟩ : ∃ V, valFrom 0 v.data.toList = V := ⟨_, rfl⟩
        rw [hV] at hat hnj
        have hj1 : ∀ (x : Int × Option Int), strconv_Atoi_36.f v = some x → Ev (fun k => http_length.j1 k v false) (if x.2.isNone = true then (if x.1 > 262144 then (0, 41) else (x.1, 0)) else (0, 41)) := fun x hx => by
          refine Ev.succ (g := fun _ => some (if x.2.isNone = true then (if x.1 > 262144 then (0, 41) else (x.1, 0)) else (0, 41))) (fun k => ?_) (Ev.const fun _ => rfl)
          simp only [http_length.j1]
          rw [if_neg (by decide), hx]
          simp only [Option.bind_some]
          repeat' split
          all_goals rfl
        have hf : ∀ w, Lib.atoiAll v.data.toList = w → strconv_Atoi_36.f v = (match w with | .ok v => some (v, none) | .range => some (Lib.atoiSat v.data.toList, some 1) | _ => none) := fun w hw => by
          unfold strconv_Atoi_36.f
          rw [if_pos (by omega), hw]
          cases w <;> rfl
        rcases hat with e | ⟨e, hbig⟩
        · have h1 := hj1 ((V : Int), none) (hf _ e)
          simp only [show (none : Option Int).isNone = true from rfl, if_true] at h1
          by_cases hg : V > 262144
          · rw [if_pos (show (V : Int) > 262144 by omega)] at h1
            exact ⟨0, 41, _, true, Ev.congr (fun k => rfl) (hloop _ h1), hnum hnj, .inr (.inl ⟨rfl, by omega, rfl⟩)⟩
          · rw [if_neg (show ¬ (V : Int) > 262144 by omega)] at h1
            exact ⟨(V : Int), 0, _, true, Ev.congr (fun k => rfl) (hloop _ h1), hnum hnj, .inr (.inr ⟨rfl, by omega, by omega, rfl, by omega⟩)⟩
        · have h1 := hj1 (Lib.atoiSat v.data.toList, some 1) (hf _ e)
          simp only [show (some (1 : Int)).isNone = false from rfl, if_neg (show ¬ (false = true) by decide)] at h1
          exact ⟨0, 41, _, true, Ev.congr (fun k => rfl) (hloop _ h1), hnum hnj, .inr (.inl ⟨rfl, by omega, rfl⟩)⟩
    · have hb := len_bad v hs v.size 0 (by omega) (by rw [hd0]; exact hall)
      cases z with
      | true => exact ⟨0, 40, 0, false, Ev.congr (fun k => rfl) hb, hnum (nj0_true v), .inl ⟨rfl, rfl⟩⟩
      | false =>
        have hn := (num_l v hs v.size 0 0 (by omega)).2 (by rw [hd0]; exact hall)
        refine ⟨0, 40, 0, false, Ev.congr (fun k => rfl) hb, hnum (Ev.succ (fun k => ?_) hn), .inl ⟨rfl, rfl⟩⟩
        simp only [lodestarref04_number.j0]
        rfl
end Go.Proofs.YteeiljjjgkinhaaGreatDoor.PHttpFL
