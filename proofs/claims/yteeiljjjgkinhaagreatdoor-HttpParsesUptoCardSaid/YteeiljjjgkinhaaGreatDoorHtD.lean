import Derived.Test.YteeiljjjgkinhaaGreatDoorHtB
import Derived.Test.YteeiljjjgkinhaaGreatDoorHtC
namespace Go.Proofs.YteeiljjjgkinhaaGreatDoor.PHttpFL
open Go.RowKit Go.Proofs.YteeiljjjgkinhaaGreatDoor.PHttpF Go.Proofs.YteeiljjjgkinhaaGreatDoor.HtLists Go.Proofs.YteeiljjjgkinhaaGreatDoorW.PrintWords Go.Proofs.YteeiljjjgkinhaaGreatDoorW.PrintLast Go.Proofs.YteeiljjjgkinhaaGreatDoorW.PrintMore
set_option linter.unusedVariables false
set_option linter.unusedSimpArgs false

/-! ### with fuel enough -/
def Ev {α : Type} (f : Nat → Option α) (r : α) : Prop := ∃ K, ∀ k, K ≤ k → f k = some r
theorem Ev.of {α : Type} {f : Nat → Option α} (hm : ∀ k, LeO (f k) (f (k + 1))) {k0 : Nat} {r : α} (h : f k0 = some r) : Ev f r := ⟨k0, mono_add hm h⟩
theorem Ev.const {α : Type} {f : Nat → Option α} {r : α} (h : ∀ k, f k = some r) : Ev f r := ⟨0, fun k _ => h k⟩
theorem Ev.congr {α : Type} {f g : Nat → Option α} {r : α} (h : ∀ k, f k = g k) (hg : Ev g r) : Ev f r := let ⟨K, hK⟩ := hg; ⟨K, fun k hk => (h k).trans (hK k hk)⟩
theorem Ev.succ {α : Type} {f g : Nat → Option α} {r : α} (h : ∀ k, f (k + 1) = g k) (hg : Ev g r) : Ev f r := by
  obtain ⟨K, hK⟩ := hg
  refine ⟨K + 1, fun k hk => ?_⟩
  obtain ⟨k', rfl⟩ : ∃ k', k = k' + 1 := ⟨k - 1, by omega⟩
  rw [h]
  exact hK k' (by omega)
theorem Ev.bind {α β : Type} {f : Nat → Option α} {g : Nat → α → Option β} {a : α} {r : β} (hf : Ev f a) (hg : Ev (fun k => g k a) r) : Ev (fun k => (f k).bind (g k)) r := by
  obtain ⟨K, hK⟩ := hf
  obtain ⟨K', hK'⟩ := hg
  refine ⟨K + K', fun k hk => ?_⟩
  show (f k).bind (g k) = some r
  rw [hK k (by omega)]
  exact hK' k (by omega)
theorem Ev.get {α : Type} {f : Nat → Option α} {r : α} (h : Ev f r) : ∃ k, f k = some r := let ⟨K, hK⟩ := h; ⟨K, hK K (Nat.le_refl _)⟩

/-! ### bytes -/
theorem bt_get (s : ByteArray) (j : Nat) (h : j < s.size) : s.data.toList[j]? = some (s.data.toList[j]'(by rw [Array.length_toList]; exact h)) ∧ bt s j = ((s.data.toList[j]'(by rw [Array.length_toList]; exact h)).toNat : Int) := by
  refine ⟨List.getElem?_eq_getElem _, ?_⟩
  unfold bt
  rw [dif_pos (show (j : Int).toNat < s.size by omega)]
  rfl
theorem all_bt {P : Int → Prop} {s : ByteArray} (h : ∀ j : Nat, j < s.size → P (bt s j)) : ∀ b ∈ s.data.toList, P (b.toNat : Int) := by
  intro b hb
  obtain ⟨j, hj⟩ := List.mem_iff_getElem?.1 hb
  have hlt : j < s.size := by
    have := (List.getElem?_eq_some_iff.1 hj).1
    rwa [Array.length_toList] at this
  obtain ⟨h1, h2⟩ := bt_get s j hlt
  rw [h1] at hj
  have := h j hlt
  rw [h2, Option.some.inj hj] at this
  exact this
theorem data_app (a b : ByteArray) : (a ++ b).data.toList = a.data.toList ++ b.data.toList := by simp [ByteArray.data_append]
theorem size_len (s : ByteArray) : s.data.toList.length = s.size := by rw [Array.length_toList]; rfl
theorem ba_ext {a b : ByteArray} (h : a.data.toList = b.data.toList) : a = b := ByteArray.ext (Array.toList_inj.1 h)
theorem map_inj {xs bs : List ByteArray} (h : xs.map (·.data.toList) = bs.map (·.data.toList)) : xs = bs := by
  induction xs generalizing bs with
  | nil =>
    cases bs with
    | nil => rfl
    | cons b bs => simp at h
  | cons a xs ih =>
    cases bs with
    | nil => simp at h
    | cons b bs =>
      simp only [List.map_cons, List.cons.injEq] at h
      rw [ba_ext h.1, ih h.2]
theorem split_eq (s sep : ByteArray) (ls : List ByteArray) (hs : s.size < 4294967281) (h1 : 1 ≤ sep.size) (h : spl sep.data.toList s.data.toList = ls.map (·.data.toList)) : strings_Split.f s sep = some ls := by
  unfold strings_Split.f
  rw [if_pos ⟨hs, h1⟩]
  congr 1
  apply map_inj
  rw [Lib.splitB_data]
  exact h

/-! ### the loop of Parse -/
abbrev E0 : ByteArray := ⟨#[]⟩
def te : List UInt8 := [116, 114, 97, 110, 115, 102, 101, 114, 45, 101, 110, 99, 111, 100, 105, 110, 103]
def cl : List UInt8 := [99, 111, 110, 116, 101, 110, 116, 45, 108, 101, 110, 103, 116, 104]
abbrev PL (body : ByteArray) (size : Int) (seen : Bool) (ls : List ByteArray) (i : Nat) (p q e : ByteArray) (r : ByteArray × ByteArray × ByteArray × Int) : Prop := Ev (fun k => http_Parse.l0 k body size seen ls (ls.length : Int) (i : Int) p q e) r
theorem rd_at (ls : List ByteArray) (i : Nat) (l : ByteArray) (h : ls[i]? = some l) : rdOf ByteArray.empty ls (i : Int) = l := by
  unfold rdOf
  rw [show ((i : Int)).toNat = i by omega, List.getD_eq_getElem?_getD, h]
  rfl
theorem wrap_next (i : Nat) (h : i ≤ 4294967296) : wrap64 ((i : Int) + 1) = ((i + 1 : Nat) : Int) := by rw [wrap_small _ (by omega) (by omega)]; omega
theorem step0 {body : ByteArray} {size : Int} {seen : Bool} {ls : List ByteArray} {p q e l m pa e' : ByteArray} {r : ByteArray × ByteArray × ByteArray × Int}
    (hl : ls[0]? = some l) (hf : Ev (fun k => http_first.f k l) (m, pa, e', true)) (h : PL body size seen ls 1 m pa e' r) : PL body size seen ls 0 p q e r := by
  have hlen : 0 < ls.length := (List.getElem?_eq_some_iff.1 hl).1
  refine Ev.succ (g := fun k => (http_first.f k l).bind fun bt => if bt.2.2.2 = true then http_Parse.l0 k body size seen ls (ls.length : Int) ((1 : Nat) : Int) bt.1 bt.2.1 bt.2.2.1 else some (E0, E0, E0, 40)) (fun k => ?_) ?_
  · simp only [http_Parse.l0]
    rw [if_pos (by omega), if_pos (by omega), if_pos (by omega), if_pos (by omega), rd_at ls 0 l hl, wrap_next 0 (by omega)]
  · refine Ev.bind hf ?_
    simp only [if_true]
    exact h
theorem step_bad0 {body : ByteArray} {size : Int} {seen : Bool} {ls : List ByteArray} {p q e l m pa e' : ByteArray}
    (hl : ls[0]? = some l) (hf : Ev (fun k => http_first.f k l) (m, pa, e', false)) : PL body size seen ls 0 p q e (E0, E0, E0, 40) := by
  have hlen : 0 < ls.length := (List.getElem?_eq_some_iff.1 hl).1
  refine Ev.succ (g := fun k => (http_first.f k l).bind fun bt => if bt.2.2.2 = true then http_Parse.l0 k body size seen ls (ls.length : Int) ((1 : Nat) : Int) bt.1 bt.2.1 bt.2.2.1 else some (E0, E0, E0, 40)) (fun k => ?_) ?_
  · simp only [http_Parse.l0]
    rw [if_pos (by omega), if_pos (by omega), if_pos (by omega), if_pos (by omega), rd_at ls 0 l hl, wrap_next 0 (by omega)]
  · refine Ev.bind hf ?_
    simp only [if_neg (show ¬ (false = true) by decide)]
    exact Ev.const fun _ => rfl
/-- what a line of the head does, told by the field's name and value -/
theorem step_line {body : ByteArray} {size : Int} {seen : Bool} {ls : List ByteArray} {i : Nat} {p q e l n v : ByteArray} {ok : Bool} {r : ByteArray × ByteArray × ByteArray × Int}
    (h0 : 0 < i) (hi : ls.length ≤ 4294967296) (hl : ls[i]? = some l) (hf : Ev (fun k => http_field.f k l) (n, v, ok))
    (h : Ev (fun k => http_Parse.j3 k body size seen n v ls (ls.length : Int) (i : Int) (if ok = true then (if n.toList = te then true else if n.toList = cl then seen else false) else true) p q e) r) : PL body size seen ls i p q e r := by
  have hlen : i < ls.length := (List.getElem?_eq_some_iff.1 hl).1
  refine Ev.succ (g := fun k => (http_field.f k l).bind fun bt => http_Parse.j3 k body size seen bt.1 bt.2.1 ls (ls.length : Int) (i : Int) (if bt.2.2 = true then (if bt.1.toList = te then true else if bt.1.toList = cl then seen else false) else true) p q e) (fun k => ?_) ?_
  · simp only [http_Parse.l0]
    rw [if_pos (by omega), if_pos (by omega), if_pos (by omega), if_neg (by omega), rd_at ls i l hl]
    congr 1
    funext bt
    by_cases h1 : bt.2.2 = true
    · rw [if_pos h1, if_pos h1]
      by_cases h2 : bt.1.toList = te
      · rw [if_pos h2]
        exact if_pos h2
      · rw [if_neg h2]
        by_cases h3 : bt.1.toList = cl
        · rw [if_pos h3]
          exact (if_neg h2).trans (if_pos h3)
        · rw [if_neg h3]
          exact (if_neg h2).trans (if_neg h3)
    · rw [if_neg h1, if_neg h1]
  · exact Ev.bind hf h
theorem j3_bad {body : ByteArray} {size : Int} {seen : Bool} {ls : List ByteArray} {i : Nat} {p q e n v : ByteArray} : Ev (fun k => http_Parse.j3 k body size seen n v ls (ls.length : Int) (i : Int) true p q e) (E0, E0, E0, 40) :=
  Ev.succ (g := fun _ => some (E0, E0, E0, 40)) (fun k => by simp only [http_Parse.j3]; rfl) (Ev.const fun _ => rfl)
theorem j3_skip {body : ByteArray} {size : Int} {seen : Bool} {ls : List ByteArray} {i : Nat} {p q e n v : ByteArray} {r : ByteArray × ByteArray × ByteArray × Int} (hi : i ≤ 4294967296) (hn : n.toList ≠ cl)
    (h : PL body size seen ls (i + 1) p q e r) : Ev (fun k => http_Parse.j3 k body size seen n v ls (ls.length : Int) (i : Int) false p q e) r := by
  refine Ev.succ (g := fun k => http_Parse.l0 k body size seen ls (ls.length : Int) ((i + 1 : Nat) : Int) p q e) (fun k => ?_) h
  simp only [http_Parse.j3]
  rw [if_neg (by decide), wrap_next i hi]
  exact if_neg hn
theorem j3_len {body : ByteArray} {size : Int} {seen : Bool} {ls : List ByteArray} {i : Nat} {p q e n v : ByteArray} {len err : Int} {r : ByteArray × ByteArray × ByteArray × Int} (hi : i ≤ 4294967296) (hn : n.toList = cl)
    (hv : Ev (fun k => http_length.f k v) (len, err))
    (h : if err = 0 then PL body len true ls (i + 1) p q e r else r = (E0, E0, E0, err)) : Ev (fun k => http_Parse.j3 k body size seen n v ls (ls.length : Int) (i : Int) false p q e) r := by
  refine Ev.succ (g := fun k => (http_length.f k v).bind fun bt => if bt.2 = 0 then http_Parse.l0 k body bt.1 true ls (ls.length : Int) ((i + 1 : Nat) : Int) p q e else some (E0, E0, E0, bt.2)) (fun k => ?_) (Ev.bind hv ?_)
  · simp only [http_Parse.j3]
    rw [if_neg (by decide), wrap_next i hi]
    exact if_pos hn
  · by_cases h0 : err = 0
    · rw [if_pos h0] at h
      simp only [if_pos h0]
      exact h
    · rw [if_neg h0] at h
      subst h
      simp only [if_neg h0]
      exact Ev.const fun _ => rfl
theorem step_end {body : ByteArray} {size : Int} {seen : Bool} {ls : List ByteArray} {p q e : ByteArray} : PL body size seen ls ls.length p q e (if (body.size : Int) = size then (p, q, body, 0) else (E0, E0, E0, 40)) := by
  refine Ev.succ (g := fun _ => some (if (body.size : Int) = size then (p, q, body, 0) else (E0, E0, E0, 40))) (fun k => ?_) (Ev.const fun _ => rfl)
  simp only [http_Parse.l0]
  rw [if_neg (by omega)]
  by_cases h : (body.size : Int) = size
  · rw [if_pos h, if_pos h]
  · rw [if_neg h, if_neg h]

/-! ### the ends of Parse -/
theorem parse_none {s : ByteArray} (hs : s.size < 4294967281) (hi : Lib.index s.data.toList crlf2 = -1) : Ev (fun k => http_Parse.f k s) (E0, E0, E0, if (s.size : Int) > 4096 then 41 else 40) := by
  refine Ev.congr (g := fun k => http_Parse.j0 k s (-1) (decide ((s.size : Int) > 4096))) (fun k => ?_) ?_
  · unfold http_Parse.f strings_Index.f
    rw [if_pos hs, show (⟨#[13, 10, 13, 10]⟩ : ByteArray).data.toList = crlf2 from rfl, hi]
    simp only [Option.bind_some]
    rw [if_pos (by omega)]
  · by_cases h : (s.size : Int) > 4096
    · rw [decide_eq_true h, if_pos h]
      refine Ev.succ (g := fun k => http_Parse.j1 k s (-1) true) (fun k => by simp only [http_Parse.j0]; rfl) ?_
      exact Ev.succ (g := fun _ => some (E0, E0, E0, 41)) (fun k => by simp only [http_Parse.j1]; rfl) (Ev.const fun _ => rfl)
    · rw [decide_eq_false h, if_neg h]
      refine Ev.succ (g := fun k => http_Parse.j1 k s (-1) false) (fun k => by simp only [http_Parse.j0]; rfl) ?_
      exact Ev.succ (g := fun _ => some (E0, E0, E0, 40)) (fun k => by simp only [http_Parse.j1]; rfl) (Ev.const fun _ => rfl)
theorem parse_large {s : ByteArray} {E : Nat} (hs : s.size < 4294967281) (hi : Lib.index s.data.toList crlf2 = (E : Int)) (hE : E ≤ s.size) (h4 : 4096 < E + 4) : Ev (fun k => http_Parse.f k s) (E0, E0, E0, 41) := by
  refine Ev.congr (g := fun k => http_Parse.j0 k s (E : Int) false) (fun k => ?_) ?_
  · unfold http_Parse.f strings_Index.f
    rw [if_pos hs, show (⟨#[13, 10, 13, 10]⟩ : ByteArray).data.toList = crlf2 from rfl, hi]
    simp only [Option.bind_some]
    rw [if_neg (by omega)]
  · refine Ev.succ (g := fun k => http_Parse.j1 k s (E : Int) true) (fun k => ?_) ?_
    · simp only [http_Parse.j0]
      rw [if_neg (by decide), if_pos (by omega), wrap_small _ (by omega) (by omega), decide_eq_true (show (E : Int) + 4 > 4096 by omega)]
    · exact Ev.succ (g := fun _ => some (E0, E0, E0, 41)) (fun k => by simp only [http_Parse.j1]; rfl) (Ev.const fun _ => rfl)
theorem parse_at {s : ByteArray} {E : Nat} {ls : List ByteArray} {r : ByteArray × ByteArray × ByteArray × Int} (hs : s.size < 4294967281) (hi : Lib.index s.data.toList crlf2 = (E : Int)) (hE : E + 4 ≤ s.size) (h4 : E + 4 ≤ 4096)
    (hsp : strings_Split.f (s.extract 0 E) (⟨#[13, 10]⟩ : ByteArray) = some ls) (h : PL (s.extract (E + 4) s.size) 0 false ls 0 E0 E0 E0 r) : Ev (fun k => http_Parse.f k s) r := by
  refine Ev.congr (g := fun k => http_Parse.j0 k s (E : Int) false) (fun k => ?_) ?_
  · unfold http_Parse.f strings_Index.f
    rw [if_pos hs, show (⟨#[13, 10, 13, 10]⟩ : ByteArray).data.toList = crlf2 from rfl, hi]
    simp only [Option.bind_some]
    rw [if_neg (by omega)]
  · refine Ev.succ (g := fun k => http_Parse.j1 k s (E : Int) false) (fun k => ?_) ?_
    · simp only [http_Parse.j0]
      rw [if_neg (by decide), if_pos (by omega), wrap_small _ (by omega) (by omega), decide_eq_false (show ¬ (E : Int) + 4 > 4096 by omega)]
    · refine Ev.succ (g := fun k => http_Parse.l0 k (s.extract (E + 4) s.size) 0 false ls (ls.length : Int) ((0 : Nat) : Int) E0 E0 E0) (fun k => ?_) h
      simp only [http_Parse.j1]
      rw [if_neg (by decide), if_neg (by omega), wrap_small _ (by omega) (by omega), if_pos (by omega), if_pos (by omega), if_pos (by omega), if_pos (by omega),
        show ((E : Int)).toNat = E by omega, show ((E : Int) + 4).toNat = E + 4 by omega, hsp]
      rfl
end Go.Proofs.YteeiljjjgkinhaaGreatDoor.PHttpFL
