/- Several texts in one. -/
import Derived.Test.YtomhgoahhlnjpaaGreatDoorRfAD
import Derived.Maps.Views
/- The two disks in plain Lean: names in lists, names in maps. -/
namespace Go.Proofs.YtomhgoahhlnjpaaGreatDoor.Rf
open Go.RowKit Go.Maps Go.Sort Go.Proofs.YtomhgoahhlnjpaaGreatDoorW.PrintWords Go.Proofs.YtomhgoahhlnjpaaGreatDoor.PRef Go.Proofs.YtomhgoahhlnjpaaGreatDoor.Dk

/-! ### names in a list -/
def look : List S116 → ByteArray → Option Nat
  | [], _ => none
  | x :: l, a => if x.f0 = a then some x.f1.toNat else look l a
def upd (g : ByteArray → Option Nat) (a : ByteArray) (o : Option Nat) : ByteArray → Option Nat := fun b => if b = a then o else g b
theorem upd_same (g : ByteArray → Option Nat) (a : ByteArray) (o : Option Nat) : upd g a o a = o := by simp [upd]
theorem upd_other {g : ByteArray → Option Nat} {a b : ByteArray} {o : Option Nat} (h : b ≠ a) : upd g a o b = g b := by simp [upd, h]
theorem toList_iff {a b : ByteArray} : a.toList = b.toList ↔ a = b := by
  rw [ByteArray.toList_eq, ByteArray.toList_eq]
  exact ⟨fun h => Go.WideShapes.bytes_inj h, fun h => by rw [h]⟩
theorem toList_data (a : ByteArray) : a.toList = a.data.toList := ByteArray.toList_eq a
structure NOk (n : Nat) (l : List S116) : Prop where
  srt : l.Pairwise fun x y => x.f0.toList < y.f0.toList
  idx : ∀ x ∈ l, 0 ≤ x.f1 ∧ x.f1.toNat < n
  apart : l.Pairwise fun x y => x.f1 ≠ y.f1
theorem NOk.nil (n : Nat) : NOk n [] := ⟨.nil, fun _ h => (List.not_mem_nil h).elim, .nil⟩
theorem NOk.mono {n m : Nat} {l : List S116} (h : NOk n l) (hm : n ≤ m) : NOk m l := ⟨h.srt, fun x hx => ⟨(h.idx x hx).1, by have := (h.idx x hx).2; omega⟩, h.apart⟩
theorem findI_look : ∀ {n : Nat} {l : List S116} (_ : NOk n l) (a : ByteArray), findI l a = match look l a with | some j => (j : Int) | none => -1
  | _, [], _, _ => rfl
  | n, x :: l, h, a => by
    have hl : NOk n l := ⟨(List.pairwise_cons.1 h.srt).2, fun y hy => h.idx y (List.mem_cons_of_mem _ hy), (List.pairwise_cons.1 h.apart).2⟩
    unfold findI look
    by_cases e : x.f0 = a
    · rw [if_pos (toList_iff.2 e), if_pos e]
      have := (h.idx x (List.mem_cons_self ..)).1
      show x.f1 = ((x.f1.toNat : Nat) : Int)
      omega
    · rw [if_neg (fun h => e (toList_iff.1 h)), if_neg e]
      exact findI_look hl a
theorem look_mem : ∀ {l : List S116} {a : ByteArray} {j : Nat}, look l a = some j → ∃ x ∈ l, x.f0 = a ∧ x.f1.toNat = j
  | [], _, _, h => by cases h
  | x :: l, a, j, h => by
    unfold look at h
    split at h
    · rename_i e
      cases h
      exact ⟨x, List.mem_cons_self .., e, rfl⟩
    · obtain ⟨y, hy, h2⟩ := look_mem h
      exact ⟨y, List.mem_cons_of_mem _ hy, h2⟩
theorem look_of_mem : ∀ {l : List S116} {x : S116}, l.Pairwise (fun x y => x.f0.toList < y.f0.toList) → x ∈ l → look l x.f0 = some x.f1.toNat
  | [], _, _, h => by cases h
  | y :: l, x, hp, h => by
    unfold look
    rcases List.mem_cons.1 h with rfl | h
    · rw [if_pos rfl]
    · have h1 := (List.pairwise_cons.1 hp).1 x h
      rw [if_neg (fun e => by rw [e] at h1; exact absurd h1 (List.lt_irrefl _))]
      exact look_of_mem (List.pairwise_cons.1 hp).2 h
theorem look_none {l : List S116} {a : ByteArray} (h : look l a = none) : ∀ x ∈ l, x.f0 ≠ a := by
  induction l with
  | nil => intro x hx; cases hx
  | cons y l ih =>
    unfold look at h
    split at h
    · cases h
    · rename_i e
      intro x hx
      rcases List.mem_cons.1 hx with rfl | hx
      · exact e
      · exact ih h x hx
/-! without, with -/
theorem look_without (l : List S116) (a : ByteArray) : look (withoutL l a) = upd (look l) a none := by
  funext b
  induction l with
  | nil => simp [withoutL, look, upd]
  | cons x l ih =>
    unfold withoutL at ih ⊢
    by_cases e : x.f0 = a
    · rw [List.filter_cons_of_neg (by simp [e]), ih]
      unfold upd
      by_cases hb : b = a
      · rw [if_pos hb, if_pos hb]
      · rw [if_neg hb, if_neg hb, look, if_neg (fun h => hb (by rw [← h, e]))]
    · rw [List.filter_cons_of_pos (by simp [toList_iff, e])]
      unfold look
      by_cases hb : x.f0 = b
      · rw [if_pos hb]
        unfold upd
        rw [if_neg (fun h => e (by rw [hb, h])), look, if_pos hb]
      · rw [if_neg hb, ih]
        unfold upd
        split
        · rfl
        · rw [look, if_neg hb]
theorem ok_without {n : Nat} {l : List S116} (h : NOk n l) (a : ByteArray) : NOk n (withoutL l a) :=
  ⟨h.srt.filter _, fun x hx => h.idx x (List.mem_filter.1 hx).1, h.apart.filter _⟩
theorem without_ne {l : List S116} {a : ByteArray} : ∀ x ∈ withoutL l a, x.f0 ≠ a := fun x hx e => by
  have := (List.mem_filter.1 hx).2
  simp [e] at this
theorem mem_ins {l : List S116} {y x : S116} : x ∈ insL l y ↔ x = y ∨ x ∈ l := by
  induction l with
  | nil => simp [insL]
  | cons z l ih =>
    unfold insL
    split
    · simp only [List.mem_cons, ih]
      constructor
      · rintro (h | h | h)
        · exact .inr (.inl h)
        · exact .inl h
        · exact .inr (.inr h)
      · rintro (h | h | h)
        · exact .inr (.inl h)
        · exact .inl h
        · exact .inr (.inr h)
    · simp only [List.mem_cons]
theorem look_ins : ∀ {l : List S116} {y : S116}, (∀ x ∈ l, x.f0 ≠ y.f0) → look (insL l y) = upd (look l) y.f0 (some y.f1.toNat)
  | [], y, _ => by
    funext b
    simp only [insL, look, upd]
    by_cases h : b = y.f0
    · rw [if_pos h, if_pos h.symm]
    · rw [if_neg h, if_neg (fun e => h e.symm)]
  | x :: l, y, h => by
    funext b
    unfold insL
    split
    · show look (x :: insL l y) b = _
      rw [look, look_ins (fun z hz => h z (List.mem_cons_of_mem _ hz))]
      unfold upd
      by_cases hb : b = y.f0
      · rw [if_pos hb, if_pos hb, if_neg (fun e => h x (List.mem_cons_self ..) (by rw [e, hb]))]
      · rw [if_neg hb, if_neg hb, look]
    · show look (y :: x :: l) b = _
      rw [look]
      unfold upd
      by_cases hb : b = y.f0
      · rw [if_pos hb, if_pos hb.symm]
      · rw [if_neg hb, if_neg (fun e => hb e.symm)]
theorem look_with (l : List S116) (a : ByteArray) (n : Int) : look (withL l a n) = upd (look l) a (some n.toNat) := by
  unfold withL
  rw [look_ins (l := withoutL l a) (y := ⟨a, n⟩) without_ne, look_without]
  funext b
  unfold upd
  by_cases hb : b = a
  · rw [if_pos hb, if_pos hb]
  · rw [if_neg hb, if_neg hb, if_neg hb]
theorem blt_of_not {x y : ByteArray} (h : ¬ x.toList < y.toList) (hne : x ≠ y) : y.toList < x.toList := by
  by_cases h1 : y.toList < x.toList
  · exact h1
  · exact absurd (toList_iff.1 (List.le_antisymm (List.not_lt.1 h1) (List.not_lt.1 h))) hne
theorem srt_ins : ∀ {l : List S116} {y : S116}, l.Pairwise (fun x y => x.f0.toList < y.f0.toList) → (∀ x ∈ l, x.f0 ≠ y.f0) → (insL l y).Pairwise fun x y => x.f0.toList < y.f0.toList
  | [], y, _, _ => by simp [insL]
  | x :: l, y, hp, h => by
    have h1 := List.pairwise_cons.1 hp
    unfold insL
    split
    · rename_i hlt
      refine List.pairwise_cons.2 ⟨fun z hz => ?_, srt_ins h1.2 (fun z hz => h z (List.mem_cons_of_mem _ hz))⟩
      rcases mem_ins.1 hz with rfl | hz
      · exact hlt
      · exact h1.1 z hz
    · rename_i hlt
      have hyx := blt_of_not hlt (h x (List.mem_cons_self ..))
      refine List.pairwise_cons.2 ⟨fun z hz => ?_, hp⟩
      rcases List.mem_cons.1 hz with rfl | hz
      · exact hyx
      · exact List.lt_trans hyx (h1.1 z hz)
theorem apart_ins : ∀ {l : List S116} {y : S116}, l.Pairwise (fun x y => x.f1 ≠ y.f1) → (∀ x ∈ l, x.f1 ≠ y.f1) → (insL l y).Pairwise fun x y => x.f1 ≠ y.f1
  | [], y, _, _ => by simp [insL]
  | x :: l, y, hp, h => by
    have h1 := List.pairwise_cons.1 hp
    unfold insL
    split
    · refine List.pairwise_cons.2 ⟨fun z hz => ?_, apart_ins h1.2 (fun z hz => h z (List.mem_cons_of_mem _ hz))⟩
      rcases mem_ins.1 hz with rfl | hz
      · exact h x (List.mem_cons_self ..)
      · exact h1.1 z hz
    · refine List.pairwise_cons.2 ⟨fun z hz => ?_, hp⟩
      rcases List.mem_cons.1 hz with rfl | hz
      · exact fun e => h _ (List.mem_cons_self ..) e.symm
      · exact fun e => h z (List.mem_cons_of_mem _ hz) e.symm
theorem ok_with {n : Nat} {l : List S116} (h : NOk n l) (a : ByteArray) {f : Int} (h0 : 0 ≤ f) (hn : f.toNat < n) (hf : ∀ x ∈ l, x.f0 ≠ a → x.f1 ≠ f) : NOk n (withL l a f) := by
  have hw := ok_without h a
  refine ⟨srt_ins hw.srt without_ne, fun x hx => ?_, apart_ins hw.apart (fun x hx => hf x (List.mem_filter.1 hx).1 (without_ne x hx))⟩
  rcases mem_ins.1 hx with rfl | hx
  · exact ⟨h0, hn⟩
  · exact hw.idx x hx
theorem nodup_le : ∀ {n : Nat} {l : List Nat}, l.Nodup → (∀ x ∈ l, x < n) → l.length ≤ n
  | 0, [], _, _ => Nat.le_refl _
  | 0, x :: l, _, h => absurd (h x (List.mem_cons_self ..)) (Nat.not_lt_zero _)
  | n + 1, l, hn, h => by
    have h1 := nodup_le (n := n) (l := l.filter fun x => !decide (x = n)) (hn.filter _) (fun x hx => by
      obtain ⟨ha, hb⟩ := List.mem_filter.1 hx
      have := h x ha
      have hne : x ≠ n := by simpa using hb
      omega)
    have h2 : l.length ≤ (l.filter fun x => !decide (x = n)).length + 1 := by
      clear h1 h
      induction l with
      | nil => simp
      | cons y l ih =>
        have h3 := List.nodup_cons.1 hn
        by_cases e : y = n
        · rw [List.filter_cons_of_neg (by simp [e]), List.filter_eq_self.2 (fun x hx => by
            have : x ≠ n := fun e2 => h3.1 (by rw [e, ← e2]; exact hx)
            simpa using this)]
          simp
        · rw [List.filter_cons_of_pos (by simp [e])]
          have := ih h3.2
          simp only [List.length_cons]
          omega
    omega
theorem NOk.length {n : Nat} {l : List S116} (h : NOk n l) : l.length ≤ n := by
  have := nodup_le (n := n) (l := l.map fun x => x.f1.toNat) (List.pairwise_map.2 (h.apart.imp_of_mem fun {x y} hx hy hne e => hne (by have := (h.idx x hx).1; have := (h.idx y hy).1; omega))) (fun x hx => by
    obtain ⟨y, hy, rfl⟩ := List.mem_map.1 hx
    exact (h.idx y hy).2)
  simpa using this
theorem look_lt {n : Nat} {l : List S116} (h : NOk n l) {a : ByteArray} {j : Nat} (hj : look l a = some j) : j < n := by
  obtain ⟨x, hx, _, rfl⟩ := look_mem hj
  exact (h.idx x hx).2
theorem apart_eq : ∀ {l : List S116}, l.Pairwise (fun x y => x.f1 ≠ y.f1) → ∀ {x y : S116}, x ∈ l → y ∈ l → x.f1 = y.f1 → x = y
  | [], _, _, _, h, _, _ => by cases h
  | z :: l, hp, x, y, hx, hy, e => by
    have h1 := List.pairwise_cons.1 hp
    rcases List.mem_cons.1 hx with e1 | h2 <;> rcases List.mem_cons.1 hy with e2 | h3
    · rw [e1, e2]
    · exact absurd (by rw [← e1]; exact e) (h1.1 y h3)
    · exact absurd (by rw [← e2]; exact e.symm) (h1.1 x h2)
    · exact apart_eq h1.2 h2 h3 e
/-- no two names lead to one file -/
theorem look_inj {n : Nat} {l : List S116} (h : NOk n l) {a b : ByteArray} {j : Nat} (ha : look l a = some j) (hb : look l b = some j) : a = b := by
  obtain ⟨x, hx, rfl, e1⟩ := look_mem ha
  obtain ⟨y, hy, rfl, e2⟩ := look_mem hb
  rw [apart_eq h.apart hx hy (by have := (h.idx x hx).1; have := (h.idx y hy).1; omega)]

/-! ### names in a map -/
abbrev DW := DataW Unit
theorem keyL_inj {a b : ByteArray} (h : keyL a = keyL b) : a = b := Go.WideShapes.bytes_inj (by unfold keyL at h; injection h)
theorem key_is (a : ByteArray) : WideAt.IsKeyLit (keyL a) := trivial
structure Rep (D : DW) (g : ByteArray → Option Nat) : Prop where
  tidy : Tidy D
  strs : ∀ es, D = .map es → ∀ p ∈ es, ∃ x, p.1 = .string x
  find : ∀ a, refO (D.atKey (keyL a) .nil) = g a
  has : ∀ a, has D (keyL a) = (g a).isSome
theorem strs_put {D : DW} (h : ∀ es, D = .map es → ∀ p ∈ es, ∃ x, p.1 = .string x) (a : ByteArray) (d : DW) : ∀ es, D.put (keyL a) d = .map es → ∀ p ∈ es, ∃ x, p.1 = .string x := by
  intro es he p hp
  cases D with
  | map es0 =>
    have : es = DataW.insert (keyL a, d) (es0.filter fun p => !p.1.sameKey (keyL a)) := by
      have h9 : DataW.map (DataW.insert (keyL a, d) (es0.filter fun p => !p.1.sameKey (keyL a))) = .map es := he
      injection h9 with h9
      exact h9.symm
    subst this
    have hq : ∀ (l : List (Lit × DW)) (x : Lit × DW), p ∈ DataW.insert x l → p = x ∨ p ∈ l := by
      intro l x
      induction l with
      | nil => intro h; simpa [DataW.insert] using h
      | cons y l ih =>
        intro h
        unfold DataW.insert at h
        split at h
        · exact List.mem_cons.1 h
        · rcases List.mem_cons.1 h with h | h
          · exact .inr (by rw [h]; exact List.mem_cons_self ..)
          · rcases ih h with h | h
            · exact .inl h
            · exact .inr (List.mem_cons_of_mem _ h)
    rcases hq _ _ hp with h1 | h1
    · rw [h1]; exact ⟨_, rfl⟩
    · exact h es0 rfl p (List.mem_filter.1 h1).1
  | _ => first | (cases he; done) | exact absurd he (by simp [DataW.put])
theorem strs_del {D : DW} (h : ∀ es, D = .map es → ∀ p ∈ es, ∃ x, p.1 = .string x) (a : ByteArray) : ∀ es, D.del (keyL a) = .map es → ∀ p ∈ es, ∃ x, p.1 = .string x := by
  intro es he p hp
  cases D with
  | map es0 =>
    have : es = es0.filter fun p => !p.1.sameKey (keyL a) := by
      have h9 : DataW.map (es0.filter fun p => !p.1.sameKey (keyL a)) = .map es := he
      injection h9 with h9
      exact h9.symm
    subst this
    exact h es0 rfl p (List.mem_filter.1 hp).1
  | _ => first | (cases he; done) | exact absurd he (by simp [DataW.del])
theorem Rep.put {D : DW} {g : ByteArray → Option Nat} (h : Rep D g) (a : ByteArray) (i : Nat) : Rep (D.put (keyL a) (refD (some i))) (upd g a (some i)) :=
  { tidy := h.tidy.put (key_is a) _
    strs := strs_put h.strs a _
    find := fun b => by
      by_cases e : b = a
      · subst e
        rw [atKey_put_same h.tidy.isMap (key_is b), upd_same]
        exact refO_refD _
      · rw [atKey_put_other (fun e2 => e (keyL_inj e2)), upd_other e]
        exact h.find b
    has := fun b => by
      by_cases e : b = a
      · subst e
        rw [has_put_same h.tidy.isMap (key_is b), upd_same]
        rfl
      · rw [has_put_other (fun e2 => e (keyL_inj e2)), upd_other e]
        exact h.has b }
theorem Rep.del {D : DW} {g : ByteArray → Option Nat} (h : Rep D g) (a : ByteArray) : Rep (D.del (keyL a)) (upd g a none) :=
  { tidy := h.tidy.del _
    strs := strs_del h.strs a
    find := fun b => by
      by_cases e : b = a
      · subst e
        rw [atKey_del_same, upd_same]
        rfl
      · rw [atKey_del_other (fun e2 => e (keyL_inj e2)), upd_other e]
        exact h.find b
    has := fun b => by
      by_cases e : b = a
      · subst e
        rw [has_del_same, upd_same]
        rfl
      · rw [has_del_other (fun e2 => e (keyL_inj e2)), upd_other e]
        exact h.has b }
theorem Rep.empty : Rep (.map []) fun _ => none :=
  { tidy := tidy_empty
    strs := fun es he p hp => by cases he; cases hp
    find := fun _ => rfl
    has := fun _ => rfl }
/-- the names of the map, sorted, are the list's -/
theorem Rep.names {D : DW} {φ : Nat → Nat} {l : List S116} (h : Rep D fun a => (look l a).map φ) (hs : l.Pairwise fun x y => x.f0.toList < y.f0.toList) : (strKeys D).mergeSort leB = l.map fun x => x.f0.data.toList := by
  obtain ⟨es, rfl, hp⟩ := h.tidy
  have hnd : (l.map fun x => x.f0.data.toList).Nodup := by
    refine List.pairwise_map.2 (hs.imp fun {x y} hlt e => ?_)
    rw [toList_data, toList_data, e] at hlt
    exact absurd hlt (List.lt_irrefl _)
  have hperm : (l.map fun x => x.f0.data.toList).Perm (strKeys (.map es)) := perm_strKeys hp (h.strs es rfl) hnd (fun x => by
    have h1 := h.has ⟨x.toArray⟩
    have h2 : keyL ⟨x.toArray⟩ = .string x := rfl
    rw [h2] at h1
    rw [h1, Option.isSome_map]
    constructor
    · intro hx
      obtain ⟨y, hy, e⟩ := List.mem_map.1 hx
      have : y.f0 = ⟨x.toArray⟩ := Go.WideShapes.bytes_inj e
      rw [← this, look_of_mem hs hy]
      rfl
    · intro hx
      obtain ⟨j, hj⟩ := Option.isSome_iff_exists.1 hx
      obtain ⟨y, hy, e, _⟩ := look_mem hj
      exact List.mem_map.2 ⟨y, hy, by rw [e]⟩)
  rw [← mergeSort_of_perm hperm]
  refine List.mergeSort_of_pairwise (List.pairwise_map.2 (hs.imp fun {x y} hlt => ?_))
  rw [toList_data, toList_data] at hlt
  simp only [leB, decide_eq_true_eq]
  exact List.le_of_lt hlt
end Go.Proofs.YtomhgoahhlnjpaaGreatDoor.Rf

/- The two disks in plain Lean: how they are alike. -/
namespace Go.Proofs.YtomhgoahhlnjpaaGreatDoor.Rf
open Go.RowKit Go.Maps Go.Sort Go.Proofs.YtomhgoahhlnjpaaGreatDoorW.PrintWords Go.Proofs.YtomhgoahhlnjpaaGreatDoor.PRef Go.Proofs.YtomhgoahhlnjpaaGreatDoor.Dk

def mapG (φ : Nat → Nat) (g : ByteArray → Option Nat) : ByteArray → Option Nat := fun a => (g a).map φ
theorem mapG_upd (φ : Nat → Nat) (g : ByteArray → Option Nat) (a : ByteArray) (o : Option Nat) : mapG φ (upd g a o) = upd (mapG φ g) a (o.map φ) := by
  funext b
  unfold mapG upd
  split <;> rfl
theorem upd_upd (g : ByteArray → Option Nat) (a : ByteArray) (o p : Option Nat) : upd (upd g a o) a p = upd g a p := by
  funext b
  unfold upd
  split <;> rfl
theorem upd_self {g : ByteArray → Option Nat} {a : ByteArray} {o : Option Nat} (h : g a = o) : upd g a o = g := by
  funext b
  unfold upd
  split
  · rename_i e; rw [e, h]
  · rfl
theorem upd_comm {g : ByteArray → Option Nat} {a b : ByteArray} {o p : Option Nat} (h : a ≠ b) : upd (upd g a o) b p = upd (upd g b p) a o := by
  funext c
  unfold upd
  by_cases h1 : c = b
  · rw [if_pos h1, if_neg (fun e => h (by rw [← e, h1])), if_pos h1]
  · rw [if_neg h1]
    by_cases h2 : c = a
    · rw [if_pos h2, if_pos h2]
    · rw [if_neg h2, if_neg h2, if_neg h1]

/-! ### one change of names -/
def pathOf (φ : List Nat) : Nat → Nat := fun j => φ.getD j 0
/-- a change of the one is a change of the other, over the names N -/
def Pair (φ : List Nat) (N : List S116) (r : S114) (c : Chg) : Prop :=
  (r.f0 = 1 ∧ c = ⟨⟨#[]⟩, r.f1, none, 0⟩ ∧ look N r.f1 = none) ∨
  (r.f0 = 2 ∧ r.f1 ≠ r.f2 ∧ c = ⟨r.f1, r.f2, (look N r.f2).map (pathOf φ), 1⟩ ∧ look N r.f1 = some r.f3.toNat) ∨
  (r.f0 = 3 ∧ c = ⟨⟨#[]⟩, r.f1, (look N r.f1).map (pathOf φ), 2⟩ ∧ look N r.f1 ≠ none)
theorem look_done1 {N : List S116} {r : S114} (h : r.f0 = 1) : look (doneL N r) = upd (look N) r.f1 (some r.f3.toNat) := by
  unfold doneL
  rw [if_pos h, look_with]
theorem look_done2 {N : List S116} {r : S114} (h : r.f0 = 2) : look (doneL N r) = upd (upd (look N) r.f1 none) r.f2 (some r.f3.toNat) := by
  unfold doneL
  rw [if_neg (by omega), if_pos h, look_with, look_without]
theorem look_done3 {N : List S116} {r : S114} (h : r.f0 = 3) : look (doneL N r) = upd (look N) r.f1 none := by
  unfold doneL
  rw [if_neg (by omega), if_neg (by omega), look_without]
theorem Rep.eq {D : DW} {g g' : ByteArray → Option Nat} (h : Rep D g) (e : g = g') : Rep D g' := e ▸ h
/-- undone -/
theorem undo_rep {T : DS} {φ : List Nat} {N : List S116} {r : S114} {c : Chg} (h : Rep T.D (mapG (pathOf φ) (look (doneL N r)))) (hp : Pair φ N r c) : Rep (T.undo c).D (mapG (pathOf φ) (look N)) := by
  rcases hp with ⟨h0, rfl, hn⟩ | ⟨h0, hne, rfl, hn⟩ | ⟨h0, rfl, hn⟩
  · rw [look_done1 h0] at h
    refine (h.del r.f1).eq ?_
    rw [mapG_upd, upd_upd]
    exact upd_self (by unfold mapG; rw [hn]; rfl)
  · rw [look_done2 h0] at h
    have hb : T.find r.f2 = some (pathOf φ r.f3.toNat) := by
      have := h.find r.f2
      rw [mapG_upd, upd_same] at this
      exact this
    have h1 := h.put r.f1 (pathOf φ r.f3.toNat)
    have e1 : (T.undo1 ⟨r.f1, r.f2, (look N r.f2).map (pathOf φ), 1⟩).D = T.D.put (keyL r.f1) (refD (some (pathOf φ r.f3.toNat))) := by
      unfold DS.undo1
      rw [if_pos rfl, hb]
    have e2 : upd (mapG (pathOf φ) (upd (upd (look N) r.f1 none) r.f2 (some r.f3.toNat))) r.f1 (some (pathOf φ r.f3.toNat)) = upd (mapG (pathOf φ) (look N)) r.f2 (some (pathOf φ r.f3.toNat)) := by
      rw [mapG_upd, mapG_upd]
      rw [upd_comm (g := upd (mapG (pathOf φ) (look N)) r.f1 ((none : Option Nat).map (pathOf φ))) hne.symm, upd_upd]
      rw [upd_self (g := mapG (pathOf φ) (look N)) (a := r.f1) (by unfold mapG; rw [hn]; rfl)]
      rfl
    rw [e2, ← e1] at h1
    unfold DS.undo DS.undo2
    cases ho : look N r.f2 with
    | none =>
      refine Rep.eq (h1.del r.f2) ?_ |> fun q => by rw [ho] at q; exact q
      rw [upd_upd]
      exact upd_self (by unfold mapG; rw [ho]; rfl)
    | some i =>
      refine Rep.eq (h1.put r.f2 (pathOf φ i)) ?_ |> fun q => by rw [ho] at q; exact q
      rw [upd_upd]
      exact upd_self (by unfold mapG; rw [ho]; rfl)
  · rw [look_done3 h0] at h
    obtain ⟨i, hi⟩ := Option.ne_none_iff_exists'.1 hn
    rw [hi]
    refine (h.put r.f1 (pathOf φ i)).eq ?_
    rw [mapG_upd, upd_upd]
    exact upd_self (by unfold mapG; rw [hi]; rfl)
end Go.Proofs.YtomhgoahhlnjpaaGreatDoor.Rf

/- The two disks in plain Lean: a step, and what is alike behind it. -/
namespace Go.Proofs.YtomhgoahhlnjpaaGreatDoor.Rf
open Go.RowKit Go.Maps Go.Sort Go.Proofs.YtomhgoahhlnjpaaGreatDoorW.PrintWords Go.Proofs.YtomhgoahhlnjpaaGreatDoor.PRef Go.Proofs.YtomhgoahhlnjpaaGreatDoor.Dk

def toF (f : S40) : Fault := ⟨f.f0, f.f1, f.f2⟩
def laterF2 (m : Int) (l : List S40) : List Fault := (l.filter fun f => decide (m < f.f0)).map toF
structure FOk (l : List S40) : Prop where
  rise : l.Pairwise fun x y => x.f0 < y.f0
  fit : ∀ f ∈ l, 1 ≤ f.f1 ∧ f.f1 ≤ 3 ∧ 0 ≤ f.f2
theorem FOk.nil : FOk [] := ⟨.nil, fun _ h => (List.not_mem_nil h).elim⟩
theorem laterF2_ge (m : Int) (l : List S40) (h : ∀ f ∈ l, m < f.f0) : laterF2 m l = l.map toF := by
  unfold laterF2
  rw [List.filter_eq_self.2 (fun f hf => by simpa using h f hf)]
theorem stepF_none {l : List S40} {n : Int} (h : ∀ f ∈ l, f.f0 ≠ n) : stepF l n = (0, -1) := by
  induction l with
  | nil => rfl
  | cons x l ih =>
    unfold stepF
    rw [if_neg (h x (List.mem_cons_self ..))]
    exact ih (fun f hf => h f (List.mem_cons_of_mem _ hf))
/-- what a step finds -/
inductive Finds (m : Int) (l : List S40) : Prop
  | no (h1 : laterF2 m l = laterF2 (m + 1) l) (h2 : ∀ f ∈ laterF2 m l, m + 1 < f.s) (h3 : stepF l (m + 1) = (0, -1))
  | yes (x : S40) (h1 : laterF2 m l = toF x :: laterF2 (m + 1) l) (h2 : x.f0 = m + 1) (h3 : stepF l (m + 1) = if x.f1 = 3 then (23, -1) else if x.f1 = 2 then (22, x.f2) else (22, -1)) (h4 : x ∈ l)
theorem finds (m : Int) : ∀ (l : List S40), FOk l → Finds m l
  | [], _ => .no rfl (fun f hf => by cases hf) rfl
  | x :: l, h => by
    have hr := List.pairwise_cons.1 h.rise
    have hl : FOk l := ⟨hr.2, fun f hf => h.fit f (List.mem_cons_of_mem _ hf)⟩
    by_cases h1 : x.f0 ≤ m
    · have e1 : ∀ k, m ≤ k → laterF2 k (x :: l) = laterF2 k l := fun k hk => by
        unfold laterF2
        rw [List.filter_cons_of_neg (by simp; omega)]
      have e2 : stepF (x :: l) (m + 1) = stepF l (m + 1) := by rw [stepF, if_neg (by omega)]
      rcases finds m l hl with ⟨h1, h2, h3⟩ | ⟨y, h1, h2, h3, h4⟩
      · exact .no (by rw [e1 m (Int.le_refl _), e1 (m + 1) (by omega), h1]) (by rw [e1 m (Int.le_refl _)]; exact h2) (by rw [e2, h3])
      · exact .yes y (by rw [e1 m (Int.le_refl _), e1 (m + 1) (by omega), h1]) h2 (by rw [e2, h3]) (List.mem_cons_of_mem _ h4)
    · have a1 : laterF2 m (x :: l) = toF x :: l.map toF := by
        rw [laterF2_ge m _ (fun f hf => by
          rcases List.mem_cons.1 hf with rfl | hf
          · omega
          · have := hr.1 f hf; omega)]
        rfl
      by_cases h2 : x.f0 = m + 1
      · have a2 : laterF2 (m + 1) (x :: l) = l.map toF := by
          unfold laterF2
          rw [List.filter_cons_of_neg (by simp; omega), List.filter_eq_self.2 (fun f hf => by have := hr.1 f hf; simp; omega)]
        exact .yes x (by rw [a1, a2]) h2 (by rw [stepF, if_pos h2]) (List.mem_cons_self ..)
      · have a2 : laterF2 (m + 1) (x :: l) = toF x :: l.map toF := by
          rw [laterF2_ge (m + 1) _ (fun f hf => by
            rcases List.mem_cons.1 hf with rfl | hf
            · omega
            · have := hr.1 f hf; omega)]
          rfl
        refine .no (by rw [a1, a2]) (fun f hf => ?_) (stepF_none (fun f hf => ?_))
        · rw [a1] at hf
          rcases List.mem_cons.1 hf with rfl | hf
          · show m + 1 < x.f0; omega
          · obtain ⟨y, hy, rfl⟩ := List.mem_map.1 hf
            have := hr.1 y hy
            show m + 1 < y.f0; omega
        · rcases List.mem_cons.1 hf with rfl | hf
          · exact h2
          · have := hr.1 f hf; omega

structure Sim (S : DS) (R : RS) (φ : List Nat) : Prop where
  made : S.steps = R.made
  pos : 0 ≤ R.made
  plan : S.plan = laterF2 R.made R.faults
  good : FOk R.faults
  len : φ.length = R.files.length
  nodup : φ.Nodup
  file : ∀ (j : Nat) (x : S83), R.files[j]? = some x → S.fs[pathOf φ j]? = some (x.f0, x.f1)
  fok : ∀ x ∈ R.files, 0 ≤ x.f1 ∧ x.f1 ≤ (x.f0.size : Int)
  rep : Rep S.D (mapG (pathOf φ) (look R.now))
  now : R.now = nth R.last R.opn R.opn.length
  olen : S.opn.length = R.opn.length
  pair : ∀ (i : Nat) (r : S114) (c : Chg), R.opn[i]? = some r → S.opn[i]? = some c → Pair φ (nth R.last R.opn i) r c
  nok : ∀ i, NOk R.files.length (nth R.last R.opn i)

theorem Sim.nowOk {S : DS} {R : RS} {φ : List Nat} (h : Sim S R φ) : NOk R.files.length R.now := by rw [h.now]; exact h.nok _
theorem Sim.find {S : DS} {R : RS} {φ : List Nat} (h : Sim S R φ) (a : ByteArray) : S.find a = (look R.now a).map (pathOf φ) := h.rep.find a
/-- a step of both -/
theorem step_sim {S : DS} {R : RS} {φ : List Nat} (h : Sim S R φ) : Sim S.step.1 R.made1 φ ∧ S.step.1.D = S.D ∧ S.step.1.fs = S.fs ∧ S.step.1.opn = S.opn ∧ S.step.2.2 = (stepF R.faults (R.made + 1)).1 ∧
    ((stepF R.faults (R.made + 1)).1 ≠ 0 → ((S.step.2.1.k = 2 ∧ S.step.2.1.n = (stepF R.faults (R.made + 1)).2 ∧ 0 ≤ S.step.2.1.n) ∨ (S.step.2.1.k ≠ 2 ∧ (stepF R.faults (R.made + 1)).2 < 0))) := by
  have hpos := h.pos
  have hs : ∀ T : DS, T.steps = R.made + 1 → T.plan = laterF2 (R.made + 1) R.faults → T.D = S.D → T.fs = S.fs → T.opn = S.opn → Sim T R.made1 φ := fun T h1 h2 h3 h4 h5 =>
    { made := h1
      pos := by show 0 ≤ R.made + 1; omega
      plan := h2
      good := h.good
      len := h.len
      nodup := h.nodup
      file := fun j x hx => by rw [h4]; exact h.file j x hx
      fok := h.fok
      rep := by rw [h3]; exact h.rep
      now := h.now
      olen := by rw [h5]; exact h.olen
      pair := fun i r c hr hc => h.pair i r c hr (by rw [← h5]; exact hc)
      nok := h.nok }
  rcases finds R.made R.faults h.good with ⟨h1, h2, h3⟩ | ⟨x, h1, h2, h3, h4⟩
  · have hd : S.plan.dropWhile (fun f => decide (f.s < S.steps + 1)) = S.plan := by
      rw [h.plan, h.made]
      cases hl : laterF2 R.made R.faults with
      | nil => rfl
      | cons f r =>
        rw [List.dropWhile_cons_of_neg]
        have := h2 f (by rw [hl]; exact List.mem_cons_self ..)
        simp; omega
    have e : S.step = ({ S with steps := S.steps + 1, plan := laterF2 (R.made + 1) R.faults }, ⟨0, 0, 0⟩, 0) := by
      unfold DS.step
      rw [hd, h.plan, ← h1]
      cases hl : laterF2 R.made R.faults with
      | nil => rfl
      | cons f r =>
        have := h2 f (by rw [hl]; exact List.mem_cons_self ..)
        show (if f.s = S.steps + 1 then _ else _) = _
        rw [if_neg (by rw [h.made]; omega)]
    rw [e, h3]
    exact ⟨hs _ (by show S.steps + 1 = _; rw [h.made]) rfl rfl rfl rfl, rfl, rfl, rfl, rfl, fun q => absurd rfl q⟩
  · have hd : S.plan.dropWhile (fun f => decide (f.s < S.steps + 1)) = toF x :: laterF2 (R.made + 1) R.faults := by
      rw [h.plan, h.made, h1, List.dropWhile_cons_of_neg]
      show ¬ decide (x.f0 < R.made + 1) = true
      simp; omega
    have e : S.step = ({ S with steps := S.steps + 1, plan := laterF2 (R.made + 1) R.faults }, toF x, if x.f1 = 3 then 23 else 22) := by
      unfold DS.step
      rw [hd]
      show (if x.f0 = S.steps + 1 then _ else _) = _
      rw [if_pos (by rw [h.made]; exact h2)]
      rfl
    have hx := h.good.fit x h4
    rw [e, h3]
    refine ⟨hs _ (by show S.steps + 1 = _; rw [h.made]) rfl rfl rfl rfl, rfl, rfl, rfl, ?_, fun _ => ?_⟩
    · show (if x.f1 = 3 then (23 : Int) else 22) = _
      by_cases a : x.f1 = 3
      · rw [if_pos a, if_pos a]
      · rw [if_neg a, if_neg a]
        split <;> rfl
    · show (x.f1 = 2 ∧ x.f2 = _ ∧ 0 ≤ x.f2) ∨ (x.f1 ≠ 2 ∧ _)
      by_cases a : x.f1 = 3
      · rw [if_pos a]
        exact .inr ⟨by omega, by decide⟩
      · rw [if_neg a]
        by_cases b : x.f1 = 2
        · rw [if_pos b]
          exact .inl ⟨b, rfl, hx.2.2⟩
        · rw [if_neg b]
          exact .inr ⟨b, by decide⟩
end Go.Proofs.YtomhgoahhlnjpaaGreatDoor.Rf

/- The two disks in plain Lean: what each method does to what is alike. -/
namespace Go.Proofs.YtomhgoahhlnjpaaGreatDoor.Rf
open Go.RowKit Go.Maps Go.Sort Go.Proofs.YtomhgoahhlnjpaaGreatDoorW.PrintWords Go.Proofs.YtomhgoahhlnjpaaGreatDoor.PRef Go.Proofs.YtomhgoahhlnjpaaGreatDoor.Dk

variable {S T : DS} {R : RS} {φ : List Nat}
theorem path_get {j : Nat} (h : j < φ.length) : pathOf φ j = φ[j] := by
  unfold pathOf
  rw [List.getD_eq_getElem?_getD, List.getElem?_eq_getElem h]
  rfl
theorem path_inj (hn : φ.Nodup) {i j : Nat} (hi : i < φ.length) (hj : j < φ.length) (e : pathOf φ i = pathOf φ j) : i = j := by
  rw [path_get hi, path_get hj] at e
  have hq := List.pairwise_iff_getElem.1 hn
  rcases Nat.lt_trichotomy i j with q | q | q
  · exact absurd e (hq i j hi hj q)
  · exact q
  · exact absurd e.symm (hq j i hj hi q)
theorem path_app {j k : Nat} (h : j < φ.length) : pathOf (φ ++ [k]) j = pathOf φ j := by
  unfold pathOf
  rw [List.getD_eq_getElem?_getD, List.getD_eq_getElem?_getD, List.getElem?_append_left h]
theorem path_new {k : Nat} : pathOf (φ ++ [k]) φ.length = k := by
  unfold pathOf
  rw [List.getD_eq_getElem?_getD]
  simp
theorem Sim.lookLt (h : Sim S R φ) {a : ByteArray} {j : Nat} (hj : look R.now a = some j) : j < R.files.length := look_lt h.nowOk hj
theorem empty_iff (a : ByteArray) : a.toList.isEmpty = true ↔ a = ⟨#[]⟩ := by
  rw [toList_data]
  constructor
  · intro h
    exact Go.WideShapes.bytes_inj (by rw [List.isEmpty_iff.1 h])
  · rintro rfl
    rfl
/-- what is asked for -/
theorem asked_sim (h : Sim S R φ) (name : ByteArray) : S.known name = (R.askedR name).2 ∧ (S.known name = 0 → ∃ j x, look R.now name = some j ∧ findI R.now name = (j : Int) ∧ S.find name = some (pathOf φ j) ∧ R.files[j]? = some x ∧ S.fs[pathOf φ j]? = some (x.f0, x.f1) ∧ 0 ≤ x.f1 ∧ x.f1 ≤ (x.f0.size : Int)) := by
  unfold DS.known RS.askedR
  by_cases he : name.toList.isEmpty = true
  · rw [if_pos he, if_pos he]
    exact ⟨rfl, fun q => absurd q (by decide)⟩
  · rw [if_neg he, if_neg he, h.find, findI_look h.nowOk]
    cases hl : look R.now name with
    | none =>
      show (20 : Int) = (if (-1 : Int) < 0 then ((-1 : Int), (20 : Int)) else (-1, 0)).2 ∧ _
      exact ⟨rfl, fun q => absurd (show (20 : Int) = 0 from q) (by decide)⟩
    | some j =>
      have hj := h.lookLt hl
      have hx : R.files[j]? = some R.files[j] := List.getElem?_eq_getElem hj
      show (0 : Int) = (if (j : Int) < 0 then ((-1 : Int), (20 : Int)) else ((j : Int), 0)).2 ∧ _
      rw [if_neg (by omega)]
      exact ⟨rfl, fun _ => ⟨j, R.files[j], rfl, rfl, rfl, hx, h.file j _ hx, h.fok _ (List.getElem_mem hj)⟩⟩
theorem read_sim (h : Sim S R φ) (name : ByteArray) : S.read name = R.readR name := by
  obtain ⟨h1, h2⟩ := asked_sim h name
  unfold DS.read RS.readR
  rw [← h1]
  by_cases hk : S.known name = 0
  · obtain ⟨j, x, _, hj, hf, hx, hs, _⟩ := h2 hk
    rw [if_pos hk, if_pos hk, hf, hj, Int.toNat_natCast]
    simp only [List.getD_eq_getElem?_getD, hx, hs]
    rfl
  · rw [if_neg hk, if_neg hk]
/-- a file is set -/
theorem Sim.set (h : Sim T R φ) {j : Nat} {x : S83} (hx : R.files[j]? = some x) (b : ByteArray) (n : Int) (h0 : 0 ≤ n) (h1 : n ≤ (b.size : Int)) : Sim (T.setFile (pathOf φ j) (b, n)) { R with files := R.files.set j ⟨b, n⟩ } φ := by
  have hj := (List.getElem?_eq_some_iff.1 hx).1
  have hf := (List.getElem?_eq_some_iff.1 (h.file j x hx)).1
  exact
  { made := h.made
    pos := h.pos
    plan := h.plan
    good := h.good
    len := by rw [h.len, List.length_set]
    nodup := h.nodup
    file := fun k y hy => by
      show (T.fs.set (pathOf φ j) (b, n))[pathOf φ k]? = _
      by_cases e : k = j
      · subst e
        rw [List.getElem?_set_self hj] at hy
        cases hy
        rw [List.getElem?_set_self hf]
      · rw [List.getElem?_set_ne (Ne.symm e)] at hy
        have hk := (List.getElem?_eq_some_iff.1 hy).1
        rw [List.getElem?_set_ne (fun e2 => e (path_inj h.nodup (by rw [h.len]; exact hj) (by rw [h.len]; exact hk) e2).symm)]
        exact h.file k y hy
    fok := fun y hy => by
      rcases List.mem_or_eq_of_mem_set hy with hy | rfl
      · exact h.fok y hy
      · exact ⟨h0, h1⟩
    rep := h.rep
    now := h.now
    olen := h.olen
    pair := h.pair
    nok := fun i => by
      show NOk (R.files.set j ⟨b, n⟩).length _
      rw [List.length_set]; exact h.nok i }
/-- behind a step, where a name leads to a file -/
theorem at1_sim (h : Sim S R φ) (name : ByteArray) {k : DS → Nat → DS} {k' : RS → Nat → RS}
    (hk : ∀ j x, Sim S.step.1 R.made1 φ → look R.now name = some j → S.step.1.find name = some (pathOf φ j) → R.files[j]? = some x → S.step.1.fs[pathOf φ j]? = some (x.f0, x.f1) → 0 ≤ x.f1 → x.f1 ≤ (x.f0.size : Int) → Sim (k S.step.1 (pathOf φ j)) (k' R.made1 j) φ) :
    Sim (S.at1 name k).1 (R.at1 name k').1 φ ∧ (S.at1 name k).2 = (R.at1 name k').2 := by
  obtain ⟨h1, h2⟩ := asked_sim h name
  obtain ⟨s1, s2, s3, s4, s5, _⟩ := step_sim h
  unfold DS.at1 RS.at1
  rw [← h1, ← s5]
  by_cases hz : S.known name = 0
  · obtain ⟨j, x, hl, hj, hf, hx, hs, h0, h9⟩ := h2 hz
    rw [if_pos hz, if_pos hz]
    by_cases he : S.step.2.2 = 0
    · rw [if_pos he, if_pos he, hf, hj, Int.toNat_natCast]
      exact ⟨hk j x s1 hl (by rw [step_find]; exact hf) hx (by rw [s3]; exact hs) h0 h9, rfl⟩
    · rw [if_neg he, if_neg he]
      exact ⟨s1, rfl⟩
  · rw [if_neg hz, if_neg hz]
    exact ⟨h, rfl⟩
theorem fileAt_of {i : Nat} {f : ByteArray × Int} (h : T.fs[i]? = some f) : T.fileAt i = f := by
  unfold DS.fileAt
  rw [List.getD_eq_getElem?_getD, h]; rfl
theorem fileR_of {j : Nat} {x : S83} (h : R.files[j]? = some x) : R.fileR j = x := by
  unfold RS.fileR
  rw [List.getD_eq_getElem?_getD, h]; rfl
theorem sync_sim (h : Sim S R φ) (name : ByteArray) : Sim (S.sync name).1 (R.syncR name).1 φ ∧ (S.sync name).2 = (R.syncR name).2 :=
  at1_sim h name fun j x s1 hl hf hx hs h0 h9 => by
    rw [fileAt_of hs, fileR_of (R := R.made1) hx]
    exact s1.set hx x.f0 _ (Int.natCast_nonneg _) (Int.le_refl _)
theorem cut_sim (h : Sim S R φ) (name : ByteArray) (sz : Int) : Sim (S.cut name sz).1 (R.cutR name sz).1 φ ∧ (S.cut name sz).2 = (R.cutR name sz).2 :=
  at1_sim h name fun j x s1 hl hf hx hs h0 h9 => by
    rw [fileAt_of hs, fileR_of (R := R.made1) hx]
    dsimp only
    rw [show min (max sz 0) (x.f0.size : Int) = max 0 (min sz (x.f0.size : Int)) by omega]
    exact s1.set hx _ _ (by omega) (by rw [ByteArray.size_extract]; omega)
/-! names -/
theorem nth_app_le (last : List S116) (opn : List S114) (r : S114) {i : Nat} (h : i ≤ opn.length) : nth last (opn ++ [r]) i = nth last opn i := by
  unfold nth
  rw [List.take_append_of_le_length h]
theorem nth_all (last : List S116) (opn : List S114) {i : Nat} (h : opn.length ≤ i) : nth last opn i = nth last opn opn.length := by
  unfold nth
  rw [List.take_of_length_le h, List.take_length]
theorem nth_app_gt (last : List S116) (opn : List S114) (r : S114) {i : Nat} (h : opn.length < i) : nth last (opn ++ [r]) i = doneL (nth last opn opn.length) r := by
  unfold nth
  rw [List.take_of_length_le (by simp; omega), List.foldl_append, List.take_length]
  rfl
theorem Sim.turn (h : Sim T R φ) {r : S114} {c : Chg} {D : DW} {p : Nat} (hp : Pair φ R.now r c) (hr : Rep D (mapG (pathOf φ) (look (doneL R.now r)))) (hn : NOk R.files.length (doneL R.now r)) : Sim { T with D := D, opn := T.opn ++ [c], puts := p } (R.turnR r) φ :=
  { made := h.made
    pos := h.pos
    plan := h.plan
    good := h.good
    len := h.len
    nodup := h.nodup
    file := h.file
    fok := h.fok
    rep := hr
    now := by
      show doneL R.now r = nth R.last (R.opn ++ [r]) (R.opn ++ [r]).length
      rw [nth_app_gt _ _ _ (by simp), ← h.now]
    olen := by
      show (T.opn ++ [c]).length = (R.opn ++ [r]).length
      rw [List.length_append, List.length_append, h.olen]; rfl
    pair := fun i r' c' h1 h2 => by
      replace h1 : (R.opn ++ [r])[i]? = some r' := h1
      replace h2 : (T.opn ++ [c])[i]? = some c' := h2
      show Pair φ (nth R.last (R.opn ++ [r]) i) r' c'
      rcases Nat.lt_trichotomy i R.opn.length with q | q | q
      · rw [List.getElem?_append_left q] at h1
        rw [List.getElem?_append_left (by rw [h.olen]; exact q)] at h2
        rw [nth_app_le _ _ _ (Nat.le_of_lt q)]
        exact h.pair i r' c' h1 h2
      · subst q
        rw [List.getElem?_append_right (Nat.le_refl _), Nat.sub_self] at h1
        rw [List.getElem?_append_right (by rw [h.olen]; exact Nat.le_refl _), h.olen, Nat.sub_self] at h2
        cases h1
        cases h2
        rw [nth_app_le _ _ _ (Nat.le_refl _), ← h.now]
        exact hp
      · rw [List.getElem?_eq_none (by simp; omega)] at h1
        cases h1
    nok := fun i => by
      show NOk R.files.length (nth R.last (R.opn ++ [r]) i)
      by_cases q : i ≤ R.opn.length
      · rw [nth_app_le _ _ _ q]; exact h.nok i
      · rw [nth_app_gt _ _ _ (by omega), ← h.now]; exact hn }
theorem syncNames_sim (h : Sim S R φ) : Sim S.syncNames.1 R.syncNamesR.1 φ ∧ S.syncNames.2 = R.syncNamesR.2 := by
  obtain ⟨s1, s2, s3, s4, s5, _⟩ := step_sim h
  unfold DS.syncNames RS.syncNamesR
  rw [← s5]
  by_cases he : S.step.2.2 = 0
  · rw [if_pos he, if_pos he]
    exact ⟨{ s1 with
      now := rfl
      olen := rfl
      pair := fun i r c hr _ => by cases (show ([] : List S114)[i]? = some r from hr)
      nok := fun i => by
        show NOk _ (nth R.now [] i)
        unfold nth
        rw [List.take_nil]
        exact s1.nowOk }, rfl⟩
  · rw [if_neg he, if_neg he]
    exact ⟨s1, rfl⟩
end Go.Proofs.YtomhgoahhlnjpaaGreatDoor.Rf

/- The two disks in plain Lean: Write, Plan, Crash, New. -/
namespace Go.Proofs.YtomhgoahhlnjpaaGreatDoor.Rf
open Go.RowKit Go.Maps Go.Sort Go.Proofs.YtomhgoahhlnjpaaGreatDoorW.PrintWords Go.Proofs.YtomhgoahhlnjpaaGreatDoor.PRef Go.Proofs.YtomhgoahhlnjpaaGreatDoor.Dk

variable {S T : DS} {R : RS} {φ : List Nat}
theorem look_path {n : Nat} {N : List S116} (h : NOk n N) (hn : n ≤ φ.length) (k : Nat) : mapG (pathOf (φ ++ [k])) (look N) = mapG (pathOf φ) (look N) := by
  funext a
  unfold mapG
  cases hl : look N a with
  | none => rfl
  | some j =>
    have := look_lt h hl
    simp only [Option.map_some]
    rw [path_app (by omega)]
theorem Pair.more {n : Nat} {N : List S116} {r : S114} {c : Chg} (h : Pair φ N r c) (hN : NOk n N) (hn : n ≤ φ.length) (k : Nat) : Pair (φ ++ [k]) N r c := by
  have e : ∀ a, (look N a).map (pathOf (φ ++ [k])) = (look N a).map (pathOf φ) := fun a => congrFun (look_path hN hn k) a
  unfold Pair at h ⊢
  rw [e, e]
  exact h
theorem Sim.newFile (h : Sim T R φ) (b : ByteArray) : Sim { T with fs := T.fs ++ [(b, 0)] } { R with files := R.files ++ [⟨b, 0⟩] } (φ ++ [T.fs.length]) := by
  have hlt : ∀ j, j < φ.length → pathOf φ j < T.fs.length := fun j hj => by
    obtain ⟨x, hx⟩ : ∃ x, R.files[j]? = some x := ⟨_, List.getElem?_eq_getElem (by rw [← h.len]; exact hj)⟩
    exact (List.getElem?_eq_some_iff.1 (h.file j x hx)).1
  have hlen : (R.files ++ [(⟨b, 0⟩ : S83)]).length = R.files.length + 1 := by simp
  exact
  { made := h.made
    pos := h.pos
    plan := h.plan
    good := h.good
    len := by
      show (φ ++ [T.fs.length]).length = (R.files ++ [(⟨b, 0⟩ : S83)]).length
      rw [List.length_append, List.length_append, h.len]; rfl
    nodup := by
      refine List.nodup_append.2 ⟨h.nodup, by simp, fun x hx y hy => ?_⟩
      obtain rfl : y = T.fs.length := by simpa using hy
      obtain ⟨j, hj, e⟩ := List.mem_iff_getElem.1 hx
      have := hlt j hj
      rw [path_get hj, e] at this
      omega
    file := fun j x hx => by
      replace hx : (R.files ++ [(⟨b, 0⟩ : S83)])[j]? = some x := hx
      show (T.fs ++ [(b, 0)])[pathOf (φ ++ [T.fs.length]) j]? = _
      by_cases q : j < R.files.length
      · rw [List.getElem?_append_left q] at hx
        rw [path_app (by rw [h.len]; exact q), List.getElem?_append_left (hlt j (by rw [h.len]; exact q))]
        exact h.file j x hx
      · have hj := (List.getElem?_eq_some_iff.1 hx).1
        obtain rfl : j = φ.length := by rw [hlen] at hj; rw [h.len]; omega
        rw [path_new]
        rw [List.getElem?_append_right (by rw [h.len]; exact Nat.le_refl _), h.len, Nat.sub_self] at hx
        cases hx
        simp
    fok := fun x hx => by
      rcases List.mem_append.1 hx with hx | hx
      · exact h.fok x hx
      · obtain rfl : x = ⟨b, 0⟩ := by simpa using hx
        exact ⟨Int.le_refl _, Int.natCast_nonneg _⟩
    rep := by
      show Rep T.D (mapG (pathOf (φ ++ [T.fs.length])) (look R.now))
      rw [look_path h.nowOk (by rw [h.len]; exact Nat.le_refl _)]
      exact h.rep
    now := h.now
    olen := h.olen
    pair := fun i r c h1 h2 => (h.pair i r c h1 h2).more (h.nok i) (by rw [h.len]; exact Nat.le_refl _) _
    nok := fun i => (h.nok i).mono (by show R.files.length ≤ (R.files ++ [(⟨b, 0⟩ : S83)]).length; omega) }
theorem lay_sim (h : Sim T R φ) (name s : ByteArray) : ∃ φ', Sim (T.lay name s) (R.layR name s) φ' := by
  unfold DS.lay RS.layR
  rw [h.find name, findI_look h.nowOk]
  cases hl : look R.now name with
  | some j =>
    have hj := h.lookLt hl
    have hx : R.files[j]? = some R.files[j] := List.getElem?_eq_getElem hj
    refine ⟨φ, ?_⟩
    show Sim (T.setFile (pathOf φ j) _) (if (j : Int) < 0 then _ else _) φ
    rw [if_neg (by omega), fileAt_of (h.file j _ hx)]
    unfold RS.putR
    show Sim _ { R with files := R.files.set ((j : Int)).toNat ⟨(R.fileR ((j : Int)).toNat).f0 ++ s, (R.fileR ((j : Int)).toNat).f1⟩ } φ
    rw [Int.toNat_natCast, fileR_of hx]
    have hf := h.fok _ (List.getElem_mem hj)
    exact h.set hx _ _ hf.1 (by rw [ByteArray.size_append]; dsimp only; omega)
  | none =>
    refine ⟨φ ++ [T.fs.length], ?_⟩
    have h1 := h.newFile ⟨#[]⟩
    have hR : { R with files := R.files ++ [(⟨⟨#[]⟩, 0⟩ : S83)] }.files.length = R.files.length + 1 := by simp
    have hp : pathOf (φ ++ [T.fs.length]) R.files.length = T.fs.length := by rw [← h.len, path_new]
    have h2 : Sim { T with D := T.D.put (keyL name) (refD (some T.fs.length)), puts := T.puts + 1, fs := T.fs ++ [(⟨#[]⟩, 0)], opn := T.opn ++ [⟨⟨#[]⟩, name, none, 0⟩] } (RS.turnR { R with files := R.files ++ [⟨⟨#[]⟩, 0⟩] } (mk90 1 name ⟨#[]⟩ (R.files.length : Int))) (φ ++ [T.fs.length]) := by
      refine h1.turn (r := mk90 1 name ⟨#[]⟩ (R.files.length : Int)) (.inl ⟨rfl, rfl, hl⟩) ?_ ?_
      · rw [look_done1 rfl, mapG_upd]
        show Rep _ (upd _ name (some (pathOf (φ ++ [T.fs.length]) ((R.files.length : Int)).toNat)))
        rw [Int.toNat_natCast, hp]
        exact h1.rep.put name T.fs.length
      · show NOk _ (doneL R.now (mk90 1 name ⟨#[]⟩ (R.files.length : Int)))
        unfold doneL mk90
        refine ok_with h1.nowOk name (Int.natCast_nonneg _) (by rw [Int.toNat_natCast, hR]; omega) (fun y hy _ e => ?_)
        have e' : y.f1 = (R.files.length : Int) := e
        have := (h.nowOk.idx y hy).2
        rw [e', Int.toNat_natCast] at this
        exact absurd this (Nat.lt_irrefl _)
    have hx : (RS.turnR { R with files := R.files ++ [⟨⟨#[]⟩, 0⟩] } (mk90 1 name ⟨#[]⟩ (R.files.length : Int))).files[R.files.length]? = some ⟨⟨#[]⟩, 0⟩ := by
      show (R.files ++ [(⟨⟨#[]⟩, 0⟩ : S83)])[R.files.length]? = _
      simp
    have h3 := h2.set hx ((⟨#[]⟩ : ByteArray) ++ s) 0 (Int.le_refl _) (Int.natCast_nonneg _)
    rw [hp] at h3
    have e1 : (T.fs ++ [((⟨#[]⟩ : ByteArray), (0 : Int))]).set T.fs.length ((⟨#[]⟩ : ByteArray) ++ s, 0) = T.fs ++ [((⟨#[]⟩ : ByteArray) ++ s, 0)] := by simp
    unfold DS.setFile at h3
    dsimp only at h3
    rw [e1] at h3
    show Sim _ (if (-1 : Int) < 0 then _ else _) _
    rw [if_pos (by decide)]
    unfold RS.putR
    rw [fileR_of hx]
    exact h3
theorem cutS_size (s : ByteArray) {n : Int} (h : 0 ≤ n) : ((cutS s n).size : Int) = min n (s.size : Int) := by
  unfold cutS
  rw [ByteArray.size_extract]
  omega
theorem write_sim (h : Sim S R φ) (name s : ByteArray) : ∃ φ', Sim (S.write name s).1 (R.writeR name s).1 φ' ∧ (S.write name s).2 = (R.writeR name s).2 := by
  obtain ⟨s1, s2, s3, s4, s5, s6⟩ := step_sim h
  unfold DS.write RS.writeR
  rw [← s5] at s6 ⊢
  by_cases he : name.toList.isEmpty = true
  · rw [if_pos he, if_pos he]
    exact ⟨φ, h, rfl⟩
  · rw [if_neg he, if_neg he]
    by_cases hz : S.step.2.2 = 0
    · rw [if_pos hz, if_pos hz]
      obtain ⟨φ', h'⟩ := lay_sim s1 name s
      exact ⟨φ', h', rfl⟩
    · rw [if_neg hz, if_neg hz]
      rcases s6 hz with ⟨a, b, c⟩ | ⟨a, b⟩
      · rw [if_pos a, ← b, if_neg (by omega), ← cutS_size s c]
        obtain ⟨φ', h'⟩ := lay_sim s1 name (cutS s S.step.2.1.n)
        exact ⟨φ', h', rfl⟩
      · rw [if_neg a, if_pos b]
        exact ⟨φ, s1, rfl⟩
/-! Plan -/
theorem bad_alike (last : Int) (f : S40) : faultBad last (toF f) = faultBadR last f := rfl
theorem planOk_alike : ∀ (l : List S40) (last : Int), planOk last (l.map toF) = planOkR last l
  | [], _ => rfl
  | f :: l, last => by
    show (!faultBad last (toF f) && planOk f.f0 (l.map toF)) = _
    rw [bad_alike, planOk_alike l, planOkR]
    cases faultBadR last f <;> rfl
theorem planOkR_ok : ∀ (l : List S40) (last : Int), planOkR last l = true → FOk l ∧ ∀ f ∈ l, last < f.f0
  | [], _, _ => ⟨.nil, fun _ h => (List.not_mem_nil h).elim⟩
  | f :: l, last, h => by
    unfold planOkR at h
    split at h
    · cases h
    · rename_i hb
      obtain ⟨h1, h2⟩ := planOkR_ok l f.f0 h
      have hb' : ¬ (f.f0 ≤ last) ∧ ¬ (f.f1 < 1) ∧ ¬ (3 < f.f1) ∧ ¬ (f.f2 < 0) := by
        unfold faultBadR at hb
        simp only [Bool.or_eq_true, decide_eq_true_eq, not_or] at hb
        exact ⟨hb.1.1.1.1, hb.1.1.1.2, hb.1.1.2, hb.1.2⟩
      refine ⟨⟨List.pairwise_cons.2 ⟨h2, h1.rise⟩, fun g hg => ?_⟩, fun g hg => ?_⟩
      · rcases List.mem_cons.1 hg with rfl | hg
        · omega
        · exact h1.fit g hg
      · rcases List.mem_cons.1 hg with rfl | hg
        · omega
        · have := h2 g hg; omega
theorem plan_sim (h : Sim S R φ) (l : List S40) : Sim (S.planned (l.map toF)).1 (R.planR l).1 φ ∧ (S.planned (l.map toF)).2 = (R.planR l).2 := by
  unfold DS.planned RS.planR
  rw [List.length_map, planOk_alike, h.made]
  by_cases hl : 4096 < l.length
  · rw [if_pos hl, if_pos hl]
    exact ⟨h, rfl⟩
  · rw [if_neg hl, if_neg hl]
    by_cases hp : planOkR R.made l = true
    · rw [if_pos hp, if_pos hp]
      obtain ⟨h1, h2⟩ := planOkR_ok l R.made hp
      exact ⟨{ h with
        made := rfl
        plan := (laterF2_ge R.made l h2).symm
        good := h1 }, rfl⟩
    · rw [if_neg hp, if_neg hp]
      exact ⟨h, rfl⟩
end Go.Proofs.YtomhgoahhlnjpaaGreatDoor.Rf
