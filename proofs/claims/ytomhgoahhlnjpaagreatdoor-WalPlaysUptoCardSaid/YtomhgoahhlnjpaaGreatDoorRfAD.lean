/- Several texts in one. -/
import Derived.Test.YtomhgoahhlnjpaaGreatDoorDkP
import Derived.Test.YtomhgoahhlnjpaaGreatDoorPRefx2
/- The document's own disk in memory: what it is, and how it moves. -/
namespace Go.Proofs.YtomhgoahhlnjpaaGreatDoor.Rf
open Go.RowKit Go.Proofs.YtomhgoahhlnjpaaGreatDoorW.PrintWords Go.Proofs.YtomhgoahhlnjpaaGreatDoor.PRef Go.Proofs.YtomhgoahhlnjpaaGreatDoor.Dk

structure RS where
  files : List S83
  now : List S116
  last : List S116
  opn : List S114
  faults : List S40
  made : Int
/-- the disk in block m -/
structure RAt (own : Nat → Prop) (w : World) (m : Nat) (R : RS) (v0 v1 v2 v3 v4 : Value) : Prop where
  blk : w.heap[m]? = some (.cells #[v0, v1, v2, v3, v4, .int .i64 R.made] 32 (0, 0))
  files : Kd.R k83 83 w 0 own v0 R.files
  now : Kd.R k116 116 w 0 own v1 R.now
  last : Kd.R k116 116 w 0 own v2 R.last
  opn : Kd.R k114 114 w 0 own v3 R.opn
  faults : Kd.R k40 40 w 0 own v4 R.faults
  ownm : own m
  bnd : ∀ k, own k → k < w.heap.size

variable {own : Nat → Prop} {w w' : World} {m : Nat} {R : RS} {v0 v1 v2 v3 v4 : Value}
theorem RAt.cells (h : RAt own w m R v0 v1 v2 v3 v4) :
    w.cell? ⟨m, 0, none⟩ = some v0 ∧ w.cell? ⟨m, 1, none⟩ = some v1 ∧ w.cell? ⟨m, 2, none⟩ = some v2 ∧ w.cell? ⟨m, 3, none⟩ = some v3 ∧ w.cell? ⟨m, 4, none⟩ = some v4 ∧ w.cell? ⟨m, 5, none⟩ = some (.int .i64 R.made) :=
  ⟨blk_cell h.blk 0, blk_cell h.blk 1, blk_cell h.blk 2, blk_cell h.blk 3, blk_cell h.blk 4, blk_cell h.blk 5⟩
theorem RAt.frozen (h : RAt own w m R v0 v1 v2 v3 v4) (j : Nat) : w.frozen? ⟨m, j, none⟩ = false := blk_frozen h.blk j
theorem RAt.lt (h : RAt own w m R v0 v1 v2 v3 v4) : m < w.heap.size := blk_lt h.blk
theorem RAt.move (h : RAt own w m R v0 v1 v2 v3 v4) (hs : w.heap.size ≤ w'.heap.size) (hb : ∀ k, own k → w'.heap[k]? = w.heap[k]?) : RAt own w' m R v0 v1 v2 v3 v4 :=
  { blk := (hb m h.ownm).trans h.blk
    files := Kd.R_move h.files hb
    now := Kd.R_move h.now hb
    last := Kd.R_move h.last hb
    opn := Kd.R_move h.opn hb
    faults := Kd.R_move h.faults hb
    ownm := h.ownm
    bnd := fun k hk => Nat.lt_of_lt_of_le (h.bnd k hk) hs }
theorem RAt.kept {S : Nat → Prop} (h : RAt own w m R v0 v1 v2 v3 v4) (hk : Kept S w w') (hd : ∀ k, own k → ¬ S k) : RAt own w' m R v0 v1 v2 v3 v4 :=
  h.move hk.size (fun k ho => hk.block k (h.bnd k ho) (hd k ho))
theorem RAt.below (h : RAt own w m R v0 v1 v2 v3 v4) (hb : Below w.heap.size w w') : RAt own w' m R v0 v1 v2 v3 v4 :=
  h.move hb.size (fun k ho => hb.block k (h.bnd k ho))
theorem RAt.drewN (h : RAt own w m R v0 v1 v2 v3 v4) (n : Nat) : RAt own (w.drewN n) m R v0 v1 v2 v3 v4 := h.move (Nat.le_refl _) (fun _ _ => rfl)
theorem RAt.drew (h : RAt own w m R v0 v1 v2 v3 v4) : RAt own w.drew m R v0 v1 v2 v3 v4 := h.move (Nat.le_refl _) (fun _ _ => rfl)
theorem RAt.wider {own' : Nat → Prop} (h : RAt own w m R v0 v1 v2 v3 v4) (ho : ∀ k, own k → own' k) (hb : ∀ k, own' k → k < w.heap.size) : RAt own' w m R v0 v1 v2 v3 v4 :=
  { blk := h.blk
    files := Kd.R_mono h.files ho
    now := Kd.R_mono h.now ho
    last := Kd.R_mono h.last ho
    opn := Kd.R_mono h.opn ho
    faults := Kd.R_mono h.faults ho
    ownm := ho m h.ownm
    bnd := hb }
theorem RAt.more (h : RAt own w m R v0 v1 v2 v3 v4) {wa : World} : RAt (Dk.more own wa w) w m R v0 v1 v2 v3 v4 :=
  h.wider (fun _ ho => .inl ho) (fun k hq => by
    rcases hq with hq | hq
    · exact h.bnd k hq
    · exact hq.2)
theorem RAt.lift {own1 : Nat → Prop} {wa : World} (h : RAt own1 w m R v0 v1 v2 v3 v4) (ho : ∀ k, own1 k → own k ∨ wa.heap.size ≤ k) (hb : ∀ k, own k → k < w.heap.size) : RAt (Dk.more own wa w) w m R v0 v1 v2 v3 v4 :=
  h.wider (fun k hk => by
    rcases ho k hk with hq | hq
    · exact .inl hq
    · exact .inr ⟨hq, h.bnd k hk⟩) (fun k hq => by
    rcases hq with hq | hq
    · exact hb k hq
    · exact hq.2)
theorem kdrewN {S : Nat → Prop} {a : World} (h : Kept S a w) (n : Nat) : Kept S a (w.drewN n) := ⟨h.os, h.tape, h.output, h.size, h.block⟩
theorem kbelow {S : Nat → Prop} {a : World} (h : Kept S a w) (hb : Below w.heap.size w w') : Kept S a w' :=
  ⟨hb.os.trans h.os, hb.tape.trans h.tape, hb.output.trans h.output, Nat.le_trans h.size hb.size, fun k hk hn => (hb.block k (Nat.lt_of_lt_of_le hk h.size)).trans (h.block k hk hn)⟩
/-- a field of the disk's own is set -/
theorem RAt.setMade (h : RAt own w m R v0 v1 v2 v3 v4) (x : Int) : RAt own (w.setCell ⟨m, 5, none⟩ (.int .i64 x)) m { R with made := x } v0 v1 v2 v3 v4 :=
  { blk := by rw [blk_set h.blk]; rfl
    files := Kd.R_set h.files h.blk (by decide) _ _
    now := Kd.R_set h.now h.blk (by decide) _ _
    last := Kd.R_set h.last h.blk (by decide) _ _
    opn := Kd.R_set h.opn h.blk (by decide) _ _
    faults := Kd.R_set h.faults h.blk (by decide) _ _
    ownm := h.ownm
    bnd := fun k hk => by rw [size_set]; exact h.bnd k hk }
theorem RAt.setNow (h : RAt own w m R v0 v1 v2 v3 v4) {v : Value} {l : List S116} (hl : Kd.R k116 116 w 0 own v l) : RAt own (w.setCell ⟨m, 1, none⟩ v) m { R with now := l } v0 v v2 v3 v4 :=
  { blk := by rw [blk_set h.blk]; rfl
    files := Kd.R_set h.files h.blk (by decide) _ _
    now := Kd.R_set hl h.blk (by decide) _ _
    last := Kd.R_set h.last h.blk (by decide) _ _
    opn := Kd.R_set h.opn h.blk (by decide) _ _
    faults := Kd.R_set h.faults h.blk (by decide) _ _
    ownm := h.ownm
    bnd := fun k hk => by rw [size_set]; exact h.bnd k hk }
theorem RAt.setLast (h : RAt own w m R v0 v1 v2 v3 v4) {v : Value} {l : List S116} (hl : Kd.R k116 116 w 0 own v l) : RAt own (w.setCell ⟨m, 2, none⟩ v) m { R with last := l } v0 v1 v v3 v4 :=
  { blk := by rw [blk_set h.blk]; rfl
    files := Kd.R_set h.files h.blk (by decide) _ _
    now := Kd.R_set h.now h.blk (by decide) _ _
    last := Kd.R_set hl h.blk (by decide) _ _
    opn := Kd.R_set h.opn h.blk (by decide) _ _
    faults := Kd.R_set h.faults h.blk (by decide) _ _
    ownm := h.ownm
    bnd := fun k hk => by rw [size_set]; exact h.bnd k hk }
theorem RAt.setOpn (h : RAt own w m R v0 v1 v2 v3 v4) {v : Value} {l : List S114} (hl : Kd.R k114 114 w 0 own v l) : RAt own (w.setCell ⟨m, 3, none⟩ v) m { R with opn := l } v0 v1 v2 v v4 :=
  { blk := by rw [blk_set h.blk]; rfl
    files := Kd.R_set h.files h.blk (by decide) _ _
    now := Kd.R_set h.now h.blk (by decide) _ _
    last := Kd.R_set h.last h.blk (by decide) _ _
    opn := Kd.R_set hl h.blk (by decide) _ _
    faults := Kd.R_set h.faults h.blk (by decide) _ _
    ownm := h.ownm
    bnd := fun k hk => by rw [size_set]; exact h.bnd k hk }
theorem RAt.setFaults (h : RAt own w m R v0 v1 v2 v3 v4) {v : Value} {l : List S40} (hl : Kd.R k40 40 w 0 own v l) : RAt own (w.setCell ⟨m, 4, none⟩ v) m { R with faults := l } v0 v1 v2 v3 v :=
  { blk := by rw [blk_set h.blk]; rfl
    files := Kd.R_set h.files h.blk (by decide) _ _
    now := Kd.R_set h.now h.blk (by decide) _ _
    last := Kd.R_set h.last h.blk (by decide) _ _
    opn := Kd.R_set h.opn h.blk (by decide) _ _
    faults := Kd.R_set hl h.blk (by decide) _ _
    ownm := h.ownm
    bnd := fun k hk => by rw [size_set]; exact h.bnd k hk }
theorem RAt.setFiles (h : RAt own w m R v0 v1 v2 v3 v4) {v : Value} {l : List S83} (hl : Kd.R k83 83 w 0 own v l) : RAt own (w.setCell ⟨m, 0, none⟩ v) m { R with files := l } v v1 v2 v3 v4 :=
  { blk := by rw [blk_set h.blk]; rfl
    files := Kd.R_set hl h.blk (by decide) _ _
    now := Kd.R_set h.now h.blk (by decide) _ _
    last := Kd.R_set h.last h.blk (by decide) _ _
    opn := Kd.R_set h.opn h.blk (by decide) _ _
    faults := Kd.R_set h.faults h.blk (by decide) _ _
    ownm := h.ownm
    bnd := fun k hk => by rw [size_set]; exact h.bnd k hk }

/-! ### a file, in its place -/
def fileW (f : S83) : List Value := [.string f.f0, .int .i64 f.f1]
theorem flat_len (l : List S83) : (l.flatMap fileW).length = l.length * 2 := by
  induction l with
  | nil => rfl
  | cons a l ih => rw [List.flatMap_cons, List.length_append, ih]; simp [fileW]; omega
theorem flat_of {base : Nat} {ok : Nat → Prop} : ∀ {l : List S83} {inner : List Value}, Reps (k83.M w base ok) 2 l inner → inner = l.flatMap fileW := by
  intro l
  induction l with
  | nil => intro inner h; have := h.1; simp at this; simpa using this
  | cons a l ih =>
    intro inner h
    have h1 := k83_openM (h.2 0 a rfl)
    have h2 : inner.drop 2 = l.flatMap fileW := ih ⟨by rw [List.length_drop, h.1]; simp; omega, fun j p hj => by
      have := h.2 (j + 1) p (by simpa using hj)
      rw [List.drop_drop]
      have e : 2 + j * 2 = (j + 1) * 2 := by omega
      rw [e]
      exact this⟩
    rw [List.flatMap_cons, ← h2]
    simp only [Nat.zero_mul, List.drop_zero] at h1
    show inner = fileW a ++ _
    rw [show fileW a = inner.take 2 from h1.symm, List.take_append_drop]
theorem reps_flat (base : Nat) (ok : Nat → Prop) (l : List S83) : Reps (k83.M w base ok) 2 l (l.flatMap fileW) := by
  induction l with
  | nil => exact Reps.none _ _
  | cons a l ih =>
    refine ⟨by rw [flat_len], fun j p hj => ?_⟩
    cases j with
    | zero =>
      obtain rfl : a = p := by simpa using hj
      rw [List.flatMap_cons]
      exact k83_mkM w base ok a
    | succ j =>
      have := ih.2 j p (by simpa using hj)
      rw [List.flatMap_cons]
      have e : (j + 1) * 2 = (fileW a).length + j * 2 := by show (j + 1) * 2 = 2 + j * 2; omega
      rw [e, List.drop_append, List.drop_eq_nil_of_le (by omega), Nat.add_sub_cancel_left, List.nil_append]
      exact this
theorem flat_set0 (s : ByteArray) : ∀ (l : List S83) (j : Nat) (x : S83), l[j]? = some x → (l.flatMap fileW).set (j * 2) (.string s) = (l.set j ⟨s, x.f1⟩).flatMap fileW
  | [], _, _, h => by simp at h
  | a :: l, 0, x, h => by
    obtain rfl : a = x := by simpa using h
    rfl
  | a :: l, j + 1, x, h => by
    have := flat_set0 s l j x (by simpa using h)
    rw [List.set_cons_succ, List.flatMap_cons, List.flatMap_cons, ← this, show (j + 1) * 2 = j * 2 + 1 + 1 by omega]
    rfl
theorem flat_set1 (n : Int) : ∀ (l : List S83) (j : Nat) (x : S83), l[j]? = some x → (l.flatMap fileW).set (j * 2 + 1) (.int .i64 n) = (l.set j ⟨x.f0, n⟩).flatMap fileW
  | [], _, _, h => by simp at h
  | a :: l, 0, x, h => by
    obtain rfl : a = x := by simpa using h
    rfl
  | a :: l, j + 1, x, h => by
    have := flat_set1 n l j x (by simpa using h)
    rw [List.set_cons_succ, List.flatMap_cons, List.flatMap_cons, ← this, show (j + 1) * 2 + 1 = j * 2 + 1 + 1 + 1 by omega]
    rfl
theorem flat_get : ∀ (l : List S83) (j : Nat) (x : S83), l[j]? = some x → (l.flatMap fileW)[j * 2]? = some (.string x.f0) ∧ (l.flatMap fileW)[j * 2 + 1]? = some (.int .i64 x.f1)
  | [], _, _, h => by simp at h
  | a :: l, 0, x, h => by
    obtain rfl : a = x := by simpa using h
    exact ⟨rfl, rfl⟩
  | a :: l, j + 1, x, h => by
    have := flat_get l j x (by simpa using h)
    rw [List.flatMap_cons, show (j + 1) * 2 = j * 2 + 1 + 1 by omega]
    exact this
theorem file_at {base : Nat} {ok : Nat → Prop} {l : List S83} {v : Value} (h : Kd.R k83 83 w base ok v l) {j : Nat} {x : S83} (hx : l[j]? = some x) :
    ∃ g c cs, v = .slice (some ⟨g, 0, none⟩) l.length c ∧ w.heap[g]? = some (.cells cs 83 (0, 0)) ∧ ok g ∧ w.cell? ⟨g, j * 2, none⟩ = some (.string x.f0) ∧ w.cell? ⟨g, j * 2 + 1, none⟩ = some (.int .i64 x.f1) ∧ w.frozen? ⟨g, j * 2, none⟩ = false ∧ w.frozen? ⟨g, j * 2 + 1, none⟩ = false := by
  have hlt := (List.getElem?_eq_some_iff.1 hx).1
  obtain ⟨h0, inner, ho, hr⟩ := h
  have hin := flat_of hr
  subst hin
  rcases ho.2 with ⟨_, h9⟩ | ⟨g, cap, cur, rfl, hb, hg, _⟩
  · omega
  · have hc := flat_get l j x hx
    refine ⟨g, cap, cur, rfl, hg, h0 g rfl, ?_, ?_, ho.frozenAt _, ho.frozenAt _⟩
    · rw [ho.cellAt _ (by show j * 2 < l.length * 2; omega)]; exact hc.1
    · rw [ho.cellAt _ (by show j * 2 + 1 < l.length * 2; omega)]; exact hc.2
theorem file_set0 {base : Nat} {ok : Nat → Prop} {l : List S83} {g n c : Nat} (h : Kd.R k83 83 w base ok (.slice (some ⟨g, 0, none⟩) n c) l) {j : Nat} {x : S83} (hx : l[j]? = some x) (s : ByteArray) :
    Kd.R k83 83 (w.setCell ⟨g, j * 2, none⟩ (.string s)) base ok (.slice (some ⟨g, 0, none⟩) n c) (l.set j ⟨s, x.f1⟩) := by
  obtain ⟨h0, inner, ho, hr⟩ := h
  have hin := flat_of hr
  subst hin
  have hn : n = l.length := by
    rcases ho.2 with ⟨h9, _⟩ | ⟨g', cap, cur, h9, _⟩
    · cases h9
    · cases h9; rfl
  subst hn
  refine ⟨h0, _, ?_, reps_flat base _ _⟩
  rw [← flat_set0 s l j x hx, List.length_set]
  exact (ho.stored (j * 2) (.string s)).1
theorem file_set1 {base : Nat} {ok : Nat → Prop} {l : List S83} {g n c : Nat} (h : Kd.R k83 83 w base ok (.slice (some ⟨g, 0, none⟩) n c) l) {j : Nat} {x : S83} (hx : l[j]? = some x) (z : Int) :
    Kd.R k83 83 (w.setCell ⟨g, j * 2 + 1, none⟩ (.int .i64 z)) base ok (.slice (some ⟨g, 0, none⟩) n c) (l.set j ⟨x.f0, z⟩) := by
  obtain ⟨h0, inner, ho, hr⟩ := h
  have hin := flat_of hr
  subst hin
  have hn : n = l.length := by
    rcases ho.2 with ⟨h9, _⟩ | ⟨g', cap, cur, h9, _⟩
    · cases h9
    · cases h9; rfl
  subst hn
  refine ⟨h0, _, ?_, reps_flat base _ _⟩
  rw [← flat_set1 z l j x hx, List.length_set]
  exact (ho.stored (j * 2 + 1) (.int .i64 z)).1
/-- a store into the files' row -/
theorem RAt.fileSet (h : RAt own w m R v0 v1 v2 v3 v4) {g : Nat} {cs : Array Value} (hb : w.heap[g]? = some (.cells cs 83 (0, 0))) {j : Nat} {u : Value} {l : List S83} (hl : Kd.R k83 83 (w.setCell ⟨g, j, none⟩ u) 0 own v0 l) : RAt own (w.setCell ⟨g, j, none⟩ u) m { R with files := l } v0 v1 v2 v3 v4 :=
  { blk := (heap_set_ne (fun e => by have := h.blk; rw [e, hb] at this; cases this) u).trans h.blk
    files := hl
    now := Kd.R_set h.now hb (by decide) _ _
    last := Kd.R_set h.last hb (by decide) _ _
    opn := Kd.R_set h.opn hb (by decide) _ _
    faults := Kd.R_set h.faults hb (by decide) _ _
    ownm := h.ownm
    bnd := fun k hk => by rw [size_set]; exact h.bnd k hk }
theorem RAt.ne_files (h : RAt own w m R v0 v1 v2 v3 v4) {g : Nat} {cs : Array Value} (hb : w.heap[g]? = some (.cells cs 83 (0, 0))) : m ≠ g := fun e => by
  have := h.blk
  rw [e, hb] at this
  cases this
end Go.Proofs.YtomhgoahhlnjpaaGreatDoor.Rf

/- The document's own disk, walked: asked, step, Read, SyncNames, Sync. -/
namespace Go.Proofs.YtomhgoahhlnjpaaGreatDoor.Rf
open Go.RowKit Go.Proofs.YtomhgoahhlnjpaaGreatDoorW.PrintWords Go.Proofs.YtomhgoahhlnjpaaGreatDoor.PRef Go.Proofs.YtomhgoahhlnjpaaGreatDoor.Dk

theorem w64 {x : Int} (h0 : -9223372036854775808 ≤ x) (h : x ≤ 9223372036854775807) : wrap64 x = x := by unfold wrap64; omega
def findI : List S116 → ByteArray → Int
  | [], _ => -1
  | x :: l, a => if x.f0.toList = a.toList then x.f1 else findI l a
theorem rd95 (l : List S116) (i : Nat) (h : i < l.length) : rd_T116 l (i : Int) = l[i] := by
  unfold rd_T116
  rw [Int.toNat_natCast, List.getD_eq_getElem?_getD, List.getElem?_eq_getElem h]
  rfl
theorem find_l0 (l : List S116) (a : ByteArray) (hl : l.length ≤ 1099511627776) : ∀ (d i k : Nat), i + d = l.length → d < k → lodestarref02_find.l0 k l a (i : Int) = some (findI (l.drop i) a) := by
  intro d
  induction d with
  | zero =>
    intro i k h1 h2
    obtain ⟨k, rfl⟩ : ∃ k', k = k' + 1 := ⟨k - 1, by omega⟩
    unfold lodestarref02_find.l0
    rw [if_neg (by omega), List.drop_eq_nil_of_le (by omega)]
    rfl
  | succ d ih =>
    intro i k h1 h2
    obtain ⟨k, rfl⟩ : ∃ k', k = k' + 1 := ⟨k - 1, by omega⟩
    unfold lodestarref02_find.l0
    rw [if_pos (by omega), if_pos (by omega), rd95 l i (by omega), List.drop_eq_getElem_cons (show i < l.length by omega), findI]
    split
    · rfl
    · have := ih (i + 1) k (by omega) (by omega)
      rw [w64 (by omega) (by omega)]
      exact this
theorem find_f (l : List S116) (a : ByteArray) (hl : l.length ≤ 1099511627776) : lodestarref02_find.f (l.length + 1) l a = some (findI l a) := find_l0 l a hl l.length 0 _ (by omega) (by omega)

def stepF : List S40 → Int → Int × Int
  | [], _ => (0, -1)
  | f :: l, n => if f.f0 = n then (if f.f1 = 3 then (23, -1) else if f.f1 = 2 then (22, f.f2) else (22, -1)) else stepF l n
def RS.askedR (R : RS) (name : ByteArray) : Int × Int := if name.toList.isEmpty = true then (-1, 1) else if findI R.now name < 0 then (-1, 20) else (findI R.now name, 0)

section
variable {own : Nat → Prop} {w w' : World} {m : Nat} {R : RS} {v0 v1 v2 v3 v4 : Value}
theorem asked_r (h : RAt own w m R v0 v1 v2 v3 v4) (name : ByteArray) (hl : R.now.length ≤ 1099511627776) :
    Calls Tryz.prog 27 #[.pointer (some ⟨m, 0, none⟩), .string name] w fun e w' => e = .returned (.tuple #[.int .i64 (R.askedR name).1, .int .i64 (R.askedR name).2]) ∧ Drawn0 w w' := by
  obtain ⟨x0, x1, x2, x3, x4, x5⟩ := h.cells
  obtain ⟨A, c, rfl, hlc, hC⟩ := Kd.R_reads h.now
  have HF := Aside0.mk (lodestarref02_find.calls (R.now.length + 1) A c R.now name _ w hC hlc (find_f R.now name hl))
  clear h hlc hC hl x0 x2 x3 x4 x5
  unfold RS.askedR
  cases ha : name.toList.isEmpty with
  | true =>
    simp only [if_true]
    go_enter Tryz.func27, Tryz.ntmps27
    go_wp2
    go_ret2
    exact ⟨rfl, Drawn0.refl _⟩
  | false =>
    simp only [Bool.false_eq_true, if_false]
    generalize findI R.now name = z at HF ⊢
    by_cases hz : z < 0
    · have hd : decide (z < 0) = true := by simpa using hz
      rw [if_pos hz]
      go_enter Tryz.func27, Tryz.ntmps27
      go_wp2_with (first
        | (go_at_call 48; (with_reducible refine (HF.out).mono ?_); rintro e w1 ⟨rfl, hd1⟩; have HD := Aside0.mk hd1; clear hd1)
        | go_in)
      go_ret2
      exact ⟨rfl, HD.out⟩
    · have hd : decide (z < 0) = false := by simpa using hz
      rw [if_neg hz]
      go_enter Tryz.func27, Tryz.ntmps27
      go_wp2_with (first
        | (go_at_call 48; (with_reducible refine (HF.out).mono ?_); rintro e w1 ⟨rfl, hd1⟩; have HD := Aside0.mk hd1; clear hd1)
        | go_in)
      go_ret2
      exact ⟨rfl, HD.out⟩

theorem RAt.far (h : RAt own w m R v0 v1 v2 v3 v4) {g : Nat} (hg : ¬ own g) (j : Nat) (u : Value) : RAt own (w.setCell ⟨g, j, none⟩ u) m R v0 v1 v2 v3 v4 :=
  h.move (by rw [size_set]; exact Nat.le_refl _) (fun k hk => heap_set_ne (fun (e : k = g) => hg (by rw [← e]; exact hk)) u)
theorem kfar {S : Nat → Prop} {a : World} (h : Kept S a w) {g : Nat} (hg : a.heap.size ≤ g) (j : Nat) (u : Value) : Kept S a (w.setCell ⟨g, j, none⟩ u) :=
  ⟨h.os, h.tape, h.output, by rw [size_set]; exact h.size, fun k hk hn => (heap_set_ne (show k ≠ g by omega) u).trans (h.block k hk hn)⟩
theorem kput {S : Nat → Prop} {a : World} (h : Kept S a w) {g : Nat} (hg : S g) (j : Nat) (u : Value) : Kept S a (w.setCell ⟨g, j, none⟩ u) :=
  ⟨h.os, h.tape, h.output, by rw [size_set]; exact h.size, fun k hk hn => (heap_set_ne (fun (e : k = g) => hn (by rw [e]; exact hg)) u).trans (h.block k hk hn)⟩
/-- an element of a row of one's own, cell by cell -/
theorem row_at {α : Type} {d : Kd α} {e base : Nat} {ok : Nat → Prop} {v : Value} {l : List α} (h : Kd.R d e w base ok v l) {i : Nat} {x : α} (hx : l[i]? = some x) :
    ∃ g c cl, v = .slice (some ⟨g, 0, none⟩) l.length c ∧ ok g ∧ g < w.heap.size ∧ d.K w x cl ∧ ∀ j u, cl[j]? = some u → w.cell? ⟨g, i * d.sz + j, none⟩ = some u := by
  have hlt := (List.getElem?_eq_some_iff.1 hx).1
  obtain ⟨g, c, rfl, _, hgl, _⟩ := Kd.R_form h (by omega)
  obtain ⟨A, c2, he, _, hC⟩ := Kd.R_reads h
  cases he
  obtain ⟨ad, hA, hc⟩ := hC.2.2 (by omega)
  cases hA
  obtain ⟨cl, _, hK, hcell⟩ := hc i x hx
  refine ⟨g, c, cl, rfl, h.1 g rfl, hgl, hK, fun j u hu => ?_⟩
  have := hcell j u hu
  rw [Addr.add_lit, Nat.zero_add] at this
  exact this

set_option maxHeartbeats 2000000 in
theorem step_r (h : RAt own w m R v0 v1 v2 v3 v4) (h0 : 0 ≤ R.made) (h1 : R.made < 4611686018427387904) (hl : R.faults.length ≤ 1099511627776) :
    Calls Tryz.prog 56 #[.pointer (some ⟨m, 0, none⟩)] w fun e w' => e = .returned (.tuple #[.int .i64 (stepF R.faults (R.made + 1)).1, .int .i64 (stepF R.faults (R.made + 1)).2]) ∧ RAt own w' m { R with made := R.made + 1 } v0 v1 v2 v3 v4 ∧ Kept own w w' := by
  obtain ⟨x0, x1, x2, x3, x4, x5⟩ := h.cells
  have xf5 := h.frozen 5
  have HA := Aside0.mk (h.setMade (R.made + 1))
  have HK := Aside0.mk (kput (Kept.refl own w) h.ownm 5 (.int .i64 (R.made + 1)))
  have hmf : Aside0 (∃ A c, v4 = .slice A R.faults.length c) := ⟨by obtain ⟨A, c, he, _⟩ := Kd.R_reads h.faults; exact ⟨A, c, he⟩⟩
  obtain ⟨A4, c4, rfl⟩ := hmf.out
  clear h hmf x0 x1 x2 x3
  have hS : Aside0 (stepF R.faults (R.made + 1) = stepF (R.faults.drop 0) (R.made + 1)) := ⟨rfl⟩
  generalize stepF R.faults (R.made + 1) = rr at hS ⊢
  go_enter Tryz.func56, Tryz.ntmps56
  go_wp2
  go_loopw [4] (fun vi wr => ∃ i : Nat, vi = .int .i64 i ∧ i ≤ R.faults.length ∧ Aside0 (rr = stepF (R.faults.drop i) (R.made + 1)) ∧ Aside0 (RAt own wr m { R with made := R.made + 1 } v0 v1 v2 v3 (.slice A4 R.faults.length c4)) ∧ Aside0 (Kept own w wr)) (fun vi _ => R.faults.length - (intOf vi).toNat)
  case atStart => exact ⟨0, rfl, Nat.zero_le _, hS, HA, HK⟩
  case round =>
    clear HA HK hS x4 x5 xf5
    obtain ⟨i, rfl, hi, HS, HA, HK⟩ := hrel
    obtain ⟨y0, y1, y2, y3, y4, y5⟩ := HA.out.cells
    clear y0 y1 y2 y3
    by_cases ht : i < R.faults.length
    · have hd1 : decide ((i : Int) < (R.faults.length : Int)) = true := by simpa using ht
      obtain ⟨x, hx⟩ : ∃ x, R.faults[i]? = some x := ⟨_, List.getElem?_eq_getElem ht⟩
      obtain ⟨g, c, cl, he, hog, hgl, hcl, hcell⟩ := row_at HA.out.faults hx
      cases he
      have hcl2 := k40_open hcl
      subst hcl2
      have r0 := hcell 0 _ rfl
      have r1 := hcell 1 _ rfl
      have r2 := hcell 2 _ rfl
      have hsz : k40.sz = 3 := rfl
      rw [hsz] at r0 r1 r2
      rw [Nat.add_zero] at r0
      have hdrop : R.faults.drop i = x :: R.faults.drop (i + 1) := by
        rw [List.drop_eq_getElem_cons ht]
        have := List.getElem?_eq_some_iff.1 hx
        rw [this.2]
      have HS2 : Aside0 (rr = if x.f0 = R.made + 1 then (if x.f1 = 3 then (23, -1) else if x.f1 = 2 then (22, x.f2) else (22, -1)) else stepF (R.faults.drop (i + 1)) (R.made + 1)) := ⟨by rw [HS.out, hdrop]; rfl⟩
      have Hog := Aside0.mk hog
      clear hcl hcell hx hdrop HS hsz hog
      by_cases hq : x.f0 = R.made + 1
      · have hq1 : (x.f0 != R.made + 1) = false := by simpa using hq
        have hq2 : (x.f0 == R.made + 1) = true := by simpa using hq
        by_cases h3 : x.f1 = 3
        · have hr : rr = (23, -1) := by rw [HS2.out, if_pos hq, if_pos h3]
          subst hr
          have h31 : (x.f1 == 3) = true := by simpa using h3
          clear hq h3
          go_wp2_with (first | ((with_reducible refine gate_dst (N := 5) rfl ?_); refine box_event ?hg (N := 5) ?hd (cs := #[.int .i64 0, .int .i64 0, .int .i64 0]) (t := 40) ?hr ?_; (case hd => rfl); (case hg => rfl); (case hr => first | (go_simp; done) | (go_simp; rfl)); intro gb hgb w8 hbox hb; have H8 := Aside0.mk (HA.out.below hb); have K8 := Aside0.mk (kbelow HK.out hb); have Hno : Aside0 (¬ own gb) := ⟨fun ho => by have := HA.out.bnd gb ho; omega⟩; have Hge : Aside0 (w.heap.size ≤ gb) := ⟨by have := HK.out.size; omega⟩; have n1 : gb ≠ m := (fun e => Hno.out (by rw [e]; exact HA.out.ownm)); have n2 : m ≠ gb := n1.symm; have z0 := (blk_cell hbox 0).trans rfl; have z1 := (blk_cell hbox 1).trans rfl; have z2 := (blk_cell hbox 2).trans rfl; have fz0 := blk_frozen hbox 0; have fz1 := blk_frozen hbox 1; have fz2 := blk_frozen hbox 2; obtain ⟨q0, q1, q2, q3, q4, q5⟩ := H8.out.cells; clear hbox hb hgb y4 y5 r0 r1 r2 q0 q1 q2 q3) | go_in)
          go_quiet (fail)
          go_wp2

          go_ret2
          exact ⟨rfl, RAt.far (RAt.far (RAt.far (H8.out.drewN _) Hno.out _ _) Hno.out _ _) Hno.out _ _, kfar (kfar (kfar (kdrewN K8.out _) Hge.out _ _) Hge.out _ _) Hge.out _ _⟩
        · by_cases h2 : x.f1 = 2
          · have hr : rr = (22, x.f2) := by rw [HS2.out, if_pos hq, if_neg h3, if_pos h2]
            subst hr
            have h31 : (x.f1 == 3) = false := by simpa using h3
            have h21 : (x.f1 == 2) = true := by simpa using h2
            clear hq h3 h2
            go_wp2_with (first | ((with_reducible refine gate_dst (N := 5) rfl ?_); refine box_event ?hg (N := 5) ?hd (cs := #[.int .i64 0, .int .i64 0, .int .i64 0]) (t := 40) ?hr ?_; (case hd => rfl); (case hg => rfl); (case hr => first | (go_simp; done) | (go_simp; rfl)); intro gb hgb w8 hbox hb; have H8 := Aside0.mk (HA.out.below hb); have K8 := Aside0.mk (kbelow HK.out hb); have Hno : Aside0 (¬ own gb) := ⟨fun ho => by have := HA.out.bnd gb ho; omega⟩; have Hge : Aside0 (w.heap.size ≤ gb) := ⟨by have := HK.out.size; omega⟩; have n1 : gb ≠ m := (fun e => Hno.out (by rw [e]; exact HA.out.ownm)); have n2 : m ≠ gb := n1.symm; have z0 := (blk_cell hbox 0).trans rfl; have z1 := (blk_cell hbox 1).trans rfl; have z2 := (blk_cell hbox 2).trans rfl; have fz0 := blk_frozen hbox 0; have fz1 := blk_frozen hbox 1; have fz2 := blk_frozen hbox 2; obtain ⟨q0, q1, q2, q3, q4, q5⟩ := H8.out.cells; clear hbox hb hgb y4 y5 r0 r1 r2 q0 q1 q2 q3) | go_in)
            go_quiet (fail)
            go_wp2
            go_quiet (fail)
            go_wp2
            go_ret2
            exact ⟨rfl, RAt.far (RAt.far (RAt.far (H8.out.drewN _) Hno.out _ _) Hno.out _ _) Hno.out _ _, kfar (kfar (kfar (kdrewN K8.out _) Hge.out _ _) Hge.out _ _) Hge.out _ _⟩
          · have hr : rr = (22, -1) := by rw [HS2.out, if_pos hq, if_neg h3, if_neg h2]
            subst hr
            have h31 : (x.f1 == 3) = false := by simpa using h3
            have h21 : (x.f1 == 2) = false := by simpa using h2
            clear hq h3 h2
            go_wp2_with (first | ((with_reducible refine gate_dst (N := 5) rfl ?_); refine box_event ?hg (N := 5) ?hd (cs := #[.int .i64 0, .int .i64 0, .int .i64 0]) (t := 40) ?hr ?_; (case hd => rfl); (case hg => rfl); (case hr => first | (go_simp; done) | (go_simp; rfl)); intro gb hgb w8 hbox hb; have H8 := Aside0.mk (HA.out.below hb); have K8 := Aside0.mk (kbelow HK.out hb); have Hno : Aside0 (¬ own gb) := ⟨fun ho => by have := HA.out.bnd gb ho; omega⟩; have Hge : Aside0 (w.heap.size ≤ gb) := ⟨by have := HK.out.size; omega⟩; have n1 : gb ≠ m := (fun e => Hno.out (by rw [e]; exact HA.out.ownm)); have n2 : m ≠ gb := n1.symm; have z0 := (blk_cell hbox 0).trans rfl; have z1 := (blk_cell hbox 1).trans rfl; have z2 := (blk_cell hbox 2).trans rfl; have fz0 := blk_frozen hbox 0; have fz1 := blk_frozen hbox 1; have fz2 := blk_frozen hbox 2; obtain ⟨q0, q1, q2, q3, q4, q5⟩ := H8.out.cells; clear hbox hb hgb y4 y5 r0 r1 r2 q0 q1 q2 q3) | go_in)
            go_quiet (fail)
            go_wp2
            go_ret2
            exact ⟨rfl, RAt.far (RAt.far (RAt.far (H8.out.drewN _) Hno.out _ _) Hno.out _ _) Hno.out _ _, kfar (kfar (kfar (kdrewN K8.out _) Hge.out _ _) Hge.out _ _) Hge.out _ _⟩
      · have hq1 : (x.f0 != R.made + 1) = true := by simpa using hq
        have hq2 : (x.f0 == R.made + 1) = false := by simpa using hq
        have HS3 : Aside0 (rr = stepF (R.faults.drop (i + 1)) (R.made + 1)) := ⟨by rw [HS2.out, if_neg hq]⟩
        clear hq HS2
        go_wp2_with (first | ((with_reducible refine gate_dst (N := 5) rfl ?_); refine box_event ?hg (N := 5) ?hd (cs := #[.int .i64 0, .int .i64 0, .int .i64 0]) (t := 40) ?hr ?_; (case hd => rfl); (case hg => rfl); (case hr => first | (go_simp; done) | (go_simp; rfl)); intro gb hgb w8 hbox hb; have H8 := Aside0.mk (HA.out.below hb); have K8 := Aside0.mk (kbelow HK.out hb); have Hno : Aside0 (¬ own gb) := ⟨fun ho => by have := HA.out.bnd gb ho; omega⟩; have Hge : Aside0 (w.heap.size ≤ gb) := ⟨by have := HK.out.size; omega⟩; have n1 : gb ≠ m := (fun e => Hno.out (by rw [e]; exact HA.out.ownm)); have n2 : m ≠ gb := n1.symm; have z0 := (blk_cell hbox 0).trans rfl; have z1 := (blk_cell hbox 1).trans rfl; have z2 := (blk_cell hbox 2).trans rfl; have fz0 := blk_frozen hbox 0; have fz1 := blk_frozen hbox 1; have fz2 := blk_frozen hbox 2; obtain ⟨q0, q1, q2, q3, q4, q5⟩ := H8.out.cells; clear hbox hb hgb y4 y5 r0 r1 r2 q0 q1 q2 q3) | go_in)
        go_quiet (fail)
        go_wp2
        go_simp
        have hms := meas ht
        exact ⟨⟨i + 1, by simp, by omega, HS3, ⟨RAt.far (RAt.far (RAt.far (H8.out.drewN _) Hno.out _ _) Hno.out _ _) Hno.out _ _⟩, ⟨kfar (kfar (kfar (kdrewN K8.out _) Hge.out _ _) Hge.out _ _) Hge.out _ _⟩⟩, by simpa [intOf] using hms⟩
    · have hd1 : decide ((i : Int) < (R.faults.length : Int)) = false := by simpa using ht
      have hr : rr = (0, -1) := by rw [HS.out, List.drop_eq_nil_of_le (by omega)]; rfl
      subst hr
      go_wp2
      go_ret2
      exact ⟨rfl, HA.out, HK.out⟩
end
end Go.Proofs.YtomhgoahhlnjpaaGreatDoor.Rf

/- The document's own disk, walked: Read, SyncNames, Sync. -/
namespace Go.Proofs.YtomhgoahhlnjpaaGreatDoor.Rf
open Go.RowKit Go.Proofs.YtomhgoahhlnjpaaGreatDoorW.PrintWords Go.Proofs.YtomhgoahhlnjpaaGreatDoor.PRef Go.Proofs.YtomhgoahhlnjpaaGreatDoor.Dk

/-- every name leads to a file -/
def RS.ok (R : RS) : Prop := ∀ x ∈ R.now, ∃ j : Nat, x.f1 = (j : Int) ∧ j < R.files.length
def RS.made1 (R : RS) : RS := { R with made := R.made + 1 }
theorem findI_mem : ∀ (l : List S116) (a : ByteArray), 0 ≤ findI l a → ∃ x ∈ l, x.f1 = findI l a ∧ x.f0.toList = a.toList
  | [], _, h => by simp [findI] at h
  | x :: l, a, h => by
    unfold findI at h ⊢
    split
    · rename_i e; exact ⟨x, List.mem_cons_self .., rfl, e⟩
    · rename_i e
      rw [if_neg e] at h
      obtain ⟨y, hy, h2⟩ := findI_mem l a h
      exact ⟨y, List.mem_cons_of_mem _ hy, h2⟩
theorem asked_zero {R : RS} (hR : R.ok) {name : ByteArray} {z er : Int} (h : R.askedR name = (z, er)) (he : er = 0) : ∃ (j : Nat) (x : S83), z = (j : Int) ∧ findI R.now name = (j : Int) ∧ R.files[j]? = some x := by
  unfold RS.askedR at h
  split at h
  · cases h; cases he
  · split at h
    · cases h; cases he
    · rename_i hz
      obtain ⟨x, hx, h1, _⟩ := findI_mem R.now name (by omega)
      obtain ⟨j, hj, hl⟩ := hR x hx
      cases h
      exact ⟨j, R.files[j], h1.symm.trans hj, h1.symm.trans hj, List.getElem?_eq_getElem hl⟩
def RS.readR (R : RS) (name : ByteArray) : ByteArray × Int := if (R.askedR name).2 = 0 then ((R.files.getD (findI R.now name).toNat z83).f0, 0) else (⟨#[]⟩, (R.askedR name).2)
def RS.at1 (R : RS) (name : ByteArray) (k : RS → Nat → RS) : RS × Int :=
  if (R.askedR name).2 = 0 then (if (stepF R.faults (R.made + 1)).1 = 0 then (k R.made1 (findI R.now name).toNat, 0) else (R.made1, (stepF R.faults (R.made + 1)).1)) else (R, (R.askedR name).2)
def RS.fileR (R : RS) (j : Nat) : S83 := R.files.getD j z83
def RS.syncR (R : RS) (name : ByteArray) : RS × Int := R.at1 name fun T j => { T with files := T.files.set j ⟨(T.fileR j).f0, ((T.fileR j).f0.size : Int)⟩ }
def RS.syncNamesR (R : RS) : RS × Int := if (stepF R.faults (R.made + 1)).1 = 0 then ({ R.made1 with last := R.now, opn := [] }, 0) else (R.made1, (stepF R.faults (R.made + 1)).1)

section
variable {own : Nat → Prop} {w w' : World} {m : Nat} {R : RS} {v0 v1 v2 v3 v4 : Value}
theorem read_r (h : RAt own w m R v0 v1 v2 v3 v4) (hR : R.ok) (name : ByteArray) (hl : R.now.length ≤ 1099511627776) :
    Calls Tryz.prog 9 #[.pointer (some ⟨m, 0, none⟩), .string name] w fun e w' => e = .returned (.tuple #[.string (R.readR name).1, .int .i64 (R.readR name).2]) ∧ Drawn0 w w' := by
  have HQ := asked_r h name hl
  unfold RS.readR
  obtain ⟨z, er, hA⟩ : ∃ z er, R.askedR name = (z, er) := ⟨_, _, rfl⟩
  rw [hA] at HQ ⊢
  have HQ2 := Aside0.mk HQ
  clear HQ
  by_cases he : er = 0
  · obtain ⟨j, x, hz, hf, hx⟩ := asked_zero hR hA he
    subst hz
    subst he
    obtain ⟨g, c, cs, rfl, hg, hog, y0, y1, yf0, yf1⟩ := file_at h.files hx
    obtain ⟨x0, x1, x2, x3, x4, x5⟩ := h.cells
    have hfx : (R.files.getD (findI R.now name).toNat z83).f0 = x.f0 := by rw [hf, Int.toNat_natCast, List.getD_eq_getElem?_getD, hx]; rfl
    have hjl := (List.getElem?_eq_some_iff.1 hx).1
    simp only [if_true, hfx]
    clear hA hf hx hfx hg hog yf0 yf1 x1 x2 x3 x4 x5 h y1
    go_enter Tryz.func9, Tryz.ntmps9
    go_wp2_with (first
      | (go_at_call 27; (with_reducible refine (HQ2.out).mono ?_); rintro e w1 ⟨rfl, ⟨nd, rfl⟩⟩)
      | go_in)
    go_ret2
    exact ⟨rfl, ⟨_, rfl⟩⟩
  · simp only [if_neg he]
    have hz : (er != 0) = true := by simpa using he
    clear hA h he
    go_enter Tryz.func9, Tryz.ntmps9
    go_wp2_with (first
      | (go_at_call 27; (with_reducible refine (HQ2.out).mono ?_); rintro e w1 ⟨rfl, ⟨nd, rfl⟩⟩)
      | go_in)
    go_ret2
    exact ⟨rfl, ⟨_, rfl⟩⟩
theorem syncNames_r (h : RAt own w m R v0 v1 v2 v3 v4) (h0 : 0 ≤ R.made) (h1 : R.made < 4611686018427387904) (hl : R.faults.length ≤ 1099511627776) :
    Calls Tryz.prog 38 #[.pointer (some ⟨m, 0, none⟩)] w fun e w' => e = .returned (.int .i64 R.syncNamesR.2) ∧ (∃ v0' v1' v2' v3' v4', RAt (Dk.more own w w') w' m R.syncNamesR.1 v0' v1' v2' v3' v4') ∧ Kept own w w' := by
  obtain ⟨A1, c1, rfl⟩ := Kd.R_slice h.now
  have HQ := step_r h h0 h1 hl
  unfold RS.syncNamesR
  obtain ⟨er, n, hS⟩ : ∃ er n, stepF R.faults (R.made + 1) = (er, n) := ⟨_, _, rfl⟩
  rw [hS] at HQ ⊢
  have HQ2 := Aside0.mk HQ
  have H := Aside0.mk h
  clear HQ h hS
  by_cases he : er = 0
  · subst he
    simp only [if_true]
    go_enter Tryz.func38, Tryz.ntmps38
    go_wp2_with (first
      | (go_at_call 56; (with_reducible refine (HQ2.out).mono ?_); rintro e w1 ⟨rfl, hA, hK⟩; have HA := Aside0.mk hA; have HK := Aside0.mk hK; obtain ⟨y0, y1, y2, y3, y4, y5⟩ := hA.cells; have yf2 := hA.frozen 2; have yf3 := hA.frozen 3; clear hA hK y0 y4 y5)
      | go_in)
    go_ret
    have h2 := HA.out.setLast (l := R.now) HA.out.now
    have h3 := h2.setOpn (v := .slice none 0 0) (l := []) (Kd.R_nil _ _ _ _ _)
    exact ⟨rfl, ⟨_, _, _, _, _, h3.more⟩, kput (kput HK.out H.out.ownm _ _) H.out.ownm _ _⟩
  · have hz : (er == 0) = false := by simpa using he
    simp only [if_neg he]
    clear he
    go_enter Tryz.func38, Tryz.ntmps38
    go_wp2_with (first
      | (go_at_call 56; (with_reducible refine (HQ2.out).mono ?_); rintro e w1 ⟨rfl, hA, hK⟩; have HA := Aside0.mk hA; have HK := Aside0.mk hK; clear hA hK)
      | go_in)
    go_ret
    exact ⟨rfl, ⟨_, _, _, _, _, HA.out.more⟩, HK.out⟩
set_option maxHeartbeats 1000000 in
theorem sync_r (h : RAt own w m R v0 v1 v2 v3 v4) (hR : R.ok) (name : ByteArray) (h0 : 0 ≤ R.made) (h1 : R.made < 4611686018427387904) (hl : R.faults.length ≤ 1099511627776) (hn : R.now.length ≤ 1099511627776) :
    Calls Tryz.prog 41 #[.pointer (some ⟨m, 0, none⟩), .string name] w fun e w' => e = .returned (.int .i64 (R.syncR name).2) ∧ (∃ v0' v1' v2' v3' v4', RAt (Dk.more own w w') w' m (R.syncR name).1 v0' v1' v2' v3' v4') ∧ Kept own w w' := by
  have HQ := asked_r h name hn
  unfold RS.syncR RS.at1
  obtain ⟨z, er, hA⟩ : ∃ z er, R.askedR name = (z, er) := ⟨_, _, rfl⟩
  rw [hA] at HQ ⊢
  have HQ2 := Aside0.mk HQ
  clear HQ
  by_cases he : er = 0
  · obtain ⟨j, x, hz, hf, hx⟩ := asked_zero hR hA he
    subst hz
    subst he
    have HST : Aside0 (∀ nd, Calls Tryz.prog 56 #[.pointer (some ⟨m, 0, none⟩)] (w.drewN nd) fun e w' => e = .returned (.tuple #[.int .i64 (stepF R.faults (R.made + 1)).1, .int .i64 (stepF R.faults (R.made + 1)).2]) ∧ RAt own w' m { R with made := R.made + 1 } v0 v1 v2 v3 v4 ∧ Kept own (w.drewN nd) w') := ⟨fun nd => step_r (h.drewN nd) h0 h1 hl⟩
    simp only [if_true]
    obtain ⟨e2, n2, hS⟩ : ∃ er n, stepF R.faults (R.made + 1) = (er, n) := ⟨_, _, rfl⟩
    rw [hS] at HST ⊢
    have hjl := (List.getElem?_eq_some_iff.1 hx).1
    have hfx : RS.fileR R.made1 j = x := by unfold RS.fileR; rw [List.getD_eq_getElem?_getD, show R.made1.files[j]? = some x from hx]; rfl
    by_cases he2 : e2 = 0
    · subst he2
      have HX := Aside0.mk hx
      simp only [if_true, hf, Int.toNat_natCast, hfx]
      obtain ⟨g, c, cs, rfl, hg, hog, _⟩ := file_at h.files hx
      clear hA hf hS hfx hg hx
      go_enter Tryz.func41, Tryz.ntmps41
      go_wp2_with (first
        | (go_at_call 27; (with_reducible refine (HQ2.out).mono ?_); rintro e w1 ⟨rfl, ⟨nd, rfl⟩⟩)
        | (go_at_call 56; (with_reducible refine (HST.out nd).mono ?_); rintro e w2 ⟨rfl, hA, hK⟩; have HA := Aside0.mk hA; have HK := Aside0.mk hK; obtain ⟨y0, y1, y2, y3, y4, y5⟩ := hA.cells; obtain ⟨g2, c2, cs2, he9, hg2, hog2, r0, r1, rf0, rf1⟩ := file_at hA.files HX.out; cases he9; have HG2 := Aside0.mk hg2; have HO2 := Aside0.mk hog2; clear hA hK y1 y2 y3 y4 y5 hg2 hog2)
        | go_in)
      go_region
      go_wp2
      go_ret
      have h3 := HA.out.fileSet HG2.out (file_set1 HA.out.files HX.out (x.f0.size : Int))
      exact ⟨rfl, ⟨_, _, _, _, _, h3.drew.more⟩, (kput (show Kept own w w2 from ⟨HK.out.os, HK.out.tape, HK.out.output, HK.out.size, HK.out.block⟩) HO2.out _ _).drew⟩
    · have hz2 : (e2 == 0) = false := by simpa using he2
      simp only [if_neg he2]
      clear hA hf hS hfx hx he2 h
      go_enter Tryz.func41, Tryz.ntmps41
      go_wp2_with (first
        | (go_at_call 27; (with_reducible refine (HQ2.out).mono ?_); rintro e w1 ⟨rfl, ⟨nd, rfl⟩⟩)
        | (go_at_call 56; (with_reducible refine (HST.out nd).mono ?_); rintro e w2 ⟨rfl, hA, hK⟩; have HA := Aside0.mk hA; have HK := Aside0.mk hK; clear hA hK)
        | go_in)
      go_ret
      exact ⟨rfl, ⟨_, _, _, _, _, HA.out.more⟩, ⟨HK.out.os, HK.out.tape, HK.out.output, HK.out.size, HK.out.block⟩⟩
  · have hz : (er == 0) = false := by simpa using he
    simp only [if_neg he]
    have H := Aside0.mk h
    clear hA h he
    go_enter Tryz.func41, Tryz.ntmps41
    go_wp2_with (first
      | (go_at_call 27; (with_reducible refine (HQ2.out).mono ?_); rintro e w1 ⟨rfl, ⟨nd, rfl⟩⟩)
      | go_in)
    go_ret
    exact ⟨rfl, ⟨_, _, _, _, _, (H.out.drewN nd).more⟩, kdrewN (Kept.refl _ _) nd⟩
end
end Go.Proofs.YtomhgoahhlnjpaaGreatDoor.Rf

/- The document's own disk in plain Lean: what its methods make of it. -/
namespace Go.Proofs.YtomhgoahhlnjpaaGreatDoor.Rf
open Go.RowKit Go.Proofs.YtomhgoahhlnjpaaGreatDoorW.PrintWords Go.Proofs.YtomhgoahhlnjpaaGreatDoor.PRef Go.Proofs.YtomhgoahhlnjpaaGreatDoor.Dk

def withoutL (l : List S116) (a : ByteArray) : List S116 := l.filter fun x => !decide (x.f0.toList = a.toList)
def insL : List S116 → S116 → List S116
  | [], y => [y]
  | x :: l, y => if x.f0.toList < y.f0.toList then x :: insL l y else y :: x :: l
def withL (l : List S116) (a : ByteArray) (n : Int) : List S116 := insL (withoutL l a) ⟨a, n⟩
def doneL (l : List S116) (c : S114) : List S116 :=
  if c.f0 = 1 then withL l c.f1 c.f3 else if c.f0 = 2 then withL (withoutL l c.f1) c.f2 c.f3 else withoutL l c.f1
def RS.turnR (R : RS) (c : S114) : RS := { R with now := doneL R.now c, opn := R.opn ++ [c] }
def mk90 (k : Int) (a b : ByteArray) (f : Int) : S114 := ⟨k, a, b, f⟩
/-- the bytes are laid behind a file, which is made if there is none -/
def RS.putR (R : RS) (j : Nat) (s : ByteArray) : RS := { R with files := R.files.set j ⟨(R.fileR j).f0 ++ s, (R.fileR j).f1⟩ }
def RS.layR (R : RS) (name s : ByteArray) : RS :=
  if findI R.now name < 0 then (RS.turnR { R with files := R.files ++ [⟨⟨#[]⟩, 0⟩] } (mk90 1 name ⟨#[]⟩ (R.files.length : Int))).putR R.files.length s
  else R.putR (findI R.now name).toNat s
def RS.writeR (R : RS) (name s : ByteArray) : RS × Int × Int :=
  if name.toList.isEmpty = true then (R, 0, 1)
  else if (stepF R.faults (R.made + 1)).1 = 0 then (R.made1.layR name s, (s.size : Int), 0)
  else if (stepF R.faults (R.made + 1)).2 < 0 then (R.made1, 0, (stepF R.faults (R.made + 1)).1)
  else (R.made1.layR name (cutS s (stepF R.faults (R.made + 1)).2), min (stepF R.faults (R.made + 1)).2 (s.size : Int), (stepF R.faults (R.made + 1)).1)
def RS.cutR (R : RS) (name : ByteArray) (sz : Int) : RS × Int := R.at1 name fun T j =>
  { T with files := T.files.set j ⟨(T.fileR j).f0.extract 0 (max 0 (min sz ((T.fileR j).f0.size : Int))).toNat, min (T.fileR j).f1 (max 0 (min sz ((T.fileR j).f0.size : Int)))⟩ }
def RS.renameR (R : RS) (a b : ByteArray) : RS × Int :=
  if b.toList.isEmpty = true then (R, 1) else R.at1 a fun T j => if a.toList = b.toList then T else T.turnR (mk90 2 a b (j : Int))
def RS.removeR (R : RS) (a : ByteArray) : RS × Int := R.at1 a fun T j => T.turnR (mk90 3 a ⟨#[]⟩ (j : Int))
def faultBadR (last : Int) (f : S40) : Bool := decide (f.f0 ≤ last) || decide (f.f1 < 1) || decide (3 < f.f1) || decide (f.f2 < 0) || (decide (0 < f.f2) && !decide (f.f1 = 2))
def planOkR : Int → List S40 → Bool
  | _, [] => true
  | last, f :: l => if faultBadR last f = true then false else planOkR f.f0 l
def RS.planR (R : RS) (l : List S40) : RS × Int := if 4096 < l.length then (R, 1) else if planOkR R.made l = true then ({ R with faults := l }, 0) else (R, 1)
def settleR (f : S83) (l : List Int) (i : Nat) : S83 :=
  ⟨f.f0.extract 0 (f.f1 + (if l = [] then 0 else max 0 (min (l.getD (i % l.length) 0) ((f.f0.size : Int) - f.f1)))).toNat, f.f1 + (if l = [] then 0 else max 0 (min (l.getD (i % l.length) 0) ((f.f0.size : Int) - f.f1)))⟩
def filesR (fs : List S83) (l : List Int) : Nat → List S116 → List S83
  | _, [] => []
  | i, x :: r => settleR (fs.getD x.f1.toNat z83) l i :: filesR fs l (i + 1) r
def namesFrom : Nat → List S116 → List S116
  | _, [] => []
  | i, x :: r => ⟨x.f0, (i : Int)⟩ :: namesFrom (i + 1) r
/-- the names behind the first i changes -/
def nth (last : List S116) (opn : List S114) (i : Nat) : List S116 := (opn.take i).foldl doneL last
def RS.crashR (R : RS) (n : Int) (l : List Int) : RS :=
  { R with files := filesR R.files l 0 (nth R.last R.opn (max n 0).toNat), now := namesFrom 0 (nth R.last R.opn (max n 0).toNat), last := namesFrom 0 (nth R.last R.opn (max n 0).toNat), opn := [], faults := [] }
end Go.Proofs.YtomhgoahhlnjpaaGreatDoor.Rf
