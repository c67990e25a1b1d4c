/- What a disk of package disk is in memory, and what its methods make of it, in plain Lean. -/
import Derived.Test.YtomhgoahhlnjpaaGreatDoorProg
import Derived.Test.YtomhgoahhlnjpaaGreatDoorKw
import Derived.Maps.OwnSet
import Derived.Maps.RangeWalk
import Derived.Sort.KeysCollected
import Derived.Sort.OwnSorted
namespace Go.Proofs.YtomhgoahhlnjpaaGreatDoor.Dk
open Go.RowKit Go.Maps Go.Proofs.YtomhgoahhlnjpaaGreatDoorW.PrintWords

/-! ### the state -/
structure Fault where
  s : Int
  k : Int
  n : Int
structure Chg where
  a : ByteArray
  b : ByteArray
  old : Option Nat
  kind : Int
structure DS where
  D : DataW Unit
  fs : List (ByteArray × Int)
  opn : List Chg
  steps : Int
  plan : List Fault
  puts : Nat

def keyL (s : ByteArray) : Lit := .string s.data.toList
def refD (o : Option Nat) : DataW Unit := match o with | none => .nil | some i => .lit (.int .i64 (i : Int))
def refO (d : DataW Unit) : Option Nat := match d with | .lit (.int _ i) => some i.toNat | _ => none
theorem refO_refD (o : Option Nat) : refO (refD o) = o := by cases o <;> simp [refO, refD]
def DS.find (S : DS) (name : ByteArray) : Option Nat := refO (S.D.atKey (keyL name) .nil)

/-- the place of a block -/
def at_ (b : Nat) : List Nat → Option Nat
  | [] => none
  | x :: l => if x = b then some 0 else (at_ b l).map (· + 1)
theorem at_get {b : Nat} : ∀ {l : List Nat} {i : Nat}, at_ b l = some i → l[i]? = some b
  | [], i, h => by cases h
  | x :: l, i, h => by
    unfold at_ at h
    split at h
    · rename_i e; subst e; cases h; rfl
    · obtain ⟨j, hj, rfl⟩ := Option.map_eq_some_iff.1 h
      simpa using at_get hj
theorem at_of {b : Nat} : ∀ {l : List Nat} {i : Nat}, l.Nodup → l[i]? = some b → at_ b l = some i
  | [], i, _, h => by simp at h
  | x :: l, i, hn, h => by
    unfold at_
    cases i with
    | zero => simp at h; simp [h]
    | succ i =>
      simp at h
      have hx : x ≠ b := fun e => by
        subst e
        exact (List.nodup_cons.1 hn).1 (List.mem_of_getElem? h)
      rw [if_neg hx, at_of (List.nodup_cons.1 hn).2 h]
      rfl
theorem at_app {b : Nat} : ∀ {l m : List Nat} {i : Nat}, at_ b l = some i → at_ b (l ++ m) = some i
  | [], m, i, h => by cases h
  | x :: l, m, i, h => by
    unfold at_ at h
    show (if x = b then some 0 else (at_ b (l ++ m)).map (· + 1)) = some i
    split
    · rename_i e; rw [if_pos e] at h; exact h
    · rename_i e
      rw [if_neg e] at h
      obtain ⟨j, hj, rfl⟩ := Option.map_eq_some_iff.1 h
      rw [at_app hj]; rfl

/-- a file's pointer, as the map's element reads -/
def rdF (bs : List Nat) : Value → Option (DataW Unit × List MemPlace)
  | .pointer none => some (.nil, [])
  | .pointer (some ad) => if ad = ⟨ad.block, 0, none⟩ then (at_ ad.block bs).map fun (i : Nat) => (.lit (.int .i64 (i : Int)), []) else none
  | _ => none
def fileV (bs : List Nat) : Option Nat → Value
  | none => .pointer none
  | some i => .pointer (some ⟨bs.getD i 0, 0, none⟩)
theorem rdF_nil (bs : List Nat) : rdF bs (.pointer none) = some (.nil, []) := rfl
theorem rdF_file {bs : List Nat} (hn : bs.Nodup) {o : Option Nat} (h : ∀ i, o = some i → i < bs.length) : rdF bs (fileV bs o) = some (refD o, []) := by
  cases o with
  | none => rfl
  | some i =>
    have hi := h i rfl
    have : at_ (bs.getD i 0) bs = some i := at_of hn (by simp [List.getD, List.getElem?_eq_getElem hi])
    show (if (⟨bs.getD i 0, 0, none⟩ : Addr) = ⟨bs.getD i 0, 0, none⟩ then (at_ (bs.getD i 0) bs).map fun (i : Nat) => ((.lit (.int .i64 (i : Int)) : DataW Unit), ([] : List MemPlace)) else none) = _
    rw [if_pos rfl, this]
    rfl
theorem rdF_inv {bs : List Nat} {v : Value} {z : DataW Unit × List MemPlace} (h : rdF bs v = some z) : v = fileV bs (refO z.1) ∧ z = (refD (refO z.1), []) ∧ ∀ i, refO z.1 = some i → i < bs.length := by
  unfold rdF at h
  split at h
  · cases h; exact ⟨rfl, rfl, fun i hi => by cases hi⟩
  · rename_i ad
    split at h
    · rename_i e
      obtain ⟨i, hi, rfl⟩ := Option.map_eq_some_iff.1 h
      have hg := at_get hi
      have hl : i < bs.length := (List.getElem?_eq_some_iff.1 hg).1
      refine ⟨?_, by simp [refO, refD], fun j hj => by simp [refO] at hj; omega⟩
      rw [e]
      simp [refO, fileV, List.getD, hg]
    · cases h
  · cases h
theorem rdF_app {bs : List Nat} (m : List Nat) {v : Value} {z : DataW Unit × List MemPlace} (h : rdF bs v = some z) : rdF (bs ++ m) v = some z := by
  unfold rdF at h ⊢
  split at h
  · exact h
  · split at h
    · rename_i e
      obtain ⟨i, hi, rfl⟩ := Option.map_eq_some_iff.1 h
      simp only [if_pos e, at_app hi]
      rfl
    · cases h
  · cases h

theorem owns_more {w : World} {bs : List Nat} {mb n : Nat} {D : DataW Unit} (m : List Nat) (h : w.ownsMap Tryz.prog 9 (rdF bs) mb n D) : w.ownsMap Tryz.prog 9 (rdF (bs ++ m)) mb n D := by
  obtain ⟨es, clock, hb, F, hs, rfl⟩ := h
  obtain ⟨F1, hmap, _⟩ := F.stay (R' := rdF (bs ++ m)) (fun x _ z hz => rdF_app m hz)
  exact ⟨es, clock, hb, F1, hs, by rw [hmap]⟩

/-! ### in memory -/
def chgV (bs : List Nat) (c : Chg) : List Value := [.string c.a, .string c.b, fileV bs c.old, .int .i64 c.kind]
def faultV (f : Fault) : List Value := [.int .i64 f.s, .int .i64 f.k, .int .i64 f.n]
/-- the plan's slice -/
def PlanAt (w : World) (v : Value) (l : List Fault) : Prop := ∃ A c, v = .slice A l.length c ∧ l.length ≤ c ∧ ∀ i f, l[i]? = some f → ∃ b o, A = some ⟨b, o, none⟩ ∧ ∀ j u, (faultV f)[j]? = some u → w.cell? ⟨b, o + 3 * i + j, none⟩ = some u
/-- the disk in block d: its map, its files' blocks, its two slices -/
structure At (own : Nat → Prop) (w : World) (d : Nat) (S : DS) (mb : Nat) (bs : List Nat) (vo vp : Value) : Prop where
  blk : w.heap[d]? = some (.cells #[.map (some mb), vo, .int .i64 S.steps, vp] 58 (0, 0))
  mp : w.ownsMap Tryz.prog 9 (rdF bs) mb S.puts S.D
  file : ∀ (i b : Nat) (f : ByteArray × Int), bs[i]? = some b → S.fs[i]? = some f → w.heap[b]? = some (.cells #[.string f.1, .int .i64 f.2] 78 (0, 0))
  len : bs.length = S.fs.length
  nodup : bs.Nodup
  opn : w.ownsRow 0 109 4 vo S.opn.length (S.opn.flatMap (chgV bs))
  old : ∀ c ∈ S.opn, ∀ i, c.old = some i → i < bs.length
  plan : PlanAt w vp S.plan
  pblk : ∀ k, vp.ownBlock = some k → ∃ cs, w.heap[k]? = some (.cells cs 40 (0, 0))
  ownd : own d
  ownm : own mb
  ownf : ∀ b ∈ bs, own b
  owno : ∀ k, vo.ownBlock = some k → own k
  ownp : ∀ k, vp.ownBlock = some k → own k
  bnd : ∀ k, own k → k < w.heap.size

/-- nothing but blocks of S has turned -/
structure Kept (S : Nat → Prop) (w w' : World) : Prop where
  os : w'.os = w.os
  tape : w'.tape = w.tape
  output : w'.output = w.output
  size : w.heap.size ≤ w'.heap.size
  block : ∀ k, k < w.heap.size → ¬ S k → w'.heap[k]? = w.heap[k]?
theorem Kept.refl (S : Nat → Prop) (w : World) : Kept S w w := ⟨rfl, rfl, rfl, Nat.le_refl _, fun _ _ _ => rfl⟩
theorem Kept.below {S : Nat → Prop} {w w' : World} {B : Nat} (h : Kept S w w') (hB : B ≤ w.heap.size) (hS : ∀ k, S k → B ≤ k) : Below B w w' :=
  ⟨h.os, h.tape, h.output, h.size, fun k hk => h.block k (by omega) (fun hs => by have := hS k hs; omega)⟩
theorem Kept.of_below {S : Nat → Prop} {w w' : World} (h : Below w.heap.size w w') : Kept S w w' := ⟨h.os, h.tape, h.output, h.size, fun k hk _ => h.block k hk⟩
theorem Kept.of_grown {S : Nat → Prop} {w w' : World} {row : Option Nat} (h : w.grownBy w' row) (hr : ∀ k, row = some k → S k) : Kept S w w' :=
  ⟨h.os, h.tape, h.output, h.size, fun k hk hs => h.block k hk (fun e => hs (hr k e.symm))⟩
/-- the blocks of one's own, and the new ones -/
def more (own : Nat → Prop) (w w' : World) (k : Nat) : Prop := own k ∨ w.heap.size ≤ k ∧ k < w'.heap.size
theorem Kept.trans {own S : Nat → Prop} {w w1 w2 : World} (h : Kept own w w1) (k : Kept S w1 w2) (hS : ∀ k, S k → own k ∨ w.heap.size ≤ k) : Kept own w w2 :=
  ⟨k.os.trans h.os, k.tape.trans h.tape, k.output.trans h.output, Nat.le_trans h.size k.size, fun i hi hn => (k.block i (Nat.lt_of_lt_of_le hi h.size) (fun hs => by
    rcases hS i hs with h' | h'
    · exact hn h'
    · omega)).trans (h.block i hi hn)⟩

/-! ### how it moves -/
variable {own : Nat → Prop} {w w' : World} {d mb : Nat} {S : DS} {bs : List Nat} {vo vp : Value}

theorem At.cells (h : At own w d S mb bs vo vp) :
    w.cell? ⟨d, 0, none⟩ = some (.map (some mb)) ∧ w.cell? ⟨d, 1, none⟩ = some vo ∧ w.cell? ⟨d, 2, none⟩ = some (.int .i64 S.steps) ∧ w.cell? ⟨d, 3, none⟩ = some vp :=
  ⟨blk_cell h.blk 0, blk_cell h.blk 1, blk_cell h.blk 2, blk_cell h.blk 3⟩
theorem At.frozen (h : At own w d S mb bs vo vp) (j : Nat) : w.frozen? ⟨d, j, none⟩ = false := blk_frozen h.blk j

theorem PlanAt.move {l : List Fault} (h : PlanAt w vp l) (hb : ∀ k, vp.ownBlock = some k → w'.heap[k]? = w.heap[k]?) : PlanAt w' vp l := by
  obtain ⟨A, c, rfl, hc, hcell⟩ := h
  refine ⟨A, c, rfl, hc, fun i f hf => ?_⟩
  obtain ⟨b, o, rfl, hj⟩ := hcell i f hf
  exact ⟨b, o, rfl, fun j u hu => (World.cell?_of_block (hb b rfl)).trans (hj j u hu)⟩

theorem row_move {base : Nat} {e : TypeId} {size n : Nat} {v : Value} {xs : List Value} (h : w.ownsRow base e size v n xs) (hb : ∀ k, v.ownBlock = some k → w'.heap[k]? = w.heap[k]?) : w'.ownsRow base e size v n xs := by
  rcases h with ⟨h0, h1 | ⟨g, cap, cur, rfl, h2, h3, h4⟩⟩
  · exact ⟨h0, .inl h1⟩
  · exact ⟨h0, .inr ⟨g, cap, cur, rfl, h2, (hb g rfl).trans h3, h4⟩⟩

theorem At.move (h : At own w d S mb bs vo vp) (hs : w.heap.size ≤ w'.heap.size) (hb : ∀ k, own k → w'.heap[k]? = w.heap[k]?) : At own w' d S mb bs vo vp :=
  { blk := (hb d h.ownd).trans h.blk
    mp := by obtain ⟨es, clock, hm, r⟩ := h.mp; exact ⟨es, clock, (hb mb h.ownm).trans hm, r⟩
    file := fun i b f hi hf => (hb b (h.ownf b (List.mem_of_getElem? hi))).trans (h.file i b f hi hf)
    len := h.len
    nodup := h.nodup
    opn := row_move h.opn (fun k hk => hb k (h.owno k hk))
    old := h.old
    plan := h.plan.move (fun k hk => hb k (h.ownp k hk))
    pblk := fun k hk => by obtain ⟨cs, hc⟩ := h.pblk k hk; exact ⟨cs, (hb k (h.ownp k hk)).trans hc⟩
    ownd := h.ownd
    ownm := h.ownm
    ownf := h.ownf
    owno := h.owno
    ownp := h.ownp
    bnd := fun k hk => Nat.lt_of_lt_of_le (h.bnd k hk) hs }
theorem At.kept {T : Nat → Prop} (h : At own w d S mb bs vo vp) (hk : Kept T w w') (hT : ∀ k, own k → ¬ T k) : At own w' d S mb bs vo vp :=
  h.move hk.size (fun k ho => hk.block k (h.bnd k ho) (hT k ho))
theorem At.below (h : At own w d S mb bs vo vp) (hb : Below w.heap.size w w') : At own w' d S mb bs vo vp :=
  h.move hb.size (fun k ho => hb.block k (h.bnd k ho))
theorem At.drewN (h : At own w d S mb bs vo vp) (n : Nat) : At own (w.drewN n) d S mb bs vo vp := h.move (Nat.le_refl _) (fun _ _ => rfl)
theorem At.wider {own' : Nat → Prop} (h : At own w d S mb bs vo vp) (ho : ∀ k, own k → own' k) (hb : ∀ k, own' k → k < w.heap.size) : At own' w d S mb bs vo vp :=
  { h with ownd := ho _ h.ownd, ownm := ho _ h.ownm, ownf := fun b hm => ho _ (h.ownf b hm), owno := fun k hk => ho _ (h.owno k hk), ownp := fun k hk => ho _ (h.ownp k hk), bnd := hb }

theorem At.ne_map (h : At own w d S mb bs vo vp) {k : Nat} {cs : Array Value} {t : TypeId} (hk : w.heap[k]? = some (.cells cs t (0, 0))) : mb ≠ k := fun e => by
  obtain ⟨es, clock, hm, _⟩ := h.mp
  rw [e, hk] at hm
  cases hm
theorem At.ne_file (h : At own w d S mb bs vo vp) {k : Nat} {cs : Array Value} {t : TypeId} (hk : w.heap[k]? = some (.cells cs t (0, 0))) (ht : t ≠ 78) {i b : Nat} {f : ByteArray × Int} (hi : bs[i]? = some b) (hf : S.fs[i]? = some f) : b ≠ k :=
  fun e => ht (by have := h.file i b f hi hf; rw [e, hk] at this; cases this; rfl)
theorem At.ne_plan (h : At own w d S mb bs vo vp) {k : Nat} {cs : Array Value} {t : TypeId} (hk : w.heap[k]? = some (.cells cs t (0, 0))) (ht : t ≠ 40) {j : Nat} (hj : vp.ownBlock = some j) : j ≠ k := fun e => by
  obtain ⟨cs', hc⟩ := h.pblk j hj
  rw [e, hk] at hc
  cases hc
  exact ht rfl
theorem heap_set_ne {k : Nat} {p : Addr} (hp : k ≠ p.block) (u : Value) : (w.setCell p u).heap[k]? = w.heap[k]? := Below.heap_setCell w p u k hp
theorem size_set (p : Addr) (u : Value) : (w.setCell p u).heap.size = w.heap.size := by simp [World.setCell]

/-- a field of the disk is written -/
theorem At.setD (h : At own w d S mb bs vo vp) (j : Nat) (u : Value) {n' : Int} {vo' vp' : Value} {opn' : List Chg} {plan' : List Fault}
    (hc : (#[.map (some mb), vo, .int .i64 S.steps, vp] : Array Value).setIfInBounds j u = #[.map (some mb), vo', .int .i64 n', vp'])
    (hopn : w.ownsRow 0 109 4 vo' opn'.length (opn'.flatMap (chgV bs))) (hold : ∀ c ∈ opn', ∀ i, c.old = some i → i < bs.length) (hplan : PlanAt w vp' plan')
    (hpb : ∀ k, vp'.ownBlock = some k → ∃ cs, w.heap[k]? = some (.cells cs 40 (0, 0))) (ho : ∀ k, vo'.ownBlock = some k → own k) (hp : ∀ k, vp'.ownBlock = some k → own k) :
    At own (w.setCell ⟨d, j, none⟩ u) d { S with steps := n', opn := opn', plan := plan' } mb bs vo' vp' := by
  have hne : ∀ k, vp'.ownBlock = some k → k ≠ d := fun k hk e => by
    obtain ⟨cs, hc⟩ := hpb k hk
    rw [e, h.blk] at hc
    cases hc
  exact
  { blk := by rw [blk_set h.blk, hc]
    mp := h.mp.setCell (h.ne_map h.blk) _
    file := fun i b f hi hf => (heap_set_ne (h.ne_file h.blk (by decide) hi hf) u).trans (h.file i b f hi hf)
    len := h.len
    nodup := h.nodup
    opn := own_setCell hopn (own_ne hopn h.blk (by decide)) u
    old := hold
    plan := hplan.move (fun k hk => heap_set_ne (hne k hk) u)
    pblk := fun k hk => by obtain ⟨cs, hc⟩ := hpb k hk; exact ⟨cs, (heap_set_ne (hne k hk) u).trans hc⟩
    ownd := h.ownd
    ownm := h.ownm
    ownf := h.ownf
    owno := ho
    ownp := hp
    bnd := fun k hk => by rw [size_set]; exact h.bnd k hk }
theorem At.setSteps (h : At own w d S mb bs vo vp) (n : Int) : At own (w.setCell ⟨d, 2, none⟩ (.int .i64 n)) d { S with steps := n } mb bs vo vp :=
  h.setD 2 _ rfl h.opn h.old h.plan h.pblk h.owno h.ownp
theorem Kept.set {own : Nat → Prop} (p : Addr) (hp : own p.block) (u : Value) : Kept own w (w.setCell p u) :=
  ⟨rfl, rfl, rfl, by rw [size_set]; exact Nat.le_refl _, fun k _ hk => heap_set_ne (fun e => hk (by rw [e]; exact hp)) u⟩

/-- a field of a file is written -/
theorem At.setF (h : At own w d S mb bs vo vp) {i b : Nat} {f : ByteArray × Int} (hi : bs[i]? = some b) (hf : S.fs[i]? = some f) (j : Nat) (u : Value) (f' : ByteArray × Int)
    (hc : (#[.string f.1, .int .i64 f.2] : Array Value).setIfInBounds j u = #[.string f'.1, .int .i64 f'.2]) : At own (w.setCell ⟨b, j, none⟩ u) d { S with fs := S.fs.set i f' } mb bs vo vp := by
  have hb := h.file i b f hi hf
  exact
  { blk := (heap_set_ne (h.ne_file h.blk (by decide) hi hf).symm u).trans h.blk
    mp := h.mp.setCell (h.ne_map hb) _
    file := fun i' b' f1 hi' hf' => by
      by_cases e : i' = i
      · subst e
        obtain rfl : b' = b := by rw [hi] at hi'; exact (Option.some.inj hi').symm
        have hlt : i' < S.fs.length := (List.getElem?_eq_some_iff.1 hf).1
        obtain rfl : f1 = f' := by simp only [List.getElem?_set_self hlt] at hf'; exact (Option.some.inj hf').symm
        rw [blk_set hb, hc]
      · have hf2 : S.fs[i']? = some f1 := by simpa only [List.getElem?_set_ne (Ne.symm e)] using hf'
        have hne : b' ≠ b := fun e2 => e (by
          subst e2
          have h1 := at_of h.nodup hi'
          have h2 := at_of h.nodup hi
          rw [h1] at h2
          exact Option.some.inj h2)
        exact (heap_set_ne hne u).trans (h.file i' b' f1 hi' hf2)
    len := by simpa using h.len
    nodup := h.nodup
    opn := own_setCell h.opn (own_ne h.opn hb (by decide)) u
    old := h.old
    plan := h.plan.move (fun k hk => heap_set_ne (h.ne_plan hb (by decide) hk) u)
    pblk := fun k hk => by obtain ⟨cs, hc⟩ := h.pblk k hk; exact ⟨cs, (heap_set_ne (h.ne_plan hb (by decide) hk) u).trans hc⟩
    ownd := h.ownd
    ownm := h.ownm
    ownf := h.ownf
    owno := h.owno
    ownp := h.ownp
    bnd := fun k hk => by rw [size_set]; exact h.bnd k hk }

theorem ne_own_map {base : Nat} {e : TypeId} {size n : Nat} {v : Value} {xs : List Value} (h : At own w d S mb bs vo vp) (ho : w.ownsRow base e size v n xs) : ∀ k, v.ownBlock = some k → k ≠ mb := fun k hk => by
  rcases ho with ⟨_, ⟨rfl, _⟩ | ⟨g, cap, cur, rfl, _, hb, _⟩⟩
  · cases hk
  · cases hk
    exact (h.ne_map hb).symm

/-- the map is written -/
theorem At.setM (h : At own w d S mb bs vo vp) (hg : w.grownBy w' (some mb)) {n : Nat} {D : DataW Unit} (hm : w'.ownsMap Tryz.prog 9 (rdF bs) mb n D) : At own w' d { S with D := D, puts := n } mb bs vo vp := by
  have hb : ∀ k, own k → k ≠ mb → w'.heap[k]? = w.heap[k]? := fun k hk hne => hg.block k (h.bnd k hk) (fun e => hne (Option.some.inj e))
  have hne : ∀ {k : Nat} {cs : Array Value} {t : TypeId}, w.heap[k]? = some (.cells cs t (0, 0)) → k ≠ mb := fun hk => (h.ne_map hk).symm
  have hpne : ∀ k, vp.ownBlock = some k → k ≠ mb := fun k hk => by obtain ⟨cs, hc⟩ := h.pblk k hk; exact hne hc
  exact
  { blk := (hb d h.ownd (hne h.blk)).trans h.blk
    mp := hm
    file := fun i b f hi hf => (hb b (h.ownf b (List.mem_of_getElem? hi)) (hne (h.file i b f hi hf))).trans (h.file i b f hi hf)
    len := h.len
    nodup := h.nodup
    opn := row_move h.opn (fun k hk => hb k (h.owno k hk) (ne_own_map h h.opn k hk))
    old := h.old
    plan := h.plan.move (fun k hk => hb k (h.ownp k hk) (hpne k hk))
    pblk := fun k hk => by obtain ⟨cs, hc⟩ := h.pblk k hk; exact ⟨cs, (hb k (h.ownp k hk) (hpne k hk)).trans hc⟩
    ownd := h.ownd
    ownm := h.ownm
    ownf := h.ownf
    owno := h.owno
    ownp := h.ownp
    bnd := fun k hk => Nat.lt_of_lt_of_le (h.bnd k hk) hg.size }

theorem fileV_app {o : Option Nat} (m : List Nat) (h : ∀ i, o = some i → i < bs.length) : fileV (bs ++ m) o = fileV bs o := by
  cases o with
  | none => rfl
  | some i =>
    have := h i rfl
    simp [fileV, List.getD, List.getElem?_append_left this]
/-- a file is made -/
theorem At.newF (h : At own w d S mb bs vo vp) {g : Nat} (hg : g = w.heap.size) (hb : Below w.heap.size w w') (f : ByteArray × Int) (hc : w'.heap[g]? = some (.cells #[.string f.1, .int .i64 f.2] 78 (0, 0))) :
    At (more own w w') w' d { S with fs := S.fs ++ [f] } mb (bs ++ [g]) vo vp := by
  have h1 := h.below hb
  have hlt : g < w'.heap.size := blk_lt hc
  have hgo : more own w w' g := .inr ⟨by omega, hlt⟩
  have hold : ∀ b ∈ bs, b < w.heap.size := fun b hm => h.bnd b (h.ownf b hm)
  exact
  { blk := h1.blk
    mp := owns_more [g] h1.mp
    file := fun i b f1 hi hf => by
      rcases Nat.lt_or_ge i bs.length with hl | hl
      · rw [List.getElem?_append_left hl] at hi
        rw [List.getElem?_append_left (by have := h.len; omega)] at hf
        exact h1.file i b f1 hi hf
      · have hi2 : i = bs.length := by
          have := (List.getElem?_eq_some_iff.1 hi).1
          simp at this
          omega
        subst hi2
        simp at hi
        rw [h.len] at hf
        simp at hf
        subst hi hf
        exact hc
    len := by simp [h.len]
    nodup := List.nodup_append.2 ⟨h.nodup, by simp, fun a ha b hb => by simp at hb; subst hb; have := hold a ha; omega⟩
    opn := by
      have e : S.opn.flatMap (chgV (bs ++ [g])) = S.opn.flatMap (chgV bs) := by
        have ho := h.old
        generalize S.opn = l at ho
        induction l with
        | nil => rfl
        | cons c l ih =>
          simp only [List.flatMap_cons]
          rw [ih (fun c hc => ho c (List.mem_cons_of_mem _ hc))]
          simp [chgV, fileV_app [g] (ho c (List.mem_cons_self ..))]
      simp only [e]
      exact h1.opn
    old := fun c hc i hi => by have := h.old c hc i hi; simp; omega
    plan := h1.plan
    pblk := h1.pblk
    ownd := .inl h.ownd
    ownm := .inl h.ownm
    ownf := fun b hm => by
      rcases List.mem_append.1 hm with hm | hm
      · exact .inl (h.ownf b hm)
      · simp at hm; subst hm; exact hgo
    owno := fun k hk => .inl (h.owno k hk)
    ownp := fun k hk => .inl (h.ownp k hk)
    bnd := fun k hk => by
      rcases hk with hk | hk
      · exact Nat.lt_of_lt_of_le (h.bnd k hk) hb.size
      · exact hk.2 }

theorem At.setO (h : At own w d S mb bs vo vp) {g : Nat} (hg : ¬ own g) (j : Nat) (u : Value) : At own (w.setCell ⟨g, j, none⟩ u) d S mb bs vo vp :=
  h.move (by rw [size_set]; exact Nat.le_refl _) (fun k hk => heap_set_ne (fun e => hg (by rw [e] at hk; exact hk)) u)
theorem Kept.setO {own : Nat → Prop} {w1 : World} (h : Kept own w w1) {p : Addr} (hp : w.heap.size ≤ p.block) (u : Value) : Kept own w (w1.setCell p u) :=
  h.trans (S := fun k => k = p.block) ⟨rfl, rfl, rfl, by rw [size_set]; exact Nat.le_refl _, fun k _ hk => heap_set_ne hk u⟩ (fun k hk => .inr (by rw [hk]; exact hp))
theorem Kept.drewN {own : Nat → Prop} {w1 : World} (h : Kept own w w1) (n : Nat) : Kept own w (w1.drewN n) := ⟨h.os, h.tape, h.output, h.size, h.block⟩

theorem PlanAt.tail1 {b o c : Nat} {f : Fault} {r : List Fault} (h : PlanAt w (.slice (some ⟨b, o, none⟩) (r.length + 1) c) (f :: r)) : PlanAt w (.slice (some ⟨b, o + 3, none⟩) r.length (c - 1)) r := by
  obtain ⟨A, c', he, hc, hcell⟩ := h
  cases he
  refine ⟨_, _, rfl, by simp at hc; omega, fun i f hf => ?_⟩
  obtain ⟨b', o', hb, hj⟩ := hcell (i + 1) f (by simpa using hf)
  cases hb
  refine ⟨_, _, rfl, fun j u hu => ?_⟩
  have := hj j u hu
  rw [show o + 3 + 3 * i + j = o + 3 * (i + 1) + j by omega]
  exact this
theorem PlanAt.tail2 {A A' : Option Addr} {c c' : Nat} {f : Fault} {r : List Fault} (h : PlanAt w (.slice A (r.length + 1) c) (f :: r)) (hc : c = 1) : PlanAt w (.slice A' r.length c') r := by
  obtain ⟨A, c', he, hl, hcell⟩ := h
  cases he
  subst hc
  simp at hl
  subst hl
  exact ⟨_, _, rfl, Nat.zero_le _, fun i f hf => by simp at hf⟩
theorem At.setPlan (h : At own w d S mb bs vo vp) {v : Value} {l : List Fault} (hp : PlanAt w v l) (ho : v.ownBlock = vp.ownBlock ∨ v.ownBlock = none) : At own (w.setCell ⟨d, 3, none⟩ v) d { S with plan := l } mb bs vo v :=
  h.setD 3 _ rfl h.opn h.old hp (fun k hk => by rcases ho with ho | ho <;> rw [ho] at hk; exact h.pblk k hk; cases hk) h.owno (fun k hk => by rcases ho with ho | ho <;> rw [ho] at hk; exact h.ownp k hk; cases hk)

#print axioms At.newF
end Go.Proofs.YtomhgoahhlnjpaaGreatDoor.Dk
