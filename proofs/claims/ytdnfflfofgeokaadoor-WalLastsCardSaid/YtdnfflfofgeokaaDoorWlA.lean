/- The disk under a log: the disk's methods leave the log's own blocks alone; what they make of a disk that has one file. -/
import Derived.Test.YtdnfflfofgeokaaDoorDkP
namespace Go.Proofs.YtdnfflfofgeokaaDoor.Dk
open Go.RowKit Go.Maps Go.ChangeMaps Go.WideAt Go.WideMaps Go.Sort Go.Proofs.YtdnfflfofgeokaaDoorW.PrintWords

/-- a disk lies at d, in blocks from B on, and beside it the blocks of X -/
def LiveX (B : Nat) (w : World) (d : Nat) (S : DS) (X : List (Nat × Obj)) : Prop := ∃ own mb bs vo vp, At own w d S mb bs vo vp ∧ (∀ k, own k → B ≤ k) ∧ ∀ x ∈ X, ¬ own x.1 ∧ w.heap[x.1]? = some x.2
theorem LiveX.get {B : Nat} {w : World} {d : Nat} {S : DS} {X : List (Nat × Obj)} (h : LiveX B w d S X) {x : Nat × Obj} (hx : x ∈ X) : w.heap[x.1]? = some x.2 := by
  obtain ⟨_, _, _, _, _, _, _, h⟩ := h
  exact (h x hx).2
theorem LiveX.of {B : Nat} {w : World} {d : Nat} {S : DS} (h : Live B w d S) : LiveX B w d S [] := by
  obtain ⟨own, mb, bs, vo, vp, hA, ho⟩ := h
  exact ⟨own, mb, bs, vo, vp, hA, ho, fun x hx => by cases hx⟩
theorem LiveX.sub {B : Nat} {w : World} {d : Nat} {S : DS} {X Y : List (Nat × Obj)} (h : LiveX B w d S X) (hs : ∀ x ∈ Y, x ∈ X) : LiveX B w d S Y := by
  obtain ⟨own, mb, bs, vo, vp, hA, ho, hx⟩ := h
  exact ⟨own, mb, bs, vo, vp, hA, ho, fun x hy => hx x (hs x hy)⟩
theorem LiveX.below {B : Nat} {w w' : World} {d : Nat} {S : DS} {X : List (Nat × Obj)} (h : LiveX B w d S X) (hb : Below w.heap.size w w') : LiveX B w' d S X := by
  obtain ⟨own, mb, bs, vo, vp, hA, ho, hx⟩ := h
  exact ⟨own, mb, bs, vo, vp, hA.below hb, ho, fun x hm => ⟨(hx x hm).1, (hb.block x.1 (Array.getElem?_eq_some_iff.1 (hx x hm).2).1).trans (hx x hm).2⟩⟩
theorem LiveX.add {B : Nat} {w w' : World} {d : Nat} {S : DS} {X : List (Nat × Obj)} (h : LiveX B w d S X) (hb : Below w.heap.size w w') {g : Nat} {o : Obj} (hg : w.heap.size ≤ g) (ho : w'.heap[g]? = some o) : LiveX B w' d S ((g, o) :: X) := by
  have h1 := h.below hb
  obtain ⟨own, mb, bs, vo, vp, hA, hB, hx⟩ := h
  exact ⟨own, mb, bs, vo, vp, hA.below hb, hB, fun x hm => by
    rcases List.mem_cons.1 hm with rfl | hm
    · exact ⟨fun hq => by have := hA.bnd _ hq; omega, ho⟩
    · exact ⟨(hx x hm).1, (hb.block x.1 (Array.getElem?_eq_some_iff.1 (hx x hm).2).1).trans (hx x hm).2⟩⟩
theorem LiveX.put {B : Nat} {w : World} {d : Nat} {S : DS} {X : List (Nat × Obj)} {g : Nat} {cs cs' : Array Value} {t : TypeId} (h : LiveX B w d S ((g, .cells cs t (0, 0)) :: X)) (j : Nat) (u : Value) (hc : cs.setIfInBounds j u = cs') (hX : ∀ x ∈ X, x.1 ≠ g) :
    LiveX B (w.setCell ⟨g, j, none⟩ u) d S ((g, .cells cs' t (0, 0)) :: X) := by
  obtain ⟨own, mb, bs, vo, vp, hA, hB, hx⟩ := h
  have h0 := hx (g, .cells cs t (0, 0)) (List.mem_cons_self ..)
  refine ⟨own, mb, bs, vo, vp, hA.setO h0.1 j u, hB, fun x hm => ?_⟩
  rcases List.mem_cons.1 hm with rfl | hm
  · exact ⟨h0.1, blk_put h0.2 j u hc⟩
  · have h2 := hx x (List.mem_cons_of_mem _ hm)
    exact ⟨h2.1, (heap_set_ne (hX x hm) u).trans h2.2⟩
theorem LiveX.step {B : Nat} {w w' : World} {d : Nat} {S S' : DS} {X : List (Nat × Obj)} {own own' : Nat → Prop} {mb : Nat} {bs bs' : List Nat} {vo vp vo' vp' : Value} (_hA : At own w d S mb bs vo vp) (ho : ∀ k, own k → B ≤ k) (hx : ∀ x ∈ X, ¬ own x.1 ∧ w.heap[x.1]? = some x.2) (hB : B ≤ w.heap.size)
    (hA' : At own' w' d S' mb bs' vo' vp') (hs : ∀ k, own' k → own k ∨ w.heap.size ≤ k) (hK : Kept own w w') : LiveX B w' d S' X ∧ Below B w w' :=
  ⟨⟨own', mb, bs', vo', vp', hA', fun k hk => by rcases hs k hk with h | h; exact ho k h; omega, fun x hm => by
    have h2 := hx x hm
    have hlt := (Array.getElem?_eq_some_iff.1 h2.2).1
    exact ⟨fun hq => by rcases hs _ hq with h | h; exact h2.1 h; omega, (hK.block x.1 hlt h2.1).trans h2.2⟩⟩, hK.below hB ho⟩

section
variable {B : Nat} {w : World} {d : Nat} {S : DS} {X : List (Nat × Obj)}
theorem write_x (h : LiveX B w d S X) (hB : B ≤ w.heap.size) (name s : ByteArray) (hl : name.size ≤ maxLen) (h0 : 0 ≤ S.steps) (h1 : S.steps < 4611686018427387904) (hn : S.opn.length < 1099511627776) (hp : S.puts < maxLen)
    (hf : ∀ f ∈ S.fs, f.1.size + s.size ≤ maxLen) (hs : s.size ≤ maxLen) (hpl : ∀ f ∈ S.plan, 0 ≤ f.n) :
    Calls Tryd.prog 21 #[.pointer (some ⟨d, 0, none⟩), .string name, .string s] w fun e w' => e = .returned (.tuple #[.int .i64 (S.write name s).2.1, .int .i64 (S.write name s).2.2]) ∧ LiveX B w' d (S.write name s).1 X ∧ Below B w w' := by
  obtain ⟨own, mb, bs, vo, vp, hA, ho, hx⟩ := h
  refine (write_calls hA name s hl h0 h1 hn hp hf hs hpl).mono ?_
  rintro e w' ⟨rfl, ⟨bs', vo', vp', hA'⟩, hK⟩
  exact ⟨rfl, LiveX.step hA ho hx hB hA' (more_in (Nat.le_refl _)) hK⟩
theorem cut_x (h : LiveX B w d S X) (hB : B ≤ w.heap.size) (name : ByteArray) (sz : Int) (hl : name.size ≤ maxLen) (h0 : 0 ≤ S.steps) (h1 : S.steps < 4611686018427387904) :
    Calls Tryd.prog 18 #[.pointer (some ⟨d, 0, none⟩), .string name, .int .i64 sz] w fun e w' => e = .returned (.int .i64 (S.cut name sz).2) ∧ LiveX B w' d (S.cut name sz).1 X ∧ Below B w w' := by
  obtain ⟨own, mb, bs, vo, vp, hA, ho, hx⟩ := h
  refine (cut_calls hA name sz hl h0 h1).mono ?_
  rintro e w' ⟨rfl, ⟨vp', hA'⟩, hK⟩
  exact ⟨rfl, LiveX.step hA ho hx hB hA' (fun k hk => .inl hk) hK⟩
theorem sync_x (h : LiveX B w d S X) (hB : B ≤ w.heap.size) (name : ByteArray) (hl : name.size ≤ maxLen) (h0 : 0 ≤ S.steps) (h1 : S.steps < 4611686018427387904) :
    Calls Tryd.prog 19 #[.pointer (some ⟨d, 0, none⟩), .string name] w fun e w' => e = .returned (.int .i64 (S.sync name).2) ∧ LiveX B w' d (S.sync name).1 X ∧ Below B w w' := by
  obtain ⟨own, mb, bs, vo, vp, hA, ho, hx⟩ := h
  refine (sync_calls hA name hl h0 h1).mono ?_
  rintro e w' ⟨rfl, ⟨vp', hA'⟩, hK⟩
  exact ⟨rfl, LiveX.step hA ho hx hB hA' (fun k hk => .inl hk) hK⟩
theorem syncNames_x (h : LiveX B w d S X) (hB : B ≤ w.heap.size) (h0 : 0 ≤ S.steps) (h1 : S.steps < 4611686018427387904) :
    Calls Tryd.prog 26 #[.pointer (some ⟨d, 0, none⟩)] w fun e w' => e = .returned (.int .i64 S.syncNames.2) ∧ LiveX B w' d S.syncNames.1 X ∧ Below B w w' := by
  obtain ⟨own, mb, bs, vo, vp, hA, ho, hx⟩ := h
  refine (syncNames_calls hA h0 h1).mono ?_
  rintro e w' ⟨rfl, ⟨vo', vp', hA'⟩, hK⟩
  exact ⟨rfl, LiveX.step hA ho hx hB hA' (fun k hk => .inl hk) hK⟩
theorem read_x (h : LiveX B w d S X) (name : ByteArray) (hl : name.size ≤ maxLen) :
    Calls Tryd.prog 25 #[.pointer (some ⟨d, 0, none⟩), .string name] w fun e w' => e = .returned (.tuple #[.string (S.read name).1, .int .i64 (S.read name).2]) ∧ w' = w := by
  obtain ⟨own, mb, bs, vo, vp, hA, ho, hx⟩ := h
  exact read_calls hA name hl
theorem crash_x (h : LiveX B w d S X) (hB : B ≤ w.heap.size) (n : Int) (l : List Int) {vb : Value} (hb : IntsAt w vb l) (hbo : l ≠ [] → ∀ k, vb.ownBlock = some k → k < B)
    (hp : S.puts + 2 * S.opn.length ≤ 8796093022208) (hsz : ∀ c ∈ S.opn, c.a.size ≤ maxLen ∧ c.b.size ≤ maxLen) (hz : ∀ f ∈ S.fs, f.1.size ≤ maxLen) {R : DS} (hc : S.crash n l = some R) :
    Calls Tryd.prog 12 #[.pointer (some ⟨d, 0, none⟩), .agg #[.int .i64 n, vb]] w fun e w' => e = .returned (.tuple #[]) ∧ LiveX B w' d R X ∧ Below B w w' := by
  obtain ⟨own, mb, bs, vo, vp, hA, ho, hx⟩ := h
  refine (crash_calls hA n l hb (fun hne k hk hq => by have := hbo hne k hk; have := ho k hq; omega) hp hsz hz hc).mono ?_
  rintro e w' ⟨rfl, ⟨vo', vp', hA'⟩, hK⟩
  exact ⟨rfl, LiveX.step hA ho hx hB hA' (fun k hk => .inl hk) hK⟩
end

/-! ### a disk that has one file, 'log' -/
abbrev nLog : ByteArray := ⟨#[108, 111, 103]⟩
def lg (x : ByteArray) (m : Int) (o : List Chg) (k : Int) : DS := { D := .map [(.string [108, 111, 103], .lit (.int .i64 0))], fs := [(x, m)], opn := o, steps := k, plan := [], puts := 1 }
def oLog : Chg := ⟨⟨#[]⟩, nLog, none, 0⟩
theorem new_read : DS.new.read nLog = (⟨#[]⟩, 20) := by kernel_rfl
theorem new_write : DS.new.write nLog ⟨#[]⟩ = (lg ⟨#[]⟩ 0 [oLog] 1, 0, 0) := by kernel_rfl
theorem new_names : (lg ⟨#[]⟩ 0 [oLog] 1).syncNames = (lg ⟨#[]⟩ 0 [] 2, 0) := by kernel_rfl
theorem lg_read (x : ByteArray) (m k : Int) : (lg x m [] k).read nLog = (x, 0) := by kernel_rfl
theorem lg_sync (x : ByteArray) (m k : Int) : (lg x m [] k).sync nLog = (lg x x.size [] (k + 1), 0) := by kernel_rfl
theorem lg_write (x y : ByteArray) (m k : Int) : (lg x m [] k).write nLog y = (lg (x ++ y) m [] (k + 1), (y.size : Int), 0) := by kernel_rfl
theorem lg_cut (x : ByteArray) (m k n : Int) (h0 : 0 ≤ n) (h1 : n ≤ (x.size : Int)) : (lg x m [] k).cut nLog n = (lg (x.extract 0 n.toNat) (min m n) [] (k + 1), 0) := by
  have h : (lg x m [] k).cut nLog n = (lg (x.extract 0 (min (max n 0) (x.size : Int)).toNat) (min m (min (max n 0) (x.size : Int))) [] (k + 1), 0) := by kernel_rfl
  rw [h, show min (max n 0) (x.size : Int) = n by omega]
theorem moreOf_nonneg (l : List Int) (i : Nat) : 0 ≤ moreOf l i := by
  unfold moreOf
  split
  · exact Int.le_refl _
  · exact Int.le_max_left ..
theorem crash_of {S T R : DS} {n : Int} {l : List Int} {m : Nat} (hm : S.opn.length - (max n 0).toNat = m) (hT : S.unroll m = T) {N : List (List UInt8)} (hN : (strKeys T.D).mergeSort leB = N) (hR : T.settle l 0 N = some R) : S.crash n l = some { R with opn := [], plan := [] } := by
  unfold DS.crash DS.names
  rw [hm, hT]
  dsimp only
  rw [hN, hR]
  rfl
theorem settle_go {l : List Int} {i : Nat} {nm : List UInt8} {r : List (List UInt8)} {T : DS} {j : Nat} (hf : T.find ⟨nm.toArray⟩ = some j) (h0 : 0 ≤ (T.fileAt j).2) (h1 : (T.fileAt j).2 ≤ ((T.fileAt j).1.size : Int)) :
    DS.settle l i (nm :: r) T = DS.settle l (i + 1) r (T.setFile j (settleF (T.fileAt j) (moreOf l i))) := by
  have e : DS.settle l i (nm :: r) T = match T.find ⟨nm.toArray⟩ with
    | none => none
    | some j => if 0 ≤ (T.fileAt j).2 ∧ (T.fileAt j).2 ≤ ((T.fileAt j).1.size : Int) then DS.settle l (i + 1) r (T.setFile j (settleF (T.fileAt j) (moreOf l i))) else none := rfl
  rw [e, hf]
  dsimp only
  rw [if_pos ⟨h0, h1⟩]
theorem lg_crash (x : ByteArray) (m k n : Int) (l : List Int) (h0 : 0 ≤ m) (h1 : m ≤ (x.size : Int)) : ∃ c : Nat, (lg x m [] k).crash n l = some (lg (x.extract 0 c) c [] k) ∧ m ≤ c ∧ c ≤ x.size := by
  have hm := moreOf_nonneg l 0
  obtain ⟨c, hc⟩ : ∃ c : Nat, (m + min (moreOf l 0) ((x.size : Int) - m)).toNat = c := ⟨_, rfl⟩
  have hc2 : m ≤ c ∧ c ≤ x.size := by omega
  have hz : (x.extract 0 c).size = c := by rw [ByteArray.size_extract]; omega
  refine ⟨c, ?_, hc2.1, hc2.2⟩
  have hop : (lg x m [] k).opn.length - (max n 0).toNat = 0 := by show 0 - (max n 0).toNat = 0; omega
  refine crash_of (T := lg x m [] k) (R := lg (x.extract 0 c) c [] k) hop rfl (by show ([[108, 111, 103]] : List (List UInt8)).mergeSort leB = [[108, 111, 103]]; simp) ?_
  rw [settle_go (T := lg x m [] k) (j := 0) (by kernel_rfl) h0 h1]
  have he : settleF ((lg x m [] k).fileAt 0) (moreOf l 0) = (x.extract 0 c, (c : Int)) := by
    show settleF (x, m) (moreOf l 0) = _
    unfold settleF
    dsimp only
    rw [hc, hz]
  rw [he]
  rfl
end Go.Proofs.YtdnfflfofgeokaaDoor.Dk
