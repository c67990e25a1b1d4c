/- The disk's methods: laws at the operations that write its map and its changes. -/
import Derived.Test.YtokienfegjlocaaDkE
import Derived.Deep.RegionLaw
import Derived.StillTailTactics
namespace Go.Proofs.Ytokienfegjlocaa.Dk
open Go.RowKit Go.Maps Go.ChangeMaps Go.WideAt Go.WideMaps Go.Proofs.YtokienfegjlocaaW.PrintWords

def Is (own : Nat → Prop) (w : World) (d : Nat) (S : DS) : Prop := ∃ mb bs vo vp, At own w d S mb bs vo vp
theorem info72 : (Try.prog.info? 72).map (fun i => (i.zero, i.size, i.bytes)) = some (some (.agg #[.string ⟨#[]⟩, .string ⟨#[]⟩, .pointer none, .int .i64 0]), 4, 48) := by kernel_rfl

/-- a change is laid behind the others: the disk's slice, grown, and put into its field -/
theorem At.setOpn {own : Nat → Prop} {w w1 : World} {d mb : Nat} {S : DS} {bs : List Nat} {vo vp : Value} (h : At own w d S mb bs vo vp) (c : Chg) (hc : ∀ i, c.old = some i → i < bs.length) {v1 : Value}
    (hr : w1.ownsRow 0 72 4 v1 (S.opn.length + 1) (S.opn.flatMap (chgV bs) ++ chgV bs c)) (hg : w.grownBy w1 vo.ownBlock) (hat : v1.ownBlock = vo.ownBlock ∨ ∃ b, v1.ownBlock = some b ∧ w.heap.size ≤ b) :
    At (more own w w1) (w1.setCell ⟨d, 1, none⟩ v1) d { S with opn := S.opn ++ [c] } mb bs v1 vp := by
  have hne : ∀ k, own k → vo.ownBlock ≠ some k → w1.heap[k]? = w.heap[k]? := fun k hk hn => hg.block k (h.bnd k hk) (fun e => hn e.symm)
  have hvo : ∀ {k : Nat} {cs : Array Value} {t : TypeId}, w.heap[k]? = some (.cells cs t (0, 0)) → 72 ≠ t → vo.ownBlock ≠ some k := fun hk ht e => own_ne h.opn hk ht e.symm
  have hb : w1.heap[d]? = some (.cells #[.map (some mb), vo, .int .i64 S.steps, vp] 65 (0, 0)) := (hne d h.ownd (hvo h.blk (by decide))).trans h.blk
  have hpl : ∀ k, vp.ownBlock = some k → w1.heap[k]? = w.heap[k]? := fun k hk => by
    obtain ⟨cs, hcs⟩ := h.pblk k hk
    exact hne k (h.ownp k hk) (hvo hcs (by decide))
  have hpd : ∀ k, vp.ownBlock = some k → k ≠ d := fun k hk e => by
    obtain ⟨cs, hcs⟩ := h.pblk k hk
    rw [e, h.blk] at hcs
    cases hcs
  have hmm : w1.heap[mb]? = w.heap[mb]? := hne mb h.ownm (fun e => by
    have := ne_own_map h h.opn mb e
    exact this rfl)
  have hfl : ∀ (i b : Nat) (f : ByteArray × Int), bs[i]? = some b → S.fs[i]? = some f → w1.heap[b]? = some (.cells #[.string f.1, .int .i64 f.2] 70 (0, 0)) := fun i b f hi hf =>
    (hne b (h.ownf b (List.mem_of_getElem? hi)) (hvo (h.file i b f hi hf) (by decide))).trans (h.file i b f hi hf)
  exact
  { blk := by rw [blk_set hb]; rfl
    mp := by
      obtain ⟨es, clock, hm, r⟩ := h.mp
      exact ⟨es, clock, (heap_set_ne (h.ne_map h.blk) _).trans (hmm.trans hm), r⟩
    file := fun i b f hi hf => (heap_set_ne (h.ne_file h.blk (by decide) hi hf) _).trans (hfl i b f hi hf)
    len := h.len
    nodup := h.nodup
    opn := by
      have hx : (S.opn ++ [c]).flatMap (chgV bs) = S.opn.flatMap (chgV bs) ++ chgV bs c := by simp
      show World.ownsRow _ 0 72 4 v1 (S.opn ++ [c]).length ((S.opn ++ [c]).flatMap (chgV bs))
      rw [hx, List.length_append, List.length_singleton]
      exact own_setCell hr (own_ne hr hb (by decide)) _
    old := fun c' hc' i hi => by
      rcases List.mem_append.1 hc' with hm | hm
      · exact h.old c' hm i hi
      · simp at hm; subst hm; exact hc i hi
    plan := h.plan.move (fun k hk => (heap_set_ne (hpd k hk) _).trans (hpl k hk))
    pblk := fun k hk => by obtain ⟨cs, hcs⟩ := h.pblk k hk; exact ⟨cs, (heap_set_ne (hpd k hk) _).trans ((hpl k hk).trans hcs)⟩
    ownd := .inl h.ownd
    ownm := .inl h.ownm
    ownf := fun b hm => .inl (h.ownf b hm)
    owno := fun k hk => by
      rcases hat with he | ⟨b, he, hbb⟩
      · rw [he] at hk; exact .inl (h.owno k hk)
      · have e2 : b = k := by rw [he] at hk; exact Option.some.inj hk
        subst e2
        have h9 := (hr.lt b he).2
        exact .inr ⟨hbb, h9⟩
    ownp := fun k hk => .inl (h.ownp k hk)
    bnd := fun k hk => by
      rw [size_set]
      rcases hk with hk | hk
      · exact Nat.lt_of_lt_of_le (h.bnd k hk) hg.size
      · exact hk.2 }

theorem chg_one (bs : List Nat) (c : Chg) : ∀ u ∈ chgV bs c, u.oneCell' = true := by
  intro u hu
  simp only [chgV, List.mem_cons, List.not_mem_nil, or_false] at hu
  rcases hu with rfl | rfl | rfl | rfl
  · rfl
  · rfl
  · cases c.old <;> rfl
  · rfl

theorem step_opn (S : DS) : S.step.1.opn = S.opn := by
  unfold DS.step
  split
  · rfl
  · split <;> rfl
theorem step_puts (S : DS) : S.step.1.puts = S.puts := by
  unfold DS.step
  split
  · rfl
  · split <;> rfl
theorem step_steps (S : DS) : S.step.1.steps = S.steps + 1 := by
  unfold DS.step
  split
  · rfl
  · split <;> rfl
theorem step_fs (S : DS) : S.step.1.fs = S.fs := by
  unfold DS.step
  split
  · rfl
  · split <;> rfl
theorem At.more {own : Nat → Prop} {w w1 : World} {d mb : Nat} {S : DS} {bs : List Nat} {vo vp : Value} (h : At own w1 d S mb bs vo vp) (_hk : Kept own w w1) : At (Dk.more own w w1) w1 d S mb bs vo vp :=
  h.wider (fun _ ho => .inl ho) (fun k hq => by
    rcases hq with hq | hq
    · exact h.bnd k hq
    · exact hq.2)
theorem At.lift {own own1 : Nat → Prop} {w w' : World} {d mb : Nat} {S : DS} {bs : List Nat} {vo vp : Value} (h : At own1 w' d S mb bs vo vp) (ho : ∀ k, own1 k → own k ∨ w.heap.size ≤ k) (hb : ∀ k, own k → k < w'.heap.size) : At (Dk.more own w w') w' d S mb bs vo vp :=
  h.wider (fun k hk => by
    rcases ho k hk with hq | hq
    · exact .inl hq
    · exact .inr ⟨hq, h.bnd k hk⟩) (fun k hq => by
    rcases hq with hq | hq
    · exact hb k hq
    · exact hq.2)
theorem more_in {own : Nat → Prop} {w w1 w2 : World} (h : w.heap.size ≤ w1.heap.size) : ∀ k, Dk.more own w1 w2 k → own k ∨ w.heap.size ≤ k := fun k hk => by
  rcases hk with hk | hk
  · exact .inl hk
  · exact .inr (by omega)
theorem At.ne_opn {own : Nat → Prop} {w : World} {d mb : Nat} {S : DS} {bs : List Nat} {vo vp : Value} (h : At own w d S mb bs vo vp) : some d ≠ vo.ownBlock := own_ne h.opn h.blk (by decide)
theorem frozen_grown {w w1 : World} {row : Option Nat} {d : Nat} {cs : Array Value} {t : TypeId} (hg : w.grownBy w1 row) (hb : w.heap[d]? = some (.cells cs t (0, 0))) (hne : some d ≠ row) {j : Nat} : w1.frozen? ⟨d, j, none⟩ = false :=
  blk_frozen ((hg.block d (blk_lt hb) hne).trans hb) j
theorem At.drew {own : Nat → Prop} {w : World} {d mb : Nat} {S : DS} {bs : List Nat} {vo vp : Value} (h : At own w d S mb bs vo vp) : At own w.drew d S mb bs vo vp := h.move (Nat.le_refl _) (fun _ _ => rfl)
theorem Kept.drew {own : Nat → Prop} {w w1 : World} (h : Kept own w w1) : Kept own w w1.drew := ⟨h.os, h.tape, h.output, h.size, h.block⟩
theorem At.lookEq {own : Nat → Prop} {w : World} {d mb : Nat} {S : DS} {bs : List Nat} {vo vp : Value} (h : At own w d S mb bs vo vp) (name : ByteArray) (hl : name.size ≤ maxLen) (v : Value) (hv : fileV bs (S.find name) = v) :
    (Instr.lookup 62 (.map (some mb)) (.string name) false).run Try.prog w = .ok v w := by
  obtain ⟨v1, ps, hrun, hv1⟩ := h.mp.lookup law9 Try.underlying62 (zero68 w) (rdF_nil bs) (keyOf_string_mk Try.underlying9 hl)
  obtain ⟨hv2, _, _⟩ := rdF_inv hv1
  obtain rfl : v1 = v := hv2.trans hv
  exact hrun
theorem At.find_lt {own : Nat → Prop} {w : World} {d mb : Nat} {S : DS} {bs : List Nat} {vo vp : Value} (h : At own w d S mb bs vo vp) (name : ByteArray) : ∀ i, S.find name = some i → i < bs.length := fun _ hi => (h.fileCells hi).1
/-- a store into the map, as an equation -/
theorem At.storeEq {own : Nat → Prop} {w : World} {d mb : Nat} {S : DS} {bs : List Nat} {vo vp : Value} (h : At own w d S mb bs vo vp) (name : ByteArray) (hl : name.size ≤ maxLen) (hn : S.puts < maxLen) (o : Option Nat) (ho : ∀ i, o = some i → i < bs.length) (v : Value) (hv : fileV bs o = v) :
    ∃ w', (Instr.mapUpdate 62 (.map (some mb)) (.string name) v).run Try.prog w = .ok () w' ∧ At own w' d { S with D := S.D.put (keyL name) (refD o), puts := S.puts + 1 } mb bs vo vp ∧ Kept own w w' := by
  obtain ⟨w', hr, hm, hg⟩ := h.mp.update law9 Try.underlying62 hn (keyOf_string_mk Try.underlying9 hl) (val := v) (d := refD o) (ps := []) (by rw [← hv]; exact rdF_file h.nodup ho)
  exact ⟨w', hr, h.setM hg hm, Kept.of_grown hg (fun k hk => by cases hk; exact h.ownm)⟩
theorem At.dropEq {own : Nat → Prop} {w : World} {d mb : Nat} {S : DS} {bs : List Nat} {vo vp : Value} (h : At own w d S mb bs vo vp) (name : ByteArray) (hl : name.size ≤ maxLen) (ty : TypeId) :
    ∃ w', (Builtin.delete_ #[62, 9] ty #[.map (some mb), .string name]).run Try.prog w = .ok (.tuple #[]) w' ∧ At own w' d { S with D := S.D.del (keyL name) } mb bs vo vp ∧ Kept own w w' := by
  obtain ⟨w', hr, hm, hg⟩ := h.mp.drop law9 Try.underlying62 (keyOf_string_mk Try.underlying9 hl) ty
  exact ⟨w', hr, h.setM hg.grown hm, Kept.of_grown hg.grown (fun k hk => by cases hk; exact h.ownm)⟩

section
variable {ops : Array Oper} {rest : List Oper} {o : Oper} {a : Act} {Q : Exit → Act → World → Prop} {own : Nat → Prop} {w : World} {d mb : Nat} {S : DS} {bs : List Nat} {vo vp : Value}
theorem wpList_delete_dk (hg : o.guard = none) (m x : Operand) (hop : o.op = Op.call { callee := Callee.builtin Builtin.delete, args := #[m, x], argTypes := #[62, 9] }) (h : At own w d S mb bs vo vp)
    (hm : a.eval m = .map (some mb)) (name : ByteArray) (hx : a.eval x = .string name) (hl : name.size ≤ maxLen)
    (hK : ∀ w', At own w' d { S with D := S.D.del (keyL name) } mb bs vo vp → Kept own w w' → wpList Try.prog ops Q rest (a.put o.dst (.tuple #[])) w') :
    wpList Try.prog ops Q (o :: rest) a w := by
  refine wpList_plain hg fun K' hK' => ?_
  obtain ⟨w', hrun, r1, r2⟩ := h.dropEq name hl o.type
  unfold Oper.wp
  simp [execOp, hop, resolve, invoke, builtin, hm, hx, hrun, Result.andThen]
  exact hK' _ _ (hK w' r1 r2)
theorem wpList_store_dk (hg : o.guard = none) (m x v : Operand) (hop : o.op = Op.mapUpdate 62 m x v) (h : At own w d S mb bs vo vp)
    (hm : a.eval m = .map (some mb)) (name : ByteArray) (hx : a.eval x = .string name) (hl : name.size ≤ maxLen) (hn : S.puts < maxLen) (r : Option Nat) (hr : ∀ i, r = some i → i < bs.length) (u : Value) (hv : a.eval v = u) (hu : fileV bs r = u)
    (hK : ∀ w', At own w' d { S with D := S.D.put (keyL name) (refD r), puts := S.puts + 1 } mb bs vo vp → Kept own w w' → wpList Try.prog ops Q rest (a.put o.dst undef) w') :
    wpList Try.prog ops Q (o :: rest) a w := by
  refine wpList_plain hg fun K' hK' => ?_
  obtain ⟨w', hrun, r1, r2⟩ := h.storeEq name hl hn r hr u hu
  unfold Oper.wp
  simp [execOp, hop, hm, hx, hv, hrun, Result.andThen]
  exact hK' _ _ (hK w' r1 r2)
theorem delete_step_dk {K : Act → World → Prop} (hw : Region.wanted o (yielded ops a.tmps) = true) (m x : Operand) (hop : o.op = Op.call { callee := Callee.builtin Builtin.delete, args := #[m, x], argTypes := #[62, 9] }) (h : At own w d S mb bs vo vp)
    (hm : a.eval m = .map (some mb)) (name : ByteArray) (hx : a.eval x = .string name) (hl : name.size ≤ maxLen)
    (hK : ∀ w', At own w' d { S with D := S.D.del (keyL name) } mb bs vo vp → Kept own w w' → K (a.put o.dst (.tuple #[])) w') :
    if Region.wanted o (yielded ops a.tmps) = true then Oper.wp Try.prog o a w K Q else K (a.put o.dst undef) w := by
  obtain ⟨w', hrun, r1, r2⟩ := h.dropEq name hl o.type
  rw [if_pos hw]
  unfold Oper.wp
  simp [execOp, hop, resolve, invoke, builtin, hm, hx, hrun, Result.andThen]
  exact hK w' r1 r2
theorem append_step_dk {K : Act → World → Prop} (hw : Region.wanted o (yielded ops a.tmps) = true) (s x : Operand) (hop : o.op = .call { callee := .builtin .append, args := #[s, x], argTypes := #[63, 63] }) (h : At own w d S mb bs vo vp)
    (ys : List Value) (c : Chg) (hys : ys = chgV bs c) (hs : a.eval s = vo) (hx : a.eval x = .slice (some ⟨w.heap.size, 0, none⟩) 1 1) (hn : S.opn.length < 1099511627776)
    (hK : ∀ A cc w1, w1.ownsRow 0 72 4 (.slice A (S.opn.length + 1) cc) (S.opn.length + 1) (S.opn.flatMap (chgV bs) ++ chgV bs c) → w.grownBy w1 vo.ownBlock → ((Value.slice A (S.opn.length + 1) cc).ownBlock = vo.ownBlock ∨ ∃ b, (Value.slice A (S.opn.length + 1) cc).ownBlock = some b ∧ w.heap.size ≤ b) → K (a.put o.dst (.slice A (S.opn.length + 1) cc)) w1) :
    if Region.wanted o (yielded ops a.tmps) = true then Oper.wp Try.prog o a (w.alloc (.cells ys.toArray 72)).drew K Q else K (a.put o.dst undef) (w.alloc (.cells ys.toArray 72)).drew := by
  subst hys
  refine step_append_cells (w0 := w.drew) (W := w.drew) 0 hw s x 63 72 (.agg #[.string ⟨#[]⟩, .string ⟨#[]⟩, .pointer none, .int .i64 0]) 4 48 hop Try.underlying63 info72 rfl (by decide) (by decide) vo S.opn.length _ (chgV bs c) hs hx rfl (chg_one bs c) h.drew.opn (Below.refl _ _) (Nat.zero_le _) (by omega) ?_
  intro v1 w1 hr hb hg hat
  obtain ⟨A, cc, rfl⟩ := own_slice hr
  exact hK A cc w1 hr ⟨hg.os, hg.tape, hg.output, hg.size, hg.block⟩ hat
theorem wpList_append_dk (hgd : o.guard = none) (s x : Operand) (hop : o.op = .call { callee := .builtin .append, args := #[s, x], argTypes := #[63, 63] }) (h : At own w d S mb bs vo vp)
    (ys : List Value) (c : Chg) (hys : ys = chgV bs c) (hs : a.eval s = vo) (hx : a.eval x = .slice (some ⟨w.heap.size, 0, none⟩) 1 1) (hn : S.opn.length < 1099511627776)
    (hK : ∀ A cc w1, w1.ownsRow 0 72 4 (.slice A (S.opn.length + 1) cc) (S.opn.length + 1) (S.opn.flatMap (chgV bs) ++ chgV bs c) → w.grownBy w1 vo.ownBlock → ((Value.slice A (S.opn.length + 1) cc).ownBlock = vo.ownBlock ∨ ∃ b, (Value.slice A (S.opn.length + 1) cc).ownBlock = some b ∧ w.heap.size ≤ b) → wpList Try.prog ops Q rest (a.put o.dst (.slice A (S.opn.length + 1) cc)) w1) :
    wpList Try.prog ops Q (o :: rest) a (w.alloc (.cells ys.toArray 72)) := by
  subst hys
  refine print_append_cells (w0 := w) 0 hgd s x 63 72 (.agg #[.string ⟨#[]⟩, .string ⟨#[]⟩, .pointer none, .int .i64 0]) 4 48 hop Try.underlying63 info72 rfl (by decide) (by decide) vo S.opn.length _ (chgV bs c) hs hx rfl (chg_one bs c) h.opn (Below.refl _ _) (Nat.zero_le _) (by omega) ?_
  intro v1 w1 hr hb hg hat
  obtain ⟨A, cc, rfl⟩ := own_slice hr
  exact hK A cc w1 hr hg hat
end

end Go.Proofs.Ytokienfegjlocaa.Dk
