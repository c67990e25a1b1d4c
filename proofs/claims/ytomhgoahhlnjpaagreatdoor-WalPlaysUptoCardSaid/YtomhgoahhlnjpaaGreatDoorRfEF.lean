/- Several texts in one. -/
import Derived.Test.YtomhgoahhlnjpaaGreatDoorRfAD
import Derived.Sort.Walk0
/- What the printed functions of the document's disk give, in plain Lean: without, with, done, later. -/
namespace Go.Proofs.YtomhgoahhlnjpaaGreatDoor.Rf
open Go.RowKit Go.Proofs.YtomhgoahhlnjpaaGreatDoorW.PrintWords Go.Proofs.YtomhgoahhlnjpaaGreatDoor.PRef Go.Proofs.YtomhgoahhlnjpaaGreatDoor.Dk

theorem without_l0 (l : List S116) (a : ByteArray) (hl : l.length ≤ 1099511627776) : ∀ (d i k : Nat) (out : List S116), i + d = l.length → d < k → out.length ≤ i → lodestarref02_without.l0 k l a out (i : Int) = some (out ++ withoutL (l.drop i) a) := by
  intro d
  induction d with
  | zero =>
    intro i k out h1 h2 h3
    obtain ⟨k, rfl⟩ : ∃ k', k = k' + 1 := ⟨k - 1, by omega⟩
    unfold lodestarref02_without.l0
    rw [if_neg (by omega), List.drop_eq_nil_of_le (by omega)]
    simp [withoutL]
  | succ d ih =>
    intro i k out h1 h2 h3
    obtain ⟨k, rfl⟩ : ∃ k', k = k' + 1 := ⟨k - 1, by omega⟩
    unfold lodestarref02_without.l0
    rw [if_pos (by omega), if_pos (by omega), rd95 l i (by omega), List.drop_eq_getElem_cons (show i < l.length by omega)]
    have hw : wrap64 ((i : Int) + 1) = ((i + 1 : Nat) : Int) := w64 (by omega) (by omega)
    unfold withoutL at ih ⊢
    by_cases e : l[i].f0.toList = a.toList
    · rw [if_pos e, hw, ih (i + 1) k out (by omega) (by omega) (by omega), List.filter_cons_of_neg (by simp [e])]
    · rw [if_neg e, if_pos (by omega), hw, ih (i + 1) k _ (by omega) (by omega) (by simp; omega), List.filter_cons_of_pos (by simp [e]), List.append_assoc]
      rfl
theorem without_f (l : List S116) (a : ByteArray) (hl : l.length ≤ 1099511627776) (k : Nat) (hk : l.length < k) : lodestarref02_without.f k l a = some (withoutL l a) := by
  exact without_l0 l a hl l.length 0 k [] (by omega) hk (by simp)
theorem without_len (l : List S116) (a : ByteArray) : (withoutL l a).length ≤ l.length := List.length_filter_le _ _
theorem ins_len (l : List S116) (y : S116) : (insL l y).length = l.length + 1 := by
  induction l with
  | nil => rfl
  | cons x l ih =>
    unfold insL
    split
    · simp [ih]
    · rfl
theorem with_l0 (l : List S116) (a : ByteArray) (n : Int) (hl : l.length ≤ 1099511627776) : ∀ (d i k : Nat), i + d = l.length → d < k → lodestarref02_with.l0 k l a n (i : Int) = some (l.take i ++ insL (l.drop i) ⟨a, n⟩) := by
  intro d
  induction d with
  | zero =>
    intro i k h1 h2
    obtain ⟨k, rfl⟩ : ∃ k', k = k' + 1 := ⟨k - 1, by omega⟩
    unfold lodestarref02_with.l0
    obtain rfl : i = l.length := by omega
    simp only [Int.lt_irrefl, if_false, Int.natCast_nonneg, if_true, Int.le_refl, Int.toNat_natCast, Option.bind_some, List.nil_append, List.take_length, List.drop_length, List.length_nil, List.length_append, List.length_cons, Nat.zero_add, Nat.add_zero, List.append_nil]
    rw [if_pos (by omega), if_pos (by omega), if_pos (by omega)]
    rfl
  | succ d ih =>
    intro i k h1 h2
    obtain ⟨k, rfl⟩ : ∃ k', k = k' + 1 := ⟨k - 1, by omega⟩
    unfold lodestarref02_with.l0
    rw [if_pos (by omega), if_pos (by omega), rd95 l i (by omega)]
    have hw : wrap64 ((i : Int) + 1) = ((i + 1 : Nat) : Int) := w64 (by omega) (by omega)
    have hlt : i < l.length := by omega
    rw [bytesLess_eq]
    by_cases e : l[i].f0.toList < a.toList
    · rw [if_pos (by simpa using e), hw, ih (i + 1) k (by omega) (by omega), List.drop_eq_getElem_cons hlt, insL, if_pos e, List.take_succ_eq_append_getElem hlt, List.append_assoc]
      rfl
    · rw [if_neg (by simpa using e), if_pos (by omega)]
      simp only [Int.toNat_natCast, Option.bind_some, List.nil_append, List.length_nil, List.length_append, List.length_cons, List.length_take, List.length_drop, Nat.zero_add]
      rw [if_pos (by omega), if_pos (by omega), if_pos (by omega)]
      have hd : insL (l.drop i) ⟨a, n⟩ = ⟨a, n⟩ :: l.drop i := by
        rw [List.drop_eq_getElem_cons hlt, insL, if_neg e]
      rw [hd, List.append_assoc]
      rfl
theorem with_f (l : List S116) (a : ByteArray) (n : Int) (hl : l.length ≤ 1099511627776) (k : Nat) (hk : l.length < k) : lodestarref02_with.f k l a n = some (withL l a n) := by
  unfold lodestarref02_with.f
  rw [without_f l a hl k hk]
  have h1 := without_len l a
  exact with_l0 (withoutL l a) a n (by omega) (withoutL l a).length 0 k (by omega) (by omega)
theorem done_f (l : List S116) (c : S114) (hl : l.length ≤ 1099511627776) : lodestarref02_done.f (l.length + 1) l c.f0 c.f1 c.f2 c.f3 = some (doneL l c) := by
  unfold lodestarref02_done.f doneL
  by_cases h1 : c.f0 = 1
  · rw [if_pos h1, if_pos h1, with_f l _ _ hl _ (by omega)]; rfl
  · rw [if_neg h1, if_neg h1]
    by_cases h2 : c.f0 = 2
    · rw [if_pos h2, if_pos h2, without_f l _ hl _ (by omega)]
      have h3 := without_len l c.f1
      show (lodestarref02_with.f (l.length + 1) (withoutL l c.f1) c.f2 c.f3).bind _ = _
      rw [with_f _ _ _ (by omega) _ (by omega)]; rfl
    · rw [if_neg h2, if_neg h2, without_f l _ hl _ (by omega)]; rfl
def laterF (n : Int) (f : S40) : S40 := if 0 < f.f0 ∧ f.f0 < 1099511627776 then ⟨f.f0 + n, f.f1, f.f2⟩ else f
theorem rd41 (l : List S40) (i : Nat) (h : i < l.length) : rd_T40 l (i : Int) = l[i] := by
  unfold rd_T40
  rw [Int.toNat_natCast, List.getD_eq_getElem?_getD, List.getElem?_eq_getElem h]
  rfl
end Go.Proofs.YtomhgoahhlnjpaaGreatDoor.Rf

/- The document's own disk, walked: a change of names. -/
namespace Go.Proofs.YtomhgoahhlnjpaaGreatDoor.Rf
open Go.RowKit Go.Proofs.YtomhgoahhlnjpaaGreatDoorW.PrintWords Go.Proofs.YtomhgoahhlnjpaaGreatDoor.PRef Go.Proofs.YtomhgoahhlnjpaaGreatDoor.Dk

theorem info90 : (Tryz.prog.info? 114).map (fun i => (i.zero, i.size, i.bytes)) = some (some (.agg #[.int .i64 0, .string ⟨#[]⟩, .string ⟨#[]⟩, .int .i64 0]), 4, 48) := by kernel_rfl
/-- a row that was laid anew is one's own -/
theorem row_mine {α : Type} {d : Kd α} {e : Nat} {own : Nat → Prop} {w w1 w2 : World} {v : Value} {l : List α} (h : Kd.R d e w2 w1.heap.size (fun _ => True) v l) (hs : w.heap.size ≤ w1.heap.size) : Kd.R d e w2 0 (Dk.more own w w2) v l :=
  Kd.R_lower (Kd.R_mono (Kd.R_bound h) (fun k hk => .inr ⟨by have := hk.2.1; omega, hk.2.2.1⟩)) (Nat.zero_le _)

section
variable {own : Nat → Prop} {w w' : World} {m : Nat} {R : RS} {v0 v1 v2 v3 v4 : Value}
theorem turn_r (h : RAt own w m R v0 v1 v2 v3 v4) (c : S114) (hl : R.now.length ≤ 1099511627776) (hn : R.opn.length < 1099511627776) :
    Calls Tryz.prog 57 #[.pointer (some ⟨m, 0, none⟩), .agg #[.int .i64 c.f0, .string c.f1, .string c.f2, .int .i64 c.f3]] w fun e w' => e = .returned (.tuple #[]) ∧ (∃ v1' v3', RAt (Dk.more own w w') w' m (R.turnR c) v0 v1' v2 v3' v4) ∧ Kept own w w' := by
  obtain ⟨A1, c1, rfl, hlc1, hC1⟩ := Kd.R_reads h.now
  obtain ⟨A3, c3, rfl⟩ := Kd.R_slice h.opn
  have H := Aside0.mk h
  have HN := Aside0.mk hn
  have HD : Aside0 (∀ {w1 : World}, Below w.heap.size w w1 → Calls Tryz.prog 47 #[.slice A1 R.now.length c1, .agg #[.int .i64 c.f0, .string c.f1, .string c.f2, .int .i64 c.f3]] w1 fun e w' => ∃ v, e = .returned v ∧ Kd.R k116 116 w' w1.heap.size (fun _ => True) v (doneL R.now c) ∧ Below w1.heap.size w1 w') :=
    ⟨fun hb => lodestarref02_done.calls _ A1 c1 R.now c.f0 c.f1 c.f2 c.f3 _ _ (Kd.C_below hC1 hb) hlc1 (done_f R.now c hl)⟩
  clear h hlc1 hC1 hl hn
  go_enter Tryz.func57, Tryz.ntmps57
  go_wp2_with (first | ((with_reducible refine gate_dst (N := 3) rfl ?_); refine box_event ?hg (N := 3) ?hd (cs := #[.int .i64 c.f0, .string c.f1, .string c.f2, .int .i64 c.f3]) (t := 114) ?hr ?_; (case hd => rfl); (case hg => rfl); (case hr => first | (go_simp; done) | (go_simp; rfl)); intro gb hgb w1 hbox hb; have H1 := Aside0.mk (H.out.below hb); have B1 := Aside0.mk hb; have HB1 := Aside0.mk hbox; have HG := Aside0.mk hgb; have HDd := Aside0.mk (HD.out (below_drew1 hb)); have z0 := (blk_cell hbox 0).trans rfl; have z1 := (blk_cell hbox 1).trans rfl; have z2 := (blk_cell hbox 2).trans rfl; have z3 := (blk_cell hbox 3).trans rfl; obtain ⟨y0, y1, y2, y3, y4, y5⟩ := H1.out.cells; have yf1 := H1.out.frozen 1; clear hbox hb hgb y0 y2 y3 y4 y5) | go_in)
  go_region_with (go_at_call 47; (with_reducible refine (HDd.out).mono ?_); rintro e w2 ⟨vN, rfl, hR, hb2⟩; obtain ⟨A2, c2, rfl⟩ := Kd.R_slice hR; have R2 := Aside0.mk hR; have B2 := Aside0.mk hb2; obtain ⟨u0, u1, u2, u3, u4, u5⟩ := (H1.out.drew.below hb2).cells; have uf1 := (H1.out.drew.below hb2).frozen 1; clear hR hb2 u0 u2 u3 u4 u5)
  all_goals (
    generalize hw : w2.setCell ⟨m, 1, none⟩ (.slice A2 (doneL R.now c).length c2) = w3
    have S1 : w.heap.size ≤ w1.drew.heap.size := B1.out.size
    have H3 : Aside0 (RAt (Dk.more own w w2) w3 m { R with now := doneL R.now c } v0 (.slice A2 (doneL R.now c).length c2) v2 (.slice A3 R.opn.length c3) v4) := ⟨by rw [← hw]; exact ((H1.out.drew.below B2.out).more).setNow (row_mine R2.out S1)⟩
    have K3 : Aside0 (Kept own w w3) := ⟨by rw [← hw]; exact kput (kbelow (kbelow (Kept.refl own w) B1.out).drew B2.out) H.out.ownm _ _⟩
    have C3 := Aside0.mk (Kd.R_reads' H3.out.opn).2.2
    obtain ⟨x0, x1, x2, x3, x4, x5⟩ := H3.out.cells
    have X3 : Aside0 (w3.heap[gb]? = some (.cells #[.int .i64 c.f0, .string c.f1, .string c.f2, .int .i64 c.f3] 114 (0, 0))) := ⟨by rw [← hw]; exact (heap_set_ne (show gb ≠ m from fun e => by have := H.out.lt; have := HG.out; omega) _).trans ((B2.out.block gb (blk_lt HB1.out)).trans HB1.out)⟩
    clear hw S1 R2 B2 x0 x1 x2 x4 x5 u1 uf1 y1 yf1 z0 z1 z2 z3
    go_wp2_with (first
      | ((with_reducible refine gate_builtin (b := .append) (xs := #[.tmp 14, .tmp 18]) rfl ?_); at_builtin; refine Kd.R_append_rows k114 (w0 := w3) w3.heap.size rfl (.tmp 14) (.tmp 18) 29 114 (.agg #[.int .i64 0, .string ⟨#[]⟩, .string ⟨#[]⟩, .int .i64 0]) 48 rfl Tryz.underlying29 info90 rfl (by decide) (by omega) (.slice none 0 0) ([] : List S114) R.opn _ _ _ (fun _ => True) (fun _ => False) rfl rfl ?aO ?aR (fun _ _ h => h) (fun _ h => h.elim) (fun _ _ => trivial) ?aB ?aS ?aL ?_; (case aR => exact C3.out); (case aB => exact Below.refl _ _); (case aO => exact Kd.R_nil _ _ _ _ _); (case aS => exact Nat.le_refl _); (case aL => have := HN.out; show (0 + R.opn.length) * 48 ≤ 140737488355328; omega); intro v5 w5 ho hb hg hat; have R5 := Aside0.mk ho; have B5 := Aside0.mk hb; have X5 : Aside0 (w5.heap[gb]? = some (.cells #[.int .i64 c.f0, .string c.f1, .string c.f2, .int .i64 c.f3] 114 (0, 0))) := ⟨(hb.block gb (blk_lt X3.out)).trans X3.out⟩; have z0 := (blk_cell X5.out 0).trans rfl; have z1 := (blk_cell X5.out 1).trans rfl; have z2 := (blk_cell X5.out 2).trans rfl; have z3 := (blk_cell X5.out 3).trans rfl; clear ho hb hg hat x3)
      | ((with_reducible refine gate_builtin (b := .append) (xs := #[.tmp 21, .tmp 23]) rfl ?_); at_builtin; refine Kd.R_append k114 (w0 := w3) w3.heap.size rfl (.tmp 21) (.tmp 23) 29 114 (.agg #[.int .i64 0, .string ⟨#[]⟩, .string ⟨#[]⟩, .int .i64 0]) 48 rfl Tryz.underlying29 info90 rfl (by decide) (by omega) v5 ([] ++ R.opn) c [.int .i64 c.f0, .string c.f1, .string c.f2, .int .i64 c.f3] (fun _ => True) (fun _ => False) rfl rfl ?aP (fun _ hk => hk.elim) (fun _ _ => trivial) ?aO ?aB ?aS ?aL ?_; (case aP => exact k114_mkM _ _ _ c); (case aB => exact B5.out); (case aO => exact R5.out); (case aS => exact B5.out.size); (case aL => have := HN.out; show (R.opn.length + 1) * 48 ≤ 140737488355328; omega); intro v6 w6 ho hb hg hat; obtain ⟨A6, c6, rfl⟩ := Kd.R_slice ho; have R6 := Aside0.mk ho; have B6 := Aside0.mk hb; obtain ⟨y0, y1, y2, y3, y4, y5⟩ := (H3.out.below hb).cells; have yf3 := (H3.out.below hb).frozen 3; clear ho hb hg hat z0 z1 z2 z3 y0 y1 y2 y4 y5)
      | go_in)
    refine bodyPost_end (results_none rfl _ _ _) rfl ?_
    have S6 := B6.out.size
    have hm : ∀ k, Dk.more own w w2 k → own k ∨ w.heap.size ≤ k := fun k hk => hk.imp id (·.1)
    have R7 := row_mine (own := Dk.more own w w2) (w := w3) (w1 := w3) R6.out (Nat.le_refl _)
    rw [show ([] ++ R.opn ++ [c] : List S114).length = R.opn.length + 1 by simp, List.nil_append] at R7
    have H6 := ((H3.out.below B6.out).more (wa := w3)).setOpn R7
    have K6 := kput (kbelow K3.out B6.out) H.out.ownm 3 (.slice A6 (R.opn.length + 1) c6)
    exact ⟨rfl, ⟨_, _, H6.lift (fun k hk => by
      rcases hk with hk | hk
      · exact hm k hk
      · exact .inr (Nat.le_trans K3.out.size hk.1)) (fun k hk => Nat.lt_of_lt_of_le (H.out.bnd k hk) K6.size)⟩, K6⟩)
end
end Go.Proofs.YtomhgoahhlnjpaaGreatDoor.Rf
