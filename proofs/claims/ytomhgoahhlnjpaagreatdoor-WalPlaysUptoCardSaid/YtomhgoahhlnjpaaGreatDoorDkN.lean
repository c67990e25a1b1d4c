/- The disk's methods, walked: Crash. -/
import Derived.Test.YtomhgoahhlnjpaaGreatDoorDkK
import Derived.Test.YtomhgoahhlnjpaaGreatDoorDkM
namespace Go.Proofs.YtomhgoahhlnjpaaGreatDoor.Dk
open Go.RowKit Go.Maps Go.ChangeMaps Go.WideAt Go.WideMaps Go.Sort Go.Proofs.YtomhgoahhlnjpaaGreatDoorW.PrintWords

/-- the changes of names behind the first m, taken back, the last one first -/
def DS.unroll (T : DS) : Nat → DS
  | 0 => T
  | n + 1 => match T.opn.getLast? with
    | none => T
    | some c => DS.unroll { T.undo c with opn := T.opn.dropLast } n
def moreOf (l : List Int) (i : Nat) : Int := if l = [] then 0 else max 0 (l.getD (i % l.length) 0)
def settleF (f : ByteArray × Int) (more : Int) : ByteArray × Int :=
  (f.1.extract 0 (f.2 + min more ((f.1.size : Int) - f.2)).toNat, ((f.1.extract 0 (f.2 + min more ((f.1.size : Int) - f.2)).toNat).size : Int))
/-- each file, by its names, cut to what is synced and a beginning of the rest; none where a name leads to no file -/
def DS.settle (l : List Int) : Nat → List (List UInt8) → DS → Option DS
  | _, [], T => some T
  | i, n :: r, T => match T.find ⟨n.toArray⟩ with
    | none => none
    | some j => if 0 ≤ (T.fileAt j).2 ∧ (T.fileAt j).2 ≤ ((T.fileAt j).1.size : Int) then DS.settle l (i + 1) r (T.setFile j (settleF (T.fileAt j) (moreOf l i))) else none
def DS.crash (S : DS) (names : Int) (l : List Int) : Option DS :=
  let T := S.unroll (S.opn.length - (max names 0).toNat)
  (T.settle l 0 T.names).map fun R => { R with opn := [], plan := [] }

theorem crash_nil (n : Int) (A : Option Addr) (k c : Nat) (w : World) : Calls Tryz.prog 24 #[.pointer none, .agg #[.int .i64 n, .slice A k c]] w fun e w' => e = .returned (.tuple #[]) ∧ Below w.heap.size w w' := by
  go_enter Tryz.func24, Tryz.ntmps24
  go_wp2
  (try simp only [Exit.inBlock, Exit.then])
  refine bodyPost_ret (results_none rfl _ _ _) rfl ?_
  exact ⟨rfl, (Below.refl _ _).alloc (Nat.le_refl _) _⟩

/-- a slice of ints that is read -/
def IntsAt (w : World) (v : Value) (l : List Int) : Prop := ∃ A c, v = .slice A l.length c ∧ ∀ (i : Nat) (x : Int), l[i]? = some x → ∃ b o, A = some ⟨b, o, none⟩ ∧ w.cell? ⟨b, o + i, none⟩ = some (.int .i64 x)

def opnLen (w : World) (d : Nat) : Nat := match w.cell? ⟨d, 1, none⟩ with | some (.slice _ n _) => n | _ => 0
theorem opnLen_at {own : Nat → Prop} {w : World} {d mb : Nat} {S : DS} {bs : List Nat} {vo vp : Value} (h : At own w d S mb bs vo vp) : opnLen w d = S.opn.length := by
  obtain ⟨A, cc, rfl⟩ := own_slice h.opn
  unfold opnLen
  rw [h.cells.2.1]

theorem row_prefix {w : World} {base : Nat} {e : TypeId} {size n m : Nat} {A : Option Addr} {c : Nat} {xs ys : List Value} (h : w.ownsRow base e size (.slice A n c) n xs) (hm : m ≤ n) (hy : ys = xs.take (m * size)) : w.ownsRow base e size (.slice A m c) m ys := by
  subst hy
  have hle : m * size ≤ n * size := Nat.mul_le_mul_right _ hm
  refine ⟨by rw [List.length_take, h.1]; omega, ?_⟩
  rcases h.2 with ⟨h1, h2⟩ | ⟨g, cap, cur, h1, h2, h3, h4, h5, h6, h7⟩
  · cases h1
    obtain rfl : m = 0 := by omega
    exact .inl ⟨rfl, rfl⟩
  · cases h1
    exact .inr ⟨g, c, cur, rfl, h2, h3, by omega, h5, h6, by rw [← h7, List.take_take]; congr 1; omega⟩
theorem chg_len (bs : List Nat) (l : List Chg) : (l.flatMap (chgV bs)).length = l.length * 4 := by
  induction l with
  | nil => rfl
  | cons f l ih => simp only [List.flatMap_cons, List.length_append, ih, List.length_cons]; have : (chgV bs f).length = 4 := rfl; omega
theorem chg_last (bs : List Nat) (l : List Chg) (c : Chg) (j : Nat) (u : Value) (hu : (chgV bs c)[j]? = some u) : ((l ++ [c]).flatMap (chgV bs))[l.length * 4 + j]? = some u := by
  simp only [List.flatMap_append, List.flatMap_cons, List.flatMap_nil, List.append_nil]
  rw [List.getElem?_append_right (by rw [chg_len]; omega), chg_len, Nat.add_sub_cancel_left]
  exact hu

theorem meas {n i : Nat} (h : i < n) : n - (i + 1) < n - i := by omega
theorem settle_cons {l : List Int} {i : Nat} {nm : List UInt8} {r : List (List UInt8)} {T R : DS} (h : DS.settle l i (nm :: r) T = some R) : ∃ j, T.find ⟨nm.toArray⟩ = some j ∧ 0 ≤ (T.fileAt j).2 ∧ (T.fileAt j).2 ≤ ((T.fileAt j).1.size : Int) ∧
    DS.settle l (i + 1) r (T.setFile j (settleF (T.fileAt j) (moreOf l i))) = DS.settle l i (nm :: r) T := by
  have e : DS.settle l i (nm :: r) T = match T.find ⟨nm.toArray⟩ with
    | none => none
    | some j => if 0 ≤ (T.fileAt j).2 ∧ (T.fileAt j).2 ≤ ((T.fileAt j).1.size : Int) then DS.settle l (i + 1) r (T.setFile j (settleF (T.fileAt j) (moreOf l i))) else none := rfl
  rw [e] at h ⊢
  split at h
  · cases h
  · rename_i j hj
    split at h
    · rename_i hb
      refine ⟨j, hj, hb.1, hb.2, ?_⟩
      rw [if_pos hb]
    · cases h
theorem undo_opn (S : DS) (c : Chg) : (S.undo c).opn = S.opn := by
  unfold DS.undo DS.undo2 DS.undo1
  split <;> split <;> rfl
theorem undo_fs (S : DS) (c : Chg) : (S.undo c).fs = S.fs := by
  unfold DS.undo DS.undo2 DS.undo1
  split <;> split <;> rfl
theorem undo_puts (S : DS) (c : Chg) : (S.undo c).puts ≤ S.puts + 2 := by
  unfold DS.undo DS.undo2 DS.undo1
  split <;> split <;> simp
theorem unroll_step (T : DS) (init : List Chg) (c : Chg) (h : T.opn = init ++ [c]) (m : Nat) (hm : m ≤ init.length) : DS.unroll { T.undo c with opn := init } (init.length - m) = T.unroll (T.opn.length - m) := by
  have e : T.opn.length - m = (init.length - m) + 1 := by rw [h]; simp; omega
  rw [e]
  show _ = match T.opn.getLast? with | none => T | some c => DS.unroll { T.undo c with opn := T.opn.dropLast } (init.length - m)
  rw [h]
  simp

set_option maxRecDepth 100000 in
set_option maxHeartbeats 4000000 in
theorem crash_calls {own : Nat → Prop} {w : World} {d mb : Nat} {S : DS} {bs : List Nat} {vo vp : Value} (h : At own w d S mb bs vo vp) (n : Int) (l : List Int) {vb : Value} (hb : IntsAt w vb l) (hbo : l ≠ [] → ∀ k, vb.ownBlock = some k → ¬ own k)
    (hp : S.puts + 2 * S.opn.length ≤ 8796093022208) (hsz : ∀ c ∈ S.opn, c.a.size ≤ maxLen ∧ c.b.size ≤ maxLen) (hz : ∀ f ∈ S.fs, f.1.size ≤ maxLen) {R : DS} (hc : S.crash n l = some R) :
    Calls Tryz.prog 24 #[.pointer (some ⟨d, 0, none⟩), .agg #[.int .i64 n, vb]] w fun e w' => e = .returned (.tuple #[]) ∧ (∃ vo' vp', At own w' d R mb bs vo' vp') ∧ Kept own w w' := by
  have H := Aside0.mk h
  have HB := Aside0.mk hb
  have HBo := Aside0.mk hbo
  have HP := Aside0.mk hp
  have HSz := Aside0.mk hsz
  have HC := Aside0.mk hc
  have HZ := Aside0.mk hz
  obtain ⟨A, cb, rfl, _⟩ := id hb
  obtain ⟨ln, hln⟩ : ∃ ln, ln = l.length := ⟨_, rfl⟩
  rw [← hln]
  have HLn := Aside0.mk hln
  clear h hb hbo hp hsz hc hz hln
  go_enter Tryz.func24, Tryz.ntmps24
  go_wp2
  have HA1 := Aside0.mk (H.out.below ((Below.refl w.heap.size w).alloc (Nat.le_refl _) (.cells #[.int .i64 n, .slice A ln cb] 43)))
  have X1 : Aside0 ((w.alloc (.cells #[.int .i64 n, .slice A ln cb] 43)).heap[w.heap.size]? = some (.cells #[.int .i64 n, .slice A ln cb] 43 (0, 0)) ∧ ¬ own w.heap.size) := ⟨heap_alloc_new w _, fun ho => absurd (H.out.bnd _ ho) (Nat.lt_irrefl _)⟩
  have HB1 : Aside0 (Below w.heap.size w (w.alloc (.cells #[.int .i64 n, .slice A ln cb] 43))) := ⟨(Below.refl w.heap.size w).alloc (Nat.le_refl _) (.cells #[.int .i64 n, .slice A ln cb] 43)⟩
  generalize w.alloc (.cells #[.int .i64 n, .slice A ln cb] 43) = w1 at HA1 X1 HB1 ⊢
  generalize w.heap.size = g at X1 ⊢
  go_loopw [] (fun wr => ∃ (T : DS) (vo' : Value), Aside0 (At own wr d T mb bs vo' vp) ∧ Aside0 (Kept own w1 wr) ∧ Aside0 (T.unroll (T.opn.length - (max n 0).toNat) = S.unroll (S.opn.length - (max n 0).toNat)) ∧ Aside0 (T.puts + 2 * T.opn.length ≤ 8796093022208) ∧ Aside0 (∀ c ∈ T.opn, c ∈ S.opn) ∧ Aside0 (T.fs = S.fs))
    (fun wr => opnLen wr d)
  case atStart => exact ⟨S, vo, HA1, ⟨Kept.refl _ _⟩, ⟨rfl⟩, HP, ⟨fun _ hc => hc⟩, ⟨rfl⟩⟩
  case round =>
    obtain ⟨T, vo', hA, hK, hU, hP, hS, hF⟩ := hrel
    /-ROUND-/
    by_cases hlen : max n 0 < (T.opn.length : Int)
    · have hne : T.opn ≠ [] := fun e => by rw [e] at hlen; simp at hlen; omega
      obtain ⟨init, c, hT⟩ : ∃ init c, T.opn = init ++ [c] := ⟨T.opn.dropLast, T.opn.getLast hne, (List.dropLast_concat_getLast hne).symm⟩
      obtain ⟨k, hk⟩ : ∃ k, k = init.length := ⟨_, rfl⟩
      have hTl : T.opn.length = k + 1 := by rw [hT, hk]; simp
      have HT := Aside0.mk hT
      have HTk := Aside0.mk (And.intro hk hTl)
      obtain ⟨k0, k1, k2, k3⟩ := hA.out.cells
      have hrow := hA.out.opn
      rcases hrow.2 with ⟨_, h0⟩ | ⟨go, cap, cur, rfl, -, -, hcap, -, -, -⟩
      · omega
      rw [hTl] at k1 hcap
      have hcell : ∀ (j : Nat) (u : Value), (chgV bs c)[j]? = some u → wr.cell? ⟨go, k * 4 + j, none⟩ = some u := fun j u hu => by
        have hj : j < 4 := (List.getElem?_eq_some_iff.1 hu).1
        rw [hrow.cellAt (k * 4 + j) (by rw [hTl]; omega), hT, hk]
        exact chg_last bs init c j u hu
      have y0 : wr.cell? ⟨go, k * 4, none⟩ = some (.string c.a) := hcell 0 _ rfl
      have y1 : wr.cell? ⟨go, k * 4 + 1, none⟩ = some (.string c.b) := hcell 1 _ rfl
      have y2 : wr.cell? ⟨go, k * 4 + 2, none⟩ = some (fileV bs c.old) := hcell 2 _ rfl
      have y3 : wr.cell? ⟨go, k * 4 + 3, none⟩ = some (.int .i64 c.kind) := hcell 3 _ rfl
      have XR := Aside0.mk ((hK.out.block g (blk_lt X1.out.1) X1.out.2).trans X1.out.1)
      have b0 := blk_cell XR.out 0
      have hglt := blk_lt XR.out
      have hdlt := blk_lt hA.out.blk
      have hcT : Aside0 (c ∈ T.opn) := ⟨by rw [hT]; simp⟩
      have hkb : Aside0 (k < 4398046511104) := ⟨by have := hP.out; rw [hTl] at this; omega⟩
      have W1 : wrap64 (k : Int) = (k : Int) := by have := hkb.out; unfold wrap64; omega
      have hq : decide (max n 0 < (k : Int) + 1) = true := by rw [hTl] at hlen; simpa using hlen
      have hcap2 : k ≤ cap := Nat.le_of_succ_le hcap
      clear hT hTl hcell hrow hk
      go_wp2
      go_quiet (fail)
      go_wp2_with (first
        | (go_at_call 45; (with_reducible refine (undo_calls (hA.out.drewN nq) c (hA.out.old c hcT.out) (HSz.out c (hS.out c hcT.out)).1 (HSz.out c (hS.out c hcT.out)).2 (by have := hP.out; have h9 : maxLen = 9223372036854775807 := rfl; omega)).mono ?_); rintro e w2 ⟨rfl, hA2, hK2⟩; obtain ⟨m0, m1, m2, m3⟩ := hA2.cells; have mf1 := hA2.frozen 1; rw [HTk.out.2] at m1; have HA2 := Aside0.mk hA2; have HK2 := Aside0.mk hK2; clear hA2 hK2)
        | go_in)
      obtain ⟨rfl, hTl⟩ := HTk.out
      have hro := HA2.out.opn
      rw [undo_opn] at hro
      have hA3 := HA2.out.setD 1 (.slice (some ⟨go, 0, none⟩) init.length cap) (n' := (T.undo c).steps) (vo' := .slice (some ⟨go, 0, none⟩) init.length cap) (vp' := vp) (opn' := init) (plan' := (T.undo c).plan) rfl (row_prefix hro (by omega) (by rw [HT.out, List.flatMap_append, List.take_left' (chg_len bs init)])) (fun c' hc' => HA2.out.old c' (by rw [undo_opn, HT.out]; exact List.mem_append_left _ hc')) HA2.out.plan HA2.out.pblk (fun k hk => HA2.out.owno k hk) HA2.out.ownp
      refine ⟨⟨_, _, ⟨hA3⟩, ⟨(((hK.out.drewN nq).trans HK2.out (fun _ hk => .inl hk)).trans (Kept.set (own := own) ⟨d, 1, none⟩ HA2.out.ownd _) (fun _ hk => .inl hk))⟩, ⟨?_⟩, ⟨?_⟩, ⟨?_⟩, ⟨(undo_fs T c).trans hF.out⟩⟩, ?_⟩
      · rw [← hU.out]
        exact unroll_step T init c HT.out _ (by omega)
      · have h1 := undo_puts T c
        have h2 := hP.out
        show (T.undo c).puts + 2 * init.length ≤ 8796093022208
        omega
      · intro c' hc'
        exact hS.out c' (by rw [HT.out]; exact List.mem_append_left _ hc')
      · rw [opnLen_at hA3, opnLen_at hA.out, hTl]
        exact Nat.lt_succ_self _
    · have hT0 : Aside0 ((T.settle l 0 T.names).map (fun R => { R with opn := [], plan := [] }) = some R) := ⟨by
        have h1 := HC.out
        unfold DS.crash at h1
        rw [← hU.out] at h1
        have h2 : T.opn.length - (max n 0).toNat = 0 := by omega
        rw [h2] at h1
        exact h1⟩
      obtain ⟨k0, k1, k2, k3⟩ := hA.out.cells
      obtain ⟨Ao, cc, rfl⟩ := own_slice hA.out.opn
      have XR := Aside0.mk ((hK.out.block g (blk_lt X1.out.1) X1.out.2).trans X1.out.1)
      have b0 := blk_cell XR.out 0
      have hglt := blk_lt XR.out
      have hdlt := blk_lt hA.out.blk
      have hq : decide (max n 0 < (T.opn.length : Int)) = false := by simpa using hlen
      have HPT : Aside0 (T.puts ≤ 8796093022208) := ⟨by have := hP.out; omega⟩
      clear hlen
      go_wp2
      go_quiet (fail)
      clear k0 k1 k2 k3 b0
      go_wp2_with (first
        | (go_at_call 46; (with_reducible refine (names_calls (hA.out.drewN nq) HPT.out).mono ?_); rintro e w2 ⟨v, rfl, hrow, hB2⟩; obtain ⟨An, cn, rfl⟩ := own_slice hrow; have HRow := Aside0.mk hrow; have HB2x : Aside0 (Below wr.heap.size wr w2) := ⟨⟨hB2.os, hB2.tape, hB2.output, hB2.size, hB2.block⟩⟩; have HA2 := Aside0.mk ((hA.out.drewN nq).below hB2); have HK2 := Aside0.mk ((hK.out.drewN nq).trans (Kept.of_below (S := fun _ => False) hB2) (fun _ h => h.elim)); clear hrow hB2)
        | go_in)
      have XN : Aside0 (∀ k, An.map (fun a => a.block) = some k → ¬ own k) := ⟨fun k hk ho => by
        cases An with
        | none => cases hk
        | some a => cases hk; exact absurd (Nat.lt_of_lt_of_le (hA.out.bnd _ ho) (HRow.out.lt _ rfl).1) (Nat.lt_irrefl _)⟩
      have X2 := Aside0.mk ((HB2x.out.block g (blk_lt XR.out)).trans XR.out)
      go_loopw [47] (fun vi wr2 => ∃ (i : Nat) (T2 : DS), i ≤ T.names.length ∧ vi = .int .i64 i ∧ Aside0 (At own wr2 d T2 mb bs (.slice Ao T.opn.length cc) vp) ∧ Aside0 (Kept own w2 wr2) ∧ Aside0 (T2.settle l i (T.names.drop i) = T.settle l 0 T.names) ∧ Aside0 (∀ f ∈ T2.fs, f.1.size ≤ maxLen))
        (fun vi _ => T.names.length - (intOf vi).toNat)
      case atStart => exact ⟨0, T, Nat.zero_le _, rfl, HA2, ⟨Kept.refl _ _⟩, ⟨rfl⟩, ⟨by rw [hF.out]; exact HZ.out⟩⟩
      case round =>
        obtain ⟨i, T2, hi, rfl, hA5, hK5, hS5, hZ5⟩ := hrel
        rcases Nat.lt_or_ge i T.names.length with hlt | hge
        · obtain ⟨nm, hnm⟩ : ∃ nm, T.names[i]? = some nm := ⟨_, List.getElem?_eq_getElem hlt⟩
          have hdr : T.names.drop i = nm :: T.names.drop (i + 1) := by
            rw [List.drop_eq_getElem_cons hlt]
            rw [List.getElem?_eq_getElem hlt] at hnm
            rw [Option.some.inj hnm]
          obtain ⟨R0, hR0, _⟩ := Option.map_eq_some_iff.1 hT0.out
          have hst := hS5.out
          rw [hdr] at hst
          obtain ⟨j, hfj, hlo, hhi, hnext⟩ := settle_cons (hst.trans hR0)
          have hlen : Aside0 ((⟨nm.toArray⟩ : ByteArray).size ≤ maxLen) := ⟨strKeys_le hA.out.mp Tryz.underlying9 nm ((List.mergeSort_perm _ _).mem_iff.1 (List.mem_of_getElem? hnm))⟩
          have HNx : Aside0 ((T2.setFile j (settleF (T2.fileAt j) (moreOf l i))).settle l (i + 1) (T.names.drop (i + 1)) = T.settle l 0 T.names) := ⟨hnext.trans hst⟩
          obtain ⟨h1, h2, hbx, h4⟩ := hA5.out.fileIn hfj
          obtain ⟨fb, hfb⟩ : ∃ fb, fb = bs.getD j 0 := ⟨_, rfl⟩
          obtain ⟨fx, hfx⟩ : ∃ fx, fx = T2.fileAt j := ⟨_, rfl⟩
          have hv : Aside0 (fileV bs (T2.find ⟨nm.toArray⟩) = .pointer (some ⟨fb, 0, none⟩)) := ⟨by rw [hfj, hfb]; rfl⟩
          rw [← hfb] at h1 hbx h4
          rw [← hfx] at h2 hbx hlo hhi HNx
          have hfz : Aside0 ((fx.1.size : Int) ≤ 9223372036854775807) := ⟨by have := hZ5.out fx (List.mem_of_getElem? h2); have h9 : maxLen = 9223372036854775807 := rfl; omega⟩
          have H1 := Aside0.mk h1
          have H2 := Aside0.mk h2
          have H4 := Aside0.mk h4
          have x0 := blk_cell hbx 0
          have x1 := blk_cell hbx 1
          have xf0 := blk_frozen hbx 0
          have xf1 := blk_frozen hbx 1
          have hflt := blk_lt hbx
          obtain ⟨k0, k1, k2, k3⟩ := hA5.out.cells
          have XR5 := Aside0.mk ((hK5.out.block g (blk_lt (X2.out)) X1.out.2).trans X2.out)
          have b1 := blk_cell XR5.out 1
          have hglt5 := blk_lt XR5.out
          rcases HRow.out.2 with ⟨_, h0⟩ | ⟨gn, capn, curn, hAn, -, -, -, -, -, -⟩
          · omega
          obtain ⟨rfl, rfl⟩ : An = some ⟨gn, 0, none⟩ ∧ cn = capn := by
            simp only [Value.slice.injEq] at hAn
            exact ⟨hAn.1, hAn.2.2⟩
          have e0 : wr.cell? ⟨gn, i, none⟩ = some (.string ⟨nm.toArray⟩) := by
            have h5 := HRow.out.cellAt i (by omega)
            rw [List.getElem?_map, hnm] at h5
            exact (World.cell?_of_block (w := w2) (w' := wr) (a := ⟨gn, i, none⟩) (hK5.out.block gn (HRow.out.lt _ rfl).2 (XN.out gn rfl))).trans h5
          have hdi : decide ((i : Int) < (T.names.length : Int)) = true := by simpa using hlt
          have HR0 := Aside0.mk hR0
          have hnl : T.names.length ≤ 9223372036854775807 := by
            rcases HRow.out.2 with ⟨_, h0⟩ | ⟨_, cp, _, _, _, _, h5, h6, _, _⟩
            · omega
            · exact Nat.le_trans h5 h6
          clear h1 h2 hbx h4 hdr hst hnext hfj hfb hfx hnm hR0
          by_cases hl : l = []
          · have hl0 : decide ((0 : Int) < (ln : Int)) = false := by rw [HLn.out, hl]; rfl
            have hl1 : decide (0 < ln) = false := by rw [HLn.out, hl]; rfl
            have HMo : Aside0 (moreOf l i = 0) := ⟨by unfold moreOf; rw [if_pos hl]⟩
            clear hl
            have hm : min (0 : Int) ((fx.1.size : Int) - fx.2) = 0 := by omega
            have hfz2 := hfz.out
            have hsl : 0 ≤ fx.2 ∧ fx.2 ≤ (fx.1.size : Int) := ⟨hlo, hhi⟩
            have HSt : Aside0 (settleF fx (moreOf l i) = (fx.1.extract 0 fx.2.toNat, ((fx.1.extract 0 fx.2.toNat).size : Int))) := ⟨by rw [HMo.out]; unfold settleF; rw [hm, Int.add_zero]⟩
            go_wp2_with (first
              | (at_lookup; refine wpList_lookup_dk _ rfl _ _ rfl hA5.out rfl ⟨nm.toArray⟩ rfl hlen.out _ hv.out ?_)
              | go_in)
            obtain ⟨E, hE⟩ : ∃ E, fx.1.extract 0 fx.2.toNat = E := ⟨_, rfl⟩
            rw [hE] at HSt
            go_region
            try simp only [hE]
            have hes : E.size ≤ fx.1.size := by rw [← hE]; simp; omega
            have HA6 := Aside0.mk (hA5.out.setF H1.out H2.out 0 (.string E) (E, fx.2) rfl).drew
            have HK6 := Aside0.mk ((hK5.out).trans (Kept.set (own := own) ⟨fb, 0, none⟩ H4.out (.string E)) (fun _ hk => .inl hk)).drew
            have hjl := (List.getElem?_eq_some_iff.1 H2.out).1
            clear hE k0 k1 k2 k3 x0 x1 xf0 xf1 hflt hsl
            generalize (wr.setCell ⟨fb, 0, none⟩ (.string E)).drew = w6 at HA6 HK6 ⊢
            have hb6 := HA6.out.file j fb (E, fx.2) H1.out (by simp [hjl])
            have x0 := blk_cell hb6 0
            have x1 := blk_cell hb6 1
            have xf1 := blk_frozen hb6 1
            clear hb6
            go_wp2
            have hA7 := HA6.out.setF H1.out (f := (E, fx.2)) (by simp [hjl]) 1 (.int .i64 (E.size : Int)) (E, (E.size : Int)) rfl
            dsimp only at hA7
            rw [List.set_set] at hA7
            have hn2 := HNx.out
            rw [HSt.out] at hn2
            refine ⟨⟨i + 1, _, hlt, by simp, ⟨hA7⟩, ⟨HK6.out.trans (Kept.set (own := own) ⟨fb, 1, none⟩ H4.out _) (fun _ hk => .inl hk)⟩, ⟨hn2⟩, ⟨?_⟩⟩, ?_⟩
            · intro f hf
              rcases List.mem_or_eq_of_mem_set hf with hf | hf
              · exact hZ5.out f hf
              · subst hf
                have := hfz.out
                have h9 : maxLen = 9223372036854775807 := rfl
                show E.size ≤ maxLen
                omega
            · have hms := meas hlt
              simpa [intOf] using hms
          · obtain ⟨b, o, hAb, hcl⟩ : ∃ b o, A = some ⟨b, o, none⟩ ∧ w.cell? ⟨b, o + i % ln, none⟩ = some (.int .i64 (l.getD (i % ln) 0)) := by
              obtain ⟨A', c', he, hce⟩ := HB.out
              have hpos : 0 < l.length := List.length_pos_iff.2 hl
              obtain ⟨b, o, h5, h6⟩ := hce (i % l.length) (l.getD (i % l.length) 0) (by rw [List.getD, List.getElem?_eq_getElem (Nat.mod_lt _ hpos)]; rfl)
              cases he
              exact ⟨b, o, h5, by rw [HLn.out]; exact h6⟩
            obtain ⟨xv, hxv⟩ : ∃ xv, xv = l.getD (i % ln) 0 := ⟨_, rfl⟩
            rw [← hxv] at hcl
            have HMo : Aside0 (moreOf l i = max 0 xv) := ⟨by unfold moreOf; rw [if_neg hl, hxv, HLn.out]⟩
            subst hAb
            have hblt := World.block_lt_of_cell? w _ hcl
            have hbno := HBo.out hl b rfl
            have hcw : wr.cell? ⟨b, o + i % ln, none⟩ = some (.int .i64 xv) := by
              have hKw : Kept own w wr := ((Kept.of_below (S := own) HB1.out).trans HK2.out (fun _ hk => .inl hk)).trans hK5.out (fun _ hk => .inl hk)
              exact (World.cell?_of_block (w := w) (w' := wr) (a := ⟨b, o + i % ln, none⟩) (hKw.block b hblt hbno)).trans hcl
            have hlp : 0 < ln := by rw [HLn.out]; exact List.length_pos_iff.2 hl
            have hl0 : decide ((0 : Int) < (ln : Int)) = true := by simpa using hlp
            have hl1 : decide (0 < ln) = true := by simpa using hlp
            have hrb : 0 ≤ (i : Int) % (ln : Int) ∧ (i : Int) % (ln : Int) < (ln : Int) := ⟨Int.emod_nonneg _ (by omega), Int.emod_lt_of_pos _ (by omega)⟩
            obtain ⟨sz, hsz⟩ : ∃ sz : Int, sz = min (max 0 xv) ((fx.1.size : Int) - fx.2) := ⟨_, rfl⟩
            have hfz2 := hfz.out
            have hszb : 0 ≤ sz ∧ fx.2 + sz ≤ (fx.1.size : Int) := by omega
            obtain ⟨hsz0, hsz1⟩ := hszb
            have hsl : 0 ≤ fx.2 + sz ∧ fx.2 + sz ≤ (fx.1.size : Int) := ⟨by omega, hsz1⟩
            have HSt : Aside0 (settleF fx (moreOf l i) = (fx.1.extract 0 (fx.2 + sz).toNat, ((fx.1.extract 0 (fx.2 + sz).toNat).size : Int))) := ⟨by rw [HMo.out, hsz]; rfl⟩
            have hsz' := hsz.symm
            clear hl hcl hsz hxv hblt hbno
            go_wp2_with (first
              | (at_lookup; refine wpList_lookup_dk _ rfl _ _ rfl hA5.out rfl ⟨nm.toArray⟩ rfl hlen.out _ hv.out ?_)
              | go_in)
            go_region
            go_wp2
            obtain ⟨E, hE⟩ : ∃ E, fx.1.extract 0 (fx.2 + sz).toNat = E := ⟨_, rfl⟩
            rw [hE] at HSt
            go_region
            try simp only [hE]
            have hes : E.size ≤ fx.1.size := by rw [← hE]; simp; omega
            have HA6 := Aside0.mk (hA5.out.setF H1.out H2.out 0 (.string E) (E, fx.2) rfl).drew.drew
            have HK6 := Aside0.mk ((hK5.out).trans (Kept.set (own := own) ⟨fb, 0, none⟩ H4.out (.string E)) (fun _ hk => .inl hk)).drew.drew
            have hjl := (List.getElem?_eq_some_iff.1 H2.out).1
            clear hE k0 k1 k2 k3 x0 x1 xf0 xf1 hflt hsl
            generalize ((wr.setCell ⟨fb, 0, none⟩ (.string E)).drew).drew = w6 at HA6 HK6 ⊢
            have hb6 := HA6.out.file j fb (E, fx.2) H1.out (by simp [hjl])
            have x0 := blk_cell hb6 0
            have x1 := blk_cell hb6 1
            have xf1 := blk_frozen hb6 1
            clear hb6
            go_wp2
            have hA7 := HA6.out.setF H1.out (f := (E, fx.2)) (by simp [hjl]) 1 (.int .i64 (E.size : Int)) (E, (E.size : Int)) rfl
            dsimp only at hA7
            rw [List.set_set] at hA7
            have hn2 := HNx.out
            rw [HSt.out] at hn2
            refine ⟨⟨i + 1, _, hlt, by simp, ⟨hA7⟩, ⟨HK6.out.trans (Kept.set (own := own) ⟨fb, 1, none⟩ H4.out _) (fun _ hk => .inl hk)⟩, ⟨hn2⟩, ⟨?_⟩⟩, ?_⟩
            · intro f hf
              rcases List.mem_or_eq_of_mem_set hf with hf | hf
              · exact hZ5.out f hf
              · subst hf
                have := hfz.out
                have h9 : maxLen = 9223372036854775807 := rfl
                show E.size ≤ maxLen
                omega
            · have hms := meas hlt
              simpa [intOf] using hms
        · obtain rfl : i = T.names.length := by omega
          have hdi : decide ((T.names.length : Int) < (T.names.length : Int)) = false := by simp
          have hfin : Aside0 (R = { T2 with opn := [], plan := [] }) := ⟨by
            have h1 := hS5.out
            rw [List.drop_length] at h1
            have h2 := hT0.out
            rw [← h1] at h2
            exact (Option.some.inj h2).symm⟩
          obtain ⟨k0, k1, k2, k3⟩ := hA5.out.cells
          have kf1 := hA5.out.frozen 1
          have kf3 := hA5.out.frozen 3
          go_wp2
          go_end0
          have hA8 := hA5.out.setD 1 (.slice none 0 0) (n' := T2.steps) (vo' := .slice none 0 0) (vp' := vp) (opn' := []) (plan' := T2.plan) rfl (own_nil _ _ _ _) (fun c hc => by cases hc) hA5.out.plan hA5.out.pblk (fun k hk => by cases hk) hA5.out.ownp
          have hA9 := hA8.setPlan (v := .slice none 0 0) (l := []) ⟨none, 0, rfl, Nat.le_refl _, fun i f hf => by simp at hf⟩ (.inr rfl)
          have hKw : Kept own w wr := ((Kept.of_below (S := own) HB1.out).trans HK2.out (fun _ hk => .inl hk)).trans hK5.out (fun _ hk => .inl hk)
          rw [hfin.out]
          exact ⟨rfl, ⟨_, _, hA9⟩, (hKw.trans (Kept.set (own := own) ⟨d, 1, none⟩ hA5.out.ownd _) (fun _ hk => .inl hk)).trans (Kept.set (own := own) ⟨d, 3, none⟩ hA5.out.ownd _) (fun _ hk => .inl hk)⟩


end Go.Proofs.YtomhgoahhlnjpaaGreatDoor.Dk
