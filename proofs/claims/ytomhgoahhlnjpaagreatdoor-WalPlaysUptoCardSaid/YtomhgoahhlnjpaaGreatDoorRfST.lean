/- Several texts in one. -/
import Derived.Test.YtomhgoahhlnjpaaGreatDoorRfPO
import Derived.Test.YtomhgoahhlnjpaaGreatDoorRfKK
/- The two disks in plain Lean: Crash, Names, New. -/
namespace Go.Proofs.YtomhgoahhlnjpaaGreatDoor.Rf
open Go.RowKit Go.Maps Go.Sort Go.Proofs.YtomhgoahhlnjpaaGreatDoorW.PrintWords Go.Proofs.YtomhgoahhlnjpaaGreatDoor.PRef Go.Proofs.YtomhgoahhlnjpaaGreatDoor.Dk

variable {S T : DS} {R : RS} {φ : List Nat}
theorem names_sim (h : Sim S R φ) : S.names = R.now.map fun x => x.f0.data.toList := h.rep.names h.nowOk.srt
def R0 : RS := ⟨[], [], [], [], [], 0⟩
theorem new_sim : Sim DS.new R0 [] :=
  { made := rfl
    pos := Int.le_refl _
    plan := rfl
    good := .nil
    len := rfl
    nodup := List.nodup_nil
    file := fun j x hx => by cases (show ([] : List S83)[j]? = some x from hx)
    fok := fun x hx => (List.not_mem_nil hx).elim
    rep := Rep.empty
    now := rfl
    olen := rfl
    pair := fun i r c hr _ => by cases (show ([] : List S114)[i]? = some r from hr)
    nok := fun i => by
      show NOk _ (nth [] [] i)
      unfold nth
      rw [List.take_nil]
      exact NOk.nil _ }
/-- taken back, one by one -/
theorem unroll_sim (h : Sim S R φ) : ∀ (m : Nat) (T : DS) (k : Nat), m ≤ k → k ≤ S.opn.length → T.opn = S.opn.take k → T.fs = S.fs → T.steps = S.steps → Rep T.D (mapG (pathOf φ) (look (nth R.last R.opn k))) →
    (T.unroll m).fs = S.fs ∧ (T.unroll m).steps = S.steps ∧ Rep (T.unroll m).D (mapG (pathOf φ) (look (nth R.last R.opn (k - m))))
  | 0, T, k, _, _, _, hf, hs, hr => ⟨hf, hs, hr⟩
  | m + 1, T, k, hm, hk, ho, hf, hs, hr => by
    obtain ⟨k, rfl⟩ : ∃ k', k = k' + 1 := ⟨k - 1, by omega⟩
    obtain ⟨c, hc⟩ : ∃ c, S.opn[k]? = some c := ⟨_, List.getElem?_eq_getElem (by omega)⟩
    have hkr : k < R.opn.length := by rw [← h.olen]; omega
    have hr' : R.opn[k]? = some R.opn[k] := List.getElem?_eq_getElem hkr
    have ho2 : T.opn = S.opn.take k ++ [c] := by rw [ho, take_next hc]
    have e : T.unroll (m + 1) = DS.unroll { T.undo c with opn := T.opn.dropLast } m := by
      show (match T.opn.getLast? with | none => T | some c => DS.unroll { T.undo c with opn := T.opn.dropLast } m) = _
      rw [ho2]
      simp
    have hp := h.pair k _ _ hr' hc
    rw [nth_next hr'] at hr
    have hu := undo_rep hr hp
    have hst : (T.undo c).steps = T.steps := by
      unfold DS.undo DS.undo2 DS.undo1
      split <;> split <;> rfl
    rw [e, show k + 1 - (m + 1) = k - m by omega]
    exact unroll_sim h m { T.undo c with opn := T.opn.dropLast } k (by omega) (by omega) (by show T.opn.dropLast = _; rw [ho2]; simp) (by show (T.undo _).fs = _; rw [undo_fs, hf]) (by show (T.undo _).steps = _; rw [hst, hs]) hu
theorem settle_alike (f : S83) (l : List Int) (i : Nat) (h0 : 0 ≤ f.f1) (h1 : f.f1 ≤ (f.f0.size : Int)) : settleF (f.f0, f.f1) (moreOf l i) = ((settleR f l i).f0, (settleR f l i).f1) ∧ 0 ≤ (settleR f l i).f1 ∧ (settleR f l i).f1 ≤ ((settleR f l i).f0.size : Int) := by
  unfold settleF moreOf settleR
  dsimp only
  by_cases hl : l = []
  · rw [if_pos hl, if_pos hl]
    have e : min (0 : Int) ((f.f0.size : Int) - f.f1) = 0 := by omega
    rw [e, ByteArray.size_extract]
    refine ⟨?_, by omega, by omega⟩
    congr 1
    omega
  · rw [if_neg hl, if_neg hl]
    generalize l.getD (i % l.length) 0 = b
    have e : min (max 0 b) ((f.f0.size : Int) - f.f1) = max 0 (min b ((f.f0.size : Int) - f.f1)) := by omega
    rw [e, ByteArray.size_extract]
    refine ⟨?_, by omega, by omega⟩
    congr 1
    omega
/-- each file settled once -/
theorem settle_sim (φ : List Nat) (fs : List S83) (l : List Int) : ∀ (r : List S116) (i : Nat) (T : DS),
    (∀ x ∈ r, T.find x.f0 = some (pathOf φ x.f1.toNat)) → r.Pairwise (fun x y => pathOf φ x.f1.toNat ≠ pathOf φ y.f1.toNat) →
    (∀ x ∈ r, ∃ f, fs[x.f1.toNat]? = some f ∧ T.fs[pathOf φ x.f1.toNat]? = some (f.f0, f.f1) ∧ 0 ≤ f.f1 ∧ f.f1 ≤ (f.f0.size : Int)) →
    ∃ T', T.settle l i (r.map fun x => x.f0.data.toList) = some T' ∧ T'.D = T.D ∧ T'.steps = T.steps ∧ T'.fs.length = T.fs.length ∧
      (∀ k x f, r[k]? = some x → fs[x.f1.toNat]? = some f → T'.fs[pathOf φ x.f1.toNat]? = some ((settleR f l (i + k)).f0, (settleR f l (i + k)).f1)) ∧
      (∀ p, (∀ x ∈ r, pathOf φ x.f1.toNat ≠ p) → T'.fs[p]? = T.fs[p]?)
  | [], i, T, _, _, _ => ⟨T, rfl, rfl, rfl, rfl, fun k x f h => by simp at h, fun _ _ => rfl⟩
  | x :: r, i, T, hfind, hap, hfile => by
    have hx := hfind x (List.mem_cons_self ..)
    obtain ⟨f, hf, hTf, h0, h1⟩ := hfile x (List.mem_cons_self ..)
    obtain ⟨ha1, ha2⟩ := List.pairwise_cons.1 hap
    have hlt := (List.getElem?_eq_some_iff.1 hTf).1
    obtain ⟨hs, _, _⟩ := settle_alike f l i h0 h1
    obtain ⟨T', hT', hD, hst, hlen, hin, hout⟩ := settle_sim φ fs l r (i + 1) (T.setFile (pathOf φ x.f1.toNat) (settleF (f.f0, f.f1) (moreOf l i)))
      (fun y hy => hfind y (List.mem_cons_of_mem _ hy)) ha2 (fun y hy => by
        obtain ⟨g, hg, hTg, g0, g1⟩ := hfile y (List.mem_cons_of_mem _ hy)
        refine ⟨g, hg, ?_, g0, g1⟩
        show (T.fs.set (pathOf φ x.f1.toNat) _)[pathOf φ y.f1.toNat]? = _
        rw [List.getElem?_set_ne (ha1 y hy)]
        exact hTg)
    refine ⟨T', ?_, hD, hst, ?_, ?_, ?_⟩
    · rw [← hT']
      show (match T.find ⟨(x.f0.data.toList).toArray⟩ with
        | none => none
        | some j => if 0 ≤ (T.fileAt j).2 ∧ (T.fileAt j).2 ≤ ((T.fileAt j).1.size : Int) then DS.settle l (i + 1) (r.map fun (x : S116) => x.f0.data.toList) (T.setFile j (settleF (T.fileAt j) (moreOf l i))) else none) = _
      have e : (⟨(x.f0.data.toList).toArray⟩ : ByteArray) = x.f0 := by
        show (⟨x.f0.data.toList.toArray⟩ : ByteArray) = x.f0
        rw [Array.toArray_toList]
      rw [e, hx]
      show (if 0 ≤ (T.fileAt (pathOf φ x.f1.toNat)).2 ∧ _ then _ else none) = _
      rw [fileAt_of hTf, if_pos ⟨h0, h1⟩]
    · rw [hlen]
      show (T.fs.set _ _).length = _
      rw [List.length_set]
    · intro k y g hk hg
      cases k with
      | zero =>
        obtain rfl : x = y := by simpa using hk
        rw [hf] at hg
        cases hg
        rw [hout _ (fun z hz => (ha1 z hz).symm)]
        show (T.fs.set (pathOf φ x.f1.toNat) _)[pathOf φ x.f1.toNat]? = _
        rw [List.getElem?_set_self hlt, hs, Nat.add_zero]
      | succ k =>
        have := hin k y g (by simpa using hk) hg
        rw [this, show i + 1 + k = i + (k + 1) by omega]
    · intro p hp
      rw [hout p (fun z hz => hp z (List.mem_cons_of_mem _ hz))]
      show (T.fs.set (pathOf φ x.f1.toNat) _)[p]? = _
      rw [List.getElem?_set_ne (hp x (List.mem_cons_self ..))]
theorem look_from (φ : List Nat) : ∀ (L : List S116) (pre : List Nat) (a : ByteArray), (look (namesFrom pre.length L) a).map (pathOf (pre ++ L.map fun x => pathOf φ x.f1.toNat)) = (look L a).map (pathOf φ)
  | [], _, _ => rfl
  | x :: L, pre, a => by
    have ih := look_from φ L (pre ++ [pathOf φ x.f1.toNat]) a
    rw [List.append_assoc, List.length_append] at ih
    show (look (⟨x.f0, (pre.length : Int)⟩ :: namesFrom (pre.length + 1) L) a).map _ = _
    unfold look
    by_cases e : x.f0 = a
    · rw [if_pos e, if_pos e]
      show some (pathOf _ ((pre.length : Int)).toNat) = some (pathOf φ x.f1.toNat)
      rw [Int.toNat_natCast]
      unfold pathOf
      rw [List.getD_eq_getElem?_getD, List.getElem?_append_right (Nat.le_refl _), Nat.sub_self]
      rfl
    · rw [if_neg e, if_neg e]
      exact ih
theorem names_ok : ∀ (L : List S116) (k n : Nat), k + L.length ≤ n → L.Pairwise (fun x y => x.f0.toList < y.f0.toList) → NOk n (namesFrom k L) ∧ (∀ y ∈ namesFrom k L, (k : Int) ≤ y.f1 ∧ ∃ x ∈ L, y.f0 = x.f0)
  | [], _, n, _, _ => ⟨NOk.nil n, fun _ h => (List.not_mem_nil h).elim⟩
  | x :: L, k, n, hk, hp => by
    obtain ⟨h1, h2⟩ := List.pairwise_cons.1 hp
    simp only [List.length_cons] at hk
    obtain ⟨a, b⟩ := names_ok L (k + 1) n (by omega) h2
    refine ⟨⟨List.pairwise_cons.2 ⟨fun y hy => ?_, a.srt⟩, fun y hy => ?_, List.pairwise_cons.2 ⟨fun y hy => ?_, a.apart⟩⟩, fun y hy => ?_⟩
    · obtain ⟨_, z, hz, e⟩ := b y hy
      show x.f0.toList < y.f0.toList
      rw [e]; exact h1 z hz
    · rcases List.mem_cons.1 hy with rfl | hy
      · exact ⟨Int.natCast_nonneg _, by show ((k : Int)).toNat < n; omega⟩
      · exact a.idx y hy
    · have := (b y hy).1
      show (k : Int) ≠ y.f1
      omega
    · rcases List.mem_cons.1 hy with rfl | hy
      · exact ⟨Int.le_refl _, x, List.mem_cons_self .., rfl⟩
      · obtain ⟨c, z, hz, e⟩ := b y hy
        exact ⟨by omega, z, List.mem_cons_of_mem _ hz, e⟩
theorem crash_sim (h : Sim S R φ) (n : Int) (l : List Int) : ∃ S' φ', S.crash n l = some S' ∧ Sim S' (R.crashR n l) φ' := by
  have hol := h.olen
  obtain ⟨u1, u2, u3⟩ := unroll_sim h (S.opn.length - (max n 0).toNat) S S.opn.length (by omega) (Nat.le_refl _) (by rw [List.take_length]) rfl rfl (by rw [h.olen, ← h.now]; exact h.rep)
  obtain ⟨L, hL⟩ : ∃ L, L = nth R.last R.opn (max n 0).toNat := ⟨_, rfl⟩
  have hLe : nth R.last R.opn (S.opn.length - (S.opn.length - (max n 0).toNat)) = L := by
    rw [hL]
    by_cases q : (max n 0).toNat ≤ S.opn.length
    · rw [show S.opn.length - (S.opn.length - (max n 0).toNat) = (max n 0).toNat by omega]
    · exact nth_past (by omega) (by omega)
  have hLok : NOk R.files.length L := by rw [hL]; exact h.nok _
  rw [hLe] at u3
  obtain ⟨T, hT⟩ : ∃ T, T = S.unroll (S.opn.length - (max n 0).toNat) := ⟨_, rfl⟩
  rw [← hT] at u1 u2 u3
  have hnm : T.names = L.map fun x => x.f0.data.toList := u3.names hLok.srt
  have hidx : ∀ x ∈ L, x.f1.toNat < φ.length := fun x hx => by rw [h.len]; exact (hLok.idx x hx).2
  have hapart : L.Pairwise (fun x y => pathOf φ x.f1.toNat ≠ pathOf φ y.f1.toNat) := hLok.apart.imp_of_mem fun {x y} hx hy hne e => hne (by
    have := path_inj h.nodup (hidx x hx) (hidx y hy) e
    have := (hLok.idx x hx).1
    have := (hLok.idx y hy).1
    omega)
  obtain ⟨T', t1, t2, t3, t4, t5, t6⟩ := settle_sim φ R.files l L 0 T (fun x hx => by
    have := u3.find x.f0
    show refO (T.D.atKey (keyL x.f0) .nil) = _
    rw [this]
    unfold mapG
    rw [look_of_mem hLok.srt hx]
    rfl) hapart (fun x hx => by
    have hlt := (hLok.idx x hx).2
    have hf : R.files[x.f1.toNat]? = some R.files[x.f1.toNat] := List.getElem?_eq_getElem hlt
    exact ⟨_, hf, by rw [u1]; exact h.file _ _ hf, (h.fok _ (List.getElem_mem hlt)).1, (h.fok _ (List.getElem_mem hlt)).2⟩)
  refine ⟨{ T' with opn := [], plan := [] }, L.map (fun x => pathOf φ x.f1.toNat), ?_, ?_⟩
  · show (DS.settle l 0 (S.unroll (S.opn.length - (max n 0).toNat)).names (S.unroll (S.opn.length - (max n 0).toNat))).map (fun R => { R with opn := [], plan := [] }) = _
    rw [← hT, hnm, t1]
    rfl
  · have hR : R.crashR n l = { R with files := filesR R.files l 0 L, now := namesFrom 0 L, last := namesFrom 0 L, opn := [], faults := [] } := by unfold RS.crashR; rw [← hL]
    rw [hR]
    have hfl : (filesR R.files l 0 L).length = L.length := filesR_len _ _ _ _
    have hnok := (names_ok L 0 L.length (by omega) hLok.srt).1
    exact
    { made := by show T'.steps = R.made; rw [t3, u2, h.made]
      pos := h.pos
      plan := rfl
      good := .nil
      len := by show (L.map _).length = (filesR R.files l 0 L).length; rw [hfl, List.length_map]
      nodup := List.pairwise_map.2 hapart
      file := fun j x hx => by
        replace hx : (filesR R.files l 0 L)[j]? = some x := hx
        have hj : j < L.length := by rw [← hfl]; exact (List.getElem?_eq_some_iff.1 hx).1
        have hy : L[j]? = some L[j] := List.getElem?_eq_getElem hj
        have hlt := (hLok.idx L[j] (List.getElem_mem hj)).2
        have hf : R.files[L[j].f1.toNat]? = some R.files[L[j].f1.toNat] := List.getElem?_eq_getElem hlt
        rw [filesR_get R.files l L 0 j _ hy, Nat.zero_add, List.getD_eq_getElem?_getD, hf] at hx
        cases hx
        have h9 := t5 j _ _ hy hf
        rw [Nat.zero_add] at h9
        have e : pathOf (L.map fun x => pathOf φ x.f1.toNat) j = pathOf φ L[j].f1.toNat := by
          rw [path_get (by rw [List.length_map]; exact hj), List.getElem_map]
        rw [e]
        exact h9
      fok := fun x hx => by
        replace hx : x ∈ filesR R.files l 0 L := hx
        obtain ⟨j, hj, e⟩ := List.mem_iff_getElem.1 hx
        rw [hfl] at hj
        have hy : L[j]? = some L[j] := List.getElem?_eq_getElem hj
        have hlt := (hLok.idx L[j] (List.getElem_mem hj)).2
        have hf : R.files[L[j].f1.toNat]? = some R.files[L[j].f1.toNat] := List.getElem?_eq_getElem hlt
        have hx2 : (filesR R.files l 0 L)[j]? = some x := by rw [← e]; exact List.getElem?_eq_getElem _
        rw [filesR_get R.files l L 0 j _ hy, Nat.zero_add, List.getD_eq_getElem?_getD, hf] at hx2
        cases hx2
        have := h.fok _ (List.getElem_mem hlt)
        exact (settle_alike _ l j this.1 this.2).2
      rep := by
        show Rep T'.D (mapG _ (look (namesFrom 0 L)))
        rw [t2]
        exact u3.eq (by
          funext a
          exact (look_from φ L [] a).symm)
      now := rfl
      olen := rfl
      pair := fun i r c hr _ => by cases (show ([] : List S114)[i]? = some r from hr)
      nok := fun i => by
        show NOk (filesR R.files l 0 L).length (nth (namesFrom 0 L) [] i)
        unfold nth
        rw [List.take_nil, hfl]
        exact hnok }
end Go.Proofs.YtomhgoahhlnjpaaGreatDoor.Rf

/- The two disks in plain Lean: how large they become. -/
namespace Go.Proofs.YtomhgoahhlnjpaaGreatDoor.Rf
open Go.RowKit Go.Maps Go.Sort Go.Proofs.YtomhgoahhlnjpaaGreatDoorW.PrintWords Go.Proofs.YtomhgoahhlnjpaaGreatDoor.PRef Go.Proofs.YtomhgoahhlnjpaaGreatDoor.Dk

structure SmallS (S : DS) (n : Nat) : Prop where
  steps : S.steps ≤ (n : Int)
  opn : S.opn.length ≤ n
  puts : S.puts + 2 * S.opn.length ≤ 3 * n
  names : ∀ c ∈ S.opn, c.a.size ≤ n ∧ c.b.size ≤ n
  files : ∀ f ∈ S.fs, f.1.size ≤ n
structure SmallR (R : RS) (n : Nat) : Prop where
  faults : R.faults.length ≤ n
  files : R.files.length ≤ n
  sizes : ∀ f ∈ R.files, f.f0.size ≤ n
variable {S T : DS} {R : RS} {φ : List Nat} {n n' : Nat}
theorem SmallS.mono (h : SmallS S n) (hn : n ≤ n') : SmallS S n' :=
  ⟨by have := h.steps; omega, Nat.le_trans h.opn hn, by have := h.puts; omega, fun c hc => ⟨Nat.le_trans (h.names c hc).1 hn, Nat.le_trans (h.names c hc).2 hn⟩, fun f hf => Nat.le_trans (h.files f hf) hn⟩
theorem SmallR.mono (h : SmallR R n) (hn : n ≤ n') : SmallR R n' := ⟨Nat.le_trans h.faults hn, Nat.le_trans h.files hn, fun f hf => Nat.le_trans (h.sizes f hf) hn⟩
theorem SmallS.step (h : SmallS S n) : SmallS S.step.1 (n + 1) :=
  ⟨by rw [step_steps]; have := h.steps; omega, by rw [step_opn]; have := h.opn; omega, by rw [step_opn, step_puts]; have := h.puts; omega, by rw [step_opn]; exact (h.mono (Nat.le_succ n)).names, by rw [step_fs]; exact (h.mono (Nat.le_succ n)).files⟩
theorem SmallR.made1 (h : SmallR R n) : SmallR R.made1 (n + 1) := ⟨(h.mono (Nat.le_succ n)).faults, (h.mono (Nat.le_succ n)).files, (h.mono (Nat.le_succ n)).sizes⟩
theorem SmallS.file (h : SmallS T n) (i : Nat) : (T.fileAt i).1.size ≤ n := by
  unfold DS.fileAt
  rw [List.getD_eq_getElem?_getD]
  cases hi : T.fs[i]? with
  | none => exact Nat.zero_le _
  | some f => exact h.files f (List.mem_of_getElem? hi)
theorem SmallR.file (h : SmallR R n) (i : Nat) : (R.fileR i).f0.size ≤ n := by
  unfold RS.fileR
  rw [List.getD_eq_getElem?_getD]
  cases hi : R.files[i]? with
  | none => exact Nat.zero_le _
  | some f => exact h.sizes f (List.mem_of_getElem? hi)
theorem SmallS.setFile (h : SmallS T n) (i : Nat) (b : ByteArray) (z : Int) (hb : b.size ≤ n) : SmallS (T.setFile i (b, z)) n :=
  ⟨h.steps, h.opn, h.puts, h.names, fun f hf => by
    rcases List.mem_or_eq_of_mem_set (show f ∈ T.fs.set i (b, z) from hf) with hf | rfl
    · exact h.files f hf
    · exact hb⟩
theorem SmallR.setFile (h : SmallR R n) (i : Nat) (x : S83) (hb : x.f0.size ≤ n) : SmallR { R with files := R.files.set i x } n :=
  ⟨h.faults, by show (R.files.set i x).length ≤ n; rw [List.length_set]; exact h.files, fun f hf => by
    rcases List.mem_or_eq_of_mem_set (show f ∈ R.files.set i x from hf) with hf | rfl
    · exact h.sizes f hf
    · exact hb⟩
theorem SmallS.at1 (h : SmallS S n) (name : ByteArray) {k : DS → Nat → DS} (hn : n + 1 ≤ n') (hk : ∀ i, SmallS S.step.1 (n + 1) → SmallS (k S.step.1 i) n') : SmallS (S.at1 name k).1 n' := by
  have hs := h.step
  unfold DS.at1
  split
  · split
    · split
      · exact hk _ hs
      · exact hs.mono hn
    · exact hs.mono hn
  · exact h.mono (by omega)
theorem SmallR.at1 (h : SmallR R n) (name : ByteArray) {k : RS → Nat → RS} (hn : n + 1 ≤ n') (hk : ∀ i, SmallR R.made1 (n + 1) → SmallR (k R.made1 i) n') : SmallR (R.at1 name k).1 n' := by
  have hs := h.made1
  unfold RS.at1
  split
  · split
    · exact hk _ hs
    · exact hs.mono hn
  · exact h.mono (by omega)
theorem ext_le (b : ByteArray) (k : Nat) : (b.extract 0 k).size ≤ b.size := by rw [ByteArray.size_extract]; omega
theorem SmallS.sync (h : SmallS S n) (name : ByteArray) : SmallS (S.sync name).1 (n + 1) := h.at1 name (Nat.le_refl _) fun i hs => hs.setFile _ _ _ (hs.file i)
theorem SmallR.sync (h : SmallR R n) (name : ByteArray) : SmallR (R.syncR name).1 (n + 1) := h.at1 name (Nat.le_refl _) fun i hs => hs.setFile _ _ (hs.file i)
theorem SmallS.cut (h : SmallS S n) (name : ByteArray) (sz : Int) : SmallS (S.cut name sz).1 (n + 1) := h.at1 name (Nat.le_refl _) fun i hs => hs.setFile _ _ _ (Nat.le_trans (ext_le _ _) (hs.file i))
theorem SmallR.cut (h : SmallR R n) (name : ByteArray) (sz : Int) : SmallR (R.cutR name sz).1 (n + 1) := h.at1 name (Nat.le_refl _) fun i hs => hs.setFile _ _ (Nat.le_trans (ext_le _ _) (hs.file i))
theorem SmallS.turn (h : SmallS T n) {D : DW} {c : Chg} {p : Nat} (hp : p ≤ T.puts + 1) (ha : c.a.size ≤ n') (hb : c.b.size ≤ n') (hn : n + 1 ≤ n') : SmallS { T with D := D, opn := T.opn ++ [c], puts := p } n' :=
  ⟨by have := h.steps; show T.steps ≤ _; omega, by have := h.opn; show (T.opn ++ [c]).length ≤ n'; simp; omega, by have := h.puts; show p + 2 * (T.opn ++ [c]).length ≤ 3 * n'; simp; omega, fun x hx => by
    rcases List.mem_append.1 (show x ∈ T.opn ++ [c] from hx) with hx | hx
    · have := h.names x hx; omega
    · obtain rfl : x = c := by simpa using hx
      exact ⟨ha, hb⟩, fun f hf => by have := h.files f hf; omega⟩
theorem SmallR.turn (h : SmallR R n) (c : S114) : SmallR (R.turnR c) n := ⟨h.faults, h.files, h.sizes⟩
theorem SmallR.remove (h : SmallR R n) (name : ByteArray) : SmallR (R.removeR name).1 (n + 1) := h.at1 name (by omega) fun i hs => hs.turn _
theorem SmallR.rename (h : SmallR R n) (a b : ByteArray) : SmallR (R.renameR a b).1 (n + 1) := by
  unfold RS.renameR
  split
  · exact h.mono (by omega)
  · refine h.at1 a (by omega) fun i hs => ?_
    split
    · exact hs
    · exact hs.turn _
theorem SmallS.syncNames (h : SmallS S n) : SmallS S.syncNames.1 (n + 1) := by
  have hs := h.step
  unfold DS.syncNames
  split
  · exact ⟨hs.steps, Nat.zero_le _, by have := hs.puts; show S.step.1.puts + 0 ≤ _; omega, fun c hc => (List.not_mem_nil hc).elim, hs.files⟩
  · exact hs
theorem SmallR.syncNames (h : SmallR R n) : SmallR R.syncNamesR.1 (n + 1) := by
  have hs := h.made1
  unfold RS.syncNamesR
  split
  · exact ⟨hs.faults, hs.files, hs.sizes⟩
  · exact hs
theorem SmallS.plan (h : SmallS S n) (l : List Fault) : SmallS (S.planned l).1 n := by
  unfold DS.planned
  split
  · exact h
  · split
    · exact ⟨h.steps, h.opn, h.puts, h.names, h.files⟩
    · exact h
theorem SmallR.plan (h : SmallR R n) (l : List S40) : SmallR (R.planR l).1 (n + l.length) := by
  unfold RS.planR
  split
  · exact h.mono (by omega)
  · split
    · exact ⟨by show l.length ≤ _; omega, (h.mono (by omega)).files, (h.mono (by omega)).sizes⟩
    · exact h.mono (by omega)
theorem cutS_le (s : ByteArray) (k : Int) : (cutS s k).size ≤ s.size := ext_le _ _
theorem SmallS.lay (h : SmallS T n) (name s : ByteArray) : SmallS (T.lay name s) (n + name.size + s.size + 1) := by
  unfold DS.lay
  split
  · rename_i i _
    refine (h.mono (by omega)).setFile _ _ _ ?_
    have := h.file i
    rw [ByteArray.size_append]; omega
  · have h1 := h.turn (D := T.D.put (keyL name) (refD (some T.fs.length))) (c := ⟨⟨#[]⟩, name, none, 0⟩) (p := T.puts + 1) (n' := n + name.size + s.size + 1) (Nat.le_refl _) (Nat.zero_le _) (show name.size ≤ _ by omega) (by omega)
    exact ⟨h1.steps, h1.opn, h1.puts, h1.names, fun f hf => by
      rcases List.mem_append.1 (show f ∈ T.fs ++ [((⟨#[]⟩ : ByteArray) ++ s, 0)] from hf) with hf | hf
      · exact h1.files f hf
      · obtain rfl : f = ((⟨#[]⟩ : ByteArray) ++ s, 0) := by simpa using hf
        show ((⟨#[]⟩ : ByteArray) ++ s).size ≤ _
        rw [ByteArray.size_append]
        show 0 + s.size ≤ _
        omega⟩
theorem SmallR.lay (h : SmallR R n) (name s : ByteArray) : SmallR (R.layR name s) (n + s.size + 1) := by
  unfold RS.layR
  split
  · have h1 : SmallR (RS.turnR { R with files := R.files ++ [⟨⟨#[]⟩, 0⟩] } (mk90 1 name ⟨#[]⟩ (R.files.length : Int))) (n + 1) := ⟨(h.mono (Nat.le_succ n)).faults, by show (R.files ++ [_]).length ≤ _; have := h.files; simp; omega, fun f hf => by
      rcases List.mem_append.1 (show f ∈ R.files ++ [(⟨⟨#[]⟩, 0⟩ : S83)] from hf) with hf | hf
      · have := h.sizes f hf; omega
      · obtain rfl : f = ⟨⟨#[]⟩, 0⟩ := by simpa using hf
        exact Nat.zero_le _⟩
    refine (h1.mono (by omega)).setFile _ _ ?_
    have := h1.file R.files.length
    rw [ByteArray.size_append]; omega
  · refine (h.mono (by omega)).setFile _ _ ?_
    have := h.file (findI R.now name).toNat
    rw [ByteArray.size_append]; omega
theorem SmallS.write (h : SmallS S n) (name s : ByteArray) : SmallS (S.write name s).1 (n + name.size + s.size + 2) := by
  have hs := h.step
  unfold DS.write
  split
  · exact h.mono (by omega)
  · split
    · exact (hs.lay name s).mono (by omega)
    · split
      · have := cutS_le s S.step.2.1.n
        exact (hs.lay name _).mono (by omega)
      · exact hs.mono (by omega)
theorem SmallR.write (h : SmallR R n) (name s : ByteArray) : SmallR (R.writeR name s).1 (n + s.size + 2) := by
  have hs := h.made1
  unfold RS.writeR
  split
  · exact h.mono (by omega)
  · split
    · exact (hs.lay name s).mono (by omega)
    · split
      · exact hs.mono (by omega)
      · have := cutS_le s (stepF R.faults (R.made + 1)).2
        exact (hs.lay name _).mono (by omega)
theorem unroll_puts : ∀ (m : Nat) (T : DS), (T.unroll m).puts ≤ T.puts + 2 * m ∧ (T.unroll m).fs = T.fs
  | 0, T => ⟨Nat.le_refl _, rfl⟩
  | m + 1, T => by
    show (match T.opn.getLast? with | none => T | some c => DS.unroll { T.undo c with opn := T.opn.dropLast } m).puts ≤ _ ∧ (match T.opn.getLast? with | none => T | some c => DS.unroll { T.undo c with opn := T.opn.dropLast } m).fs = _
    cases T.opn.getLast? with
    | none => exact ⟨Nat.le_add_right _ _, rfl⟩
    | some c =>
      obtain ⟨a, b⟩ := unroll_puts m { T.undo c with opn := T.opn.dropLast }
      have := undo_puts T c
      refine ⟨?_, ?_⟩
      · show (DS.unroll { T.undo c with opn := T.opn.dropLast } m).puts ≤ _
        have e : ({ T.undo c with opn := T.opn.dropLast } : DS).puts = (T.undo c).puts := rfl
        omega
      · show (DS.unroll { T.undo c with opn := T.opn.dropLast } m).fs = _
        rw [b]
        exact undo_fs T c
theorem settle_puts (l : List Int) : ∀ (r : List (List UInt8)) (i : Nat) (T T' : DS), DS.settle l i r T = some T' → T'.puts = T.puts ∧ ((∀ f ∈ T.fs, f.1.size ≤ n) → ∀ f ∈ T'.fs, f.1.size ≤ n)
  | [], _, T, T', h => by cases h; exact ⟨rfl, fun q => q⟩
  | nm :: r, i, T, T', h => by
    obtain ⟨j, hj, h0, h1, e⟩ := settle_cons h
    rw [h] at e
    obtain ⟨a, b⟩ := settle_puts l r (i + 1) _ T' e
    refine ⟨a, fun q => b fun f hf => ?_⟩
    rcases List.mem_or_eq_of_mem_set (show f ∈ T.fs.set j _ from hf) with hf | rfl
    · exact q f hf
    · refine Nat.le_trans (ext_le _ _) ?_
      unfold DS.fileAt
      rw [List.getD_eq_getElem?_getD]
      cases hi : T.fs[j]? with
      | none => exact Nat.zero_le _
      | some f => exact q f (List.mem_of_getElem? hi)
theorem SmallS.crash (h : SmallS S n) {c : Int} {l : List Int} {S' : DS} (hc : S.crash c l = some S') (hs : S'.steps ≤ (n : Int)) : SmallS S' n := by
  obtain ⟨T', ht, rfl⟩ : ∃ T', DS.settle l 0 (S.unroll (S.opn.length - (max c 0).toNat)).names (S.unroll (S.opn.length - (max c 0).toNat)) = some T' ∧ { T' with opn := [], plan := [] } = S' := Option.map_eq_some_iff.1 hc
  obtain ⟨a, b⟩ := settle_puts (n := n) l _ _ _ _ ht
  obtain ⟨u, v⟩ := unroll_puts (S.opn.length - (max c 0).toNat) S
  have := h.puts
  exact ⟨hs, Nat.zero_le _, by show T'.puts + 0 ≤ _; omega, fun c hc => (List.not_mem_nil hc).elim, b (by rw [v]; exact h.files)⟩
theorem SmallR.crash (h : SmallR R n) (hN : ∀ i, NOk R.files.length (nth R.last R.opn i)) (c : Int) (l : List Int) : SmallR (R.crashR c l) n :=
  ⟨Nat.zero_le _, by
    show (filesR R.files l 0 _).length ≤ n
    rw [filesR_len]
    exact Nat.le_trans (hN _).length h.files, fun f hf => by
    obtain ⟨j, hj, e⟩ := List.mem_iff_getElem.1 (show f ∈ filesR R.files l 0 (nth R.last R.opn (max c 0).toNat) from hf)
    have hj2 := hj
    rw [filesR_len] at hj2
    have hy : (nth R.last R.opn (max c 0).toNat)[j]? = some _ := List.getElem?_eq_getElem hj2
    have h2 : (filesR R.files l 0 (nth R.last R.opn (max c 0).toNat))[j]? = some f := by rw [← e]; exact List.getElem?_eq_getElem _
    rw [filesR_get _ _ _ 0 j _ hy] at h2
    cases h2
    exact Nat.le_trans (ext_le _ _) (h.file _)⟩
end Go.Proofs.YtomhgoahhlnjpaaGreatDoor.Rf
