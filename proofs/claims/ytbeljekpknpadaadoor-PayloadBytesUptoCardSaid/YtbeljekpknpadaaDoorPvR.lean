/- Both Decodes answer the same, at any bytes: the loops. -/
import Derived.Test.YtbeljekpknpadaaDoorPvQ
namespace Go.Proofs.YtbeljekpknpadaaDoor.PPayVL
open Go.RowKit Go.Proofs.YtbeljekpknpadaaDoor.PPayV Go.Proofs.YtbeljekpknpadaaDoorW.PrintWords Go.Proofs.YtbeljekpknpadaaDoorW.PrintLast Go.Proofs.YtbeljekpknpadaaDoorW.PrintMore
set_option linter.unusedVariables false
set_option linter.unusedSimpArgs false

theorem pred_nat (m : Nat) (h : m ≤ 1099511627776) : wrap64 (((m + 1 : Nat) : Int) - 1) = (m : Int) := by
  unfold wrap64
  omega
theorem succ_n (m : Nat) (h : m ≤ 1099511627776) : wrap64 ((m : Int) + 1) = ((m + 1 : Nat) : Int) := by
  unfold wrap64
  omega
/-- one field, by the program -/
theorem prog_field (s : ByteArray) (hs : s.size ≤ 1099511627776) (n : Int) (a : Nat) (id : Int) (vs : List S59) (fs : List S61) (ha : a ≤ s.size) (hl : fs.length ≤ 1000) (r : Res)
    (l1 a1 : Nat) (b1 : Bool) (h1 : NUM s a false 1 = (l1, a1, b1)) (nm : ByteArray) (a2 : Nat) (b2 : Bool) (h2 : TXT s a1 b1 (l1 : Int) = (nm, a2, b2)) (k0 a3 : Nat) (b3 : Bool) (h3 : NUM s a2 b2 1 = (k0, a3, b3))
    (x : Int) (t : ByteArray) (a4 : Nat) (b4 : Bool) (h4 : VALP s a3 b3 k0 x t a4 b4)
    (hr : (1 ≤ k0 ∧ k0 ≤ 3 → Ev (fun k => payload_Decode.l2 k (wrap64 (n - 1)) s (a4 : Int) b4 id vs (fs ++ [⟨nm, ⟨(k0 : Int), x, t⟩⟩])) r) ∧ (¬ (1 ≤ k0 ∧ k0 ≤ 3) → r = ERR)) :
    Ev (fun k => payload_Decode.j4 k n true s (a : Int) false id vs fs) r := by
  have ha1 := num_le h1 ha
  have hn1 := n1 h1 ha
  have ha2 := txt_le h2 ha1
  have ha3 := num_le h3 ha2
  have hn3 := n1 h3 ha2
  refine Ev.step (fun k => by rw [payload_Decode.j4, if_pos rfl]) ?_
  refine Ev.bind (ev_num s hs a false 1 _ _ _ h1 ha (by omega) (by omega)) ?_
  simp only
  rw [w64 (x := (l1 : Int)) (by omega) (by omega)]
  refine Ev.bind (ev_txt s hs _ _ _ _ _ _ h2 ha1 (by omega) (by omega)) ?_
  simp only
  refine Ev.bind (ev_num s hs _ _ 1 _ _ _ h3 ha2 (by omega) (by omega)) ?_
  simp only
  rw [w64 (x := (k0 : Int)) (by omega) (by omega)]
  by_cases c0 : 1 ≤ k0 ∧ k0 ≤ 3
  · have hr := hr.1 c0
    have ed : decide ((k0 : Int) > 3) = false := by simp; omega
    refine Ev.congr (fun k => by rw [if_neg (by omega), ed]) ?_
    refine Ev.step (fun k => by rw [payload_Decode.j5, if_neg (by simp)]) ?_
    rcases h4 with ⟨c, v, h, rfl, rfl⟩ | ⟨c, v, a5, b5, h, h5, rfl⟩ | ⟨c, v, h, rfl, rfl⟩ | ⟨c1, c2, c3, _⟩
    · subst c
      refine Ev.bind (a := (8 : Int)) ⟨0, fun k _ => by simp [payload_width.f]⟩ ?_
      refine Ev.bind (ev_num s hs _ _ 8 _ _ _ h ha3 (by omega) (by omega)) ?_
      refine Ev.congr (fun k => by rw [if_neg (by omega), if_pos (by omega)]) ?_
      exact hr
    · subst c
      have hn4 := n2 h ha3
      refine Ev.bind (a := (2 : Int)) ⟨0, fun k _ => by simp [payload_width.f]⟩ ?_
      refine Ev.bind (ev_num s hs _ _ 2 _ _ _ h ha3 (by omega) (by omega)) ?_
      simp only
      rw [w64 (x := (v : Int)) (by omega) (by omega)]
      refine Ev.congr (fun k => by rw [if_pos (by omega)]) ?_
      refine Ev.bind (ev_txt s hs _ _ _ _ _ _ h5 (num_le h ha3) (by omega) (by omega)) ?_
      refine Ev.congr (fun k => by rw [if_pos (by omega)]) ?_
      exact hr
    · subst c
      refine Ev.bind (a := (1 : Int)) ⟨0, fun k _ => by simp [payload_width.f]⟩ ?_
      refine Ev.bind (ev_num s hs _ _ 1 _ _ _ h ha3 (by omega) (by omega)) ?_
      refine Ev.congr (fun k => by rw [if_neg (by omega), if_pos (by omega)]) ?_
      exact hr
    · omega
  · have hr := hr.2 c0
    subst hr
    by_cases c1 : k0 < 1
    · refine Ev.congr (fun k => by rw [if_pos (by omega)]) ?_
      exact Ev.step (f := fun _ => some ERR) (fun k => by rw [payload_Decode.j5, if_pos rfl]; rfl) (Ev.now _)
    · have ed : decide ((k0 : Int) > 3) = true := by simp; omega
      refine Ev.congr (fun k => by rw [if_neg (by omega), ed]) ?_
      exact Ev.step (f := fun _ => some ERR) (fun k => by rw [payload_Decode.j5, if_pos rfl]; rfl) (Ev.now _)
set_option maxRecDepth 100000 in
theorem valB_kind (v : S33) (h : ¬ (1 ≤ v.f0 ∧ v.f0 ≤ 3)) : valB v = false := by
  unfold valB
  rw [if_neg (by omega), if_neg (by omega), if_neg (by omega)]
theorem sim_fields (s : ByteArray) (hs : s.size ≤ 1099511627776) (id : Int) (vs : List S59) (hv : FitV s.size vs 0) : ∀ (m n i : Nat), n = i + m → n ≤ 255 → ∀ (a : Nat) (bad : Bool) (fs : List S61), a ≤ s.size → FitF s.size fs m →
    Both s.size (fun k => payload_Decode.l2 k (m : Int) s (a : Int) bad id vs fs) (fun k => lodestarref05_Decode.l2 k (n : Int) (i : Int) s (a : Int) bad id vs fs)
  | 0, n, i, hn, h255, a, bad, fs, ha, hf => by
    obtain rfl : n = i := by omega
    obtain ⟨r, h1, h2, h3⟩ := fin_p s hs 0 a bad id vs fs hv hf
    refine ⟨r, h1, Ev.step (fun k => by rw [payload_Decode.l2, if_neg (by omega)]; rfl) h2, ref_l2_zero s n a bad id vs fs _ ?_⟩
    rw [h3]
    exact fin_r s hs n n a bad id vs fs hv hf
  | m + 1, n, i, hn, h255, a, bad, fs, ha, hf => by
    have hstep : ∀ r, Ev (fun k => payload_Decode.j4 k ((m + 1 : Nat) : Int) (!bad) s (a : Int) bad id vs fs) r → Ev (fun k => payload_Decode.l2 k ((m + 1 : Nat) : Int) s (a : Int) bad id vs fs) r := fun r h =>
      Ev.step (fun k => by rw [payload_Decode.l2, if_pos (by omega)]) h
    cases bad with
    | true =>
      obtain ⟨r, h1, h2, h3⟩ := fin_p s hs ((m + 1 : Nat) : Int) a true id vs fs hv (fit_zero _ _ _ hf)
      refine ⟨r, h1, hstep r h2, ref_l2_succ s n i (by omega) a true id vs fs _ ?_⟩
      rw [h3]
      exact fin_r s hs n i a true id vs fs hv (fit_zero _ _ _ hf)
    | false =>
      obtain ⟨l1, a1, b1, h1⟩ := ex_num s a false 1
      obtain ⟨nm, a2, b2, h2⟩ := ex_txt s a1 b1 (l1 : Int)
      obtain ⟨k0, a3, b3, h3⟩ := ex_num s a2 b2 1
      obtain ⟨x, t, a4, b4, h4⟩ := ex_valp s a3 b3 k0
      have ha1 := num_le h1 ha
      have ha2 := txt_le h2 ha1
      have ha3 := num_le h3 ha2
      have hle := valp_le h4 ha3
      have hl : fs.length ≤ 1000 := by have := hf.1; omega
      have hf2 := fit_snoc _ _ _ (⟨nm, ⟨(k0 : Int), x, t⟩⟩ : S61) hf (txt_size h2 ha1) hle.2
      by_cases c0 : 1 ≤ k0 ∧ k0 ≤ 3
      · obtain ⟨r, g1, g2, g3⟩ := sim_fields s hs id vs hv m n (i + 1) (by omega) h255 a4 b4 _ hle.1 hf2
        refine ⟨r, g1, hstep r (prog_field s hs _ a id vs fs ha hl r l1 a1 b1 h1 nm a2 b2 h2 k0 a3 b3 h3 x t a4 b4 h4 ⟨fun _ => ?_, fun h => absurd c0 h⟩), ref_l2_succ s n i (by omega) a false id vs fs _ (ref_field s hs n i a id vs fs ha hl r l1 a1 b1 h1 nm a2 b2 h2 k0 a3 b3 h3 x t a4 b4 h4 ?_)⟩
        · rw [pred_nat m (by omega)]
          exact g2
        · rw [succ_n i (by omega)]
          exact g3
      · refine ⟨ERR, RFit_err _, hstep _ (prog_field s hs _ a id vs fs ha hl ERR l1 a1 b1 h1 nm a2 b2 h2 k0 a3 b3 h3 x t a4 b4 h4 ⟨fun h => absurd h c0, fun _ => rfl⟩), ref_l2_succ s n i (by omega) a false id vs fs _ (ref_field s hs n i a id vs fs ha hl ERR l1 a1 b1 h1 nm a2 b2 h2 k0 a3 b3 h3 x t a4 b4 h4 ?_)⟩
        rw [succ_n i (by omega)]
        exact ref_none s hs id vs hv m n (i + 1) (by omega) h255 a4 b4 _ hle.1 hf2 ⟨_, List.mem_append_right _ (List.mem_singleton.2 rfl), valB_kind _ (by simp only; omega)⟩

/-! ### vectors -/
theorem wt59_snoc : ∀ (l : List S59) (x : S59), wt59 (l ++ [x]) = wt59 l + (x.f1.length + 4)
  | [], x => by simp [wt59]
  | y :: l, x => by
    rw [List.cons_append, wt59, wt59_snoc l x, wt59]
    omega
theorem fitV_snoc (B : Nat) (vs : List S59) (n : Nat) (x : S59) (h : FitV B vs (n + 1)) (h0 : x.f0.size ≤ B) (h2 : x.f1.length ≤ 255) : FitV B (vs ++ [x]) n := by
  obtain ⟨f1, f2, f3⟩ := h
  refine ⟨by simp; omega, by rw [wt59_snoc]; omega, fun y hy => ?_⟩
  rcases List.mem_append.1 hy with hy | hy
  · exact f3 y hy
  · obtain rfl := List.mem_singleton.1 hy
    exact h0
theorem fitV_zero (B : Nat) (vs : List S59) (n : Nat) (h : FitV B vs n) : FitV B vs 0 := ⟨by have := h.1; omega, by have := h.2.1; omega, h.2.2⟩
theorem fitF_nil (B : Nat) (n : Nat) (h : n ≤ 1000) : FitF B [] n := ⟨by simpa using h, by simp, by simp⟩
/-- behind the vectors: how many fields there are, and they -/
theorem sim_tail (s : ByteArray) (hs : s.size ≤ 1099511627776) (n i : Nat) (a : Nat) (bad : Bool) (id : Int) (vs : List S59) (ha : a ≤ s.size) (hv : FitV s.size vs 0) (p : Int) :
    Both s.size (fun k => payload_Decode.j1 k p false s (a : Int) bad id vs) (fun k => lodestarref05_Decode.j1 k (n : Int) (i : Int) false s (a : Int) bad id vs) := by
  obtain ⟨c, a1, b1, h⟩ := ex_num s a bad 1
  have ha1 := num_le h ha
  have hn1 := n1 h ha
  obtain ⟨r, h1, h2, h3⟩ := sim_fields s hs id vs hv c c 0 (by omega) (by omega) a1 b1 [] ha1 (fitF_nil _ _ (by omega))
  refine ⟨r, h1, ?_, ?_⟩
  · refine Ev.step (fun k => by rw [payload_Decode.j1, if_neg (by simp)]) ?_
    refine Ev.bind (ev_num s hs a bad 1 _ _ _ h ha (by omega) (by omega)) ?_
    simp only
    rw [w64 (x := (c : Int)) (by omega) (by omega)]
    exact h2
  · refine Ev.step (fun k => by rw [lodestarref05_Decode.j1, if_neg (by simp)]) ?_
    refine Ev.bind (ev_rnum s hs a bad 1 _ _ _ h ha (by omega) (by omega)) ?_
    simp only
    rw [w64 (x := (c : Int)) (by omega) (by omega)]
    exact h3
/-- the components of one vector, and what follows -/
theorem sim_comps (s : ByteArray) (hs : s.size ≤ 1099511627776) (m n i : Nat) (hn : n = i + (m + 1)) (h255 : n ≤ 255) (id : Int) (vs : List S59) (hv : FitV s.size vs (m + 1)) (nm : ByteArray) (hnm : nm.size ≤ s.size)
    (next : ∀ (a : Nat) (bad : Bool) (vs : List S59), a ≤ s.size → FitV s.size vs m → Both s.size (fun k => payload_Decode.l0 k (m : Int) s (a : Int) bad id vs) (fun k => lodestarref05_Decode.l0 k (n : Int) ((i + 1 : Nat) : Int) s (a : Int) bad id vs)) :
    ∀ (c K j : Nat), K = j + c → K ≤ 255 → ∀ (a : Nat) (bad : Bool) (V : List Int), a ≤ s.size → V.length ≤ j →
    Both s.size (fun k => payload_Decode.l1 k ((m + 1 : Nat) : Int) (c : Int) s (a : Int) bad id vs nm V) (fun k => lodestarref05_Decode.l1 k (n : Int) (i : Int) (K : Int) (j : Int) s (a : Int) bad id vs nm V) := by
  have hvl := hv.1
  have done : ∀ (a : Nat) (bad : Bool) (V : List Int), a ≤ s.size → V.length ≤ 255 → ∃ r, RFit s.size r ∧ Ev (fun k => if vs.length < 3518437208883 then payload_Decode.l0 k (wrap64 (((m + 1 : Nat) : Int) - 1)) s (a : Int) bad id (vs ++ [(⟨nm, V⟩ : S59)]) else none) r ∧ Ev (fun k => if vs.length < 3518437208883 then lodestarref05_Decode.l0 k (n : Int) (wrap64 ((i : Int) + 1)) s (a : Int) bad id (vs ++ [(⟨nm, V⟩ : S59)]) else none) r := by
    intro a bad V ha hV
    obtain ⟨r, h1, h2, h3⟩ := next a bad (vs ++ [(⟨nm, V⟩ : S59)]) ha (fitV_snoc _ _ _ _ hv hnm hV)
    refine ⟨r, h1, Ev.congr (fun k => by rw [if_pos (by omega), pred_nat m (by omega)]) h2, Ev.congr (fun k => by rw [if_pos (by omega), succ_n i (by omega)]) h3⟩
  intro c
  induction c with
  | zero =>
    intro K j hK hK2 a bad V ha hV
    obtain ⟨r, h1, h2, h3⟩ := done a bad V ha (by omega)
    exact ⟨r, h1, Ev.step (fun k => by rw [payload_Decode.l1, if_neg (by omega)]) h2, Ev.step (fun k => by rw [lodestarref05_Decode.l1, if_neg (by omega)]) h3⟩
  | succ c ih =>
    intro K j hK hK2 a bad V ha hV
    cases bad with
    | true =>
      obtain ⟨r, h1, h2, h3⟩ := done a true V ha (by omega)
      exact ⟨r, h1, Ev.step (fun k => by rw [payload_Decode.l1, if_pos (by omega), if_pos rfl]) h2, Ev.step (fun k => by rw [lodestarref05_Decode.l1, if_pos (by omega), if_pos rfl]) h3⟩
    | false =>
      obtain ⟨v, a1, b1, h⟩ := ex_num s a false 2
      have ha1 := num_le h ha
      have hn1 := n2 h ha
      obtain ⟨r, h1, h2, h3⟩ := ih K (j + 1) (by omega) hK2 a1 b1 (V ++ [wrap64 ((v : Int) - 32768)]) ha1 (by simp; omega)
      refine ⟨r, h1, ?_, ?_⟩
      · refine Ev.step (fun k => by rw [payload_Decode.l1, if_pos (by omega), if_neg (by simp)]) ?_
        refine Ev.bind (ev_num s hs a false 2 _ _ _ h ha (by omega) (by omega)) ?_
        simp only
        rw [w64 (x := (v : Int)) (by omega) (by omega), pred_nat c (by omega)]
        exact Ev.congr (fun k => by rw [if_pos (by omega)]) h2
      · refine Ev.step (fun k => by rw [lodestarref05_Decode.l1, if_pos (by omega), if_neg (by simp)]) ?_
        refine Ev.bind (ev_rnum s hs a false 2 _ _ _ h ha (by omega) (by omega)) ?_
        simp only
        rw [w64 (x := (v : Int)) (by omega) (by omega), succ_n j (by omega)]
        exact Ev.congr (fun k => by rw [if_pos (by omega)]) h3
theorem sim_vecs (s : ByteArray) (hs : s.size ≤ 1099511627776) (id : Int) : ∀ (m n i : Nat), n = i + m → n ≤ 255 → ∀ (a : Nat) (bad : Bool) (vs : List S59), a ≤ s.size → FitV s.size vs m →
    Both s.size (fun k => payload_Decode.l0 k (m : Int) s (a : Int) bad id vs) (fun k => lodestarref05_Decode.l0 k (n : Int) (i : Int) s (a : Int) bad id vs)
  | 0, n, i, hn, h255, a, bad, vs, ha, hv => by
    obtain ⟨r, h1, h2, h3⟩ := sim_tail s hs n i a bad id vs ha hv 0
    exact ⟨r, h1, Ev.step (fun k => by rw [payload_Decode.l0, if_neg (by omega)]; rfl) h2, Ev.step (fun k => by rw [lodestarref05_Decode.l0, if_neg (by omega)]) h3⟩
  | m + 1, n, i, hn, h255, a, bad, vs, ha, hv => by
    have hp : ∀ r, Ev (fun k => payload_Decode.j1 k ((m + 1 : Nat) : Int) (!bad) s (a : Int) bad id vs) r → Ev (fun k => payload_Decode.l0 k ((m + 1 : Nat) : Int) s (a : Int) bad id vs) r := fun r h =>
      Ev.step (fun k => by rw [payload_Decode.l0, if_pos (by omega)]) h
    have hq : ∀ r, Ev (fun k => lodestarref05_Decode.j1 k (n : Int) (i : Int) (!bad) s (a : Int) bad id vs) r → Ev (fun k => lodestarref05_Decode.l0 k (n : Int) (i : Int) s (a : Int) bad id vs) r := fun r h =>
      Ev.step (fun k => by rw [lodestarref05_Decode.l0, if_pos (by omega)]) h
    cases bad with
    | true =>
      obtain ⟨r, h1, h2, h3⟩ := sim_tail s hs n i a true id vs ha (fitV_zero _ _ _ hv) ((m + 1 : Nat) : Int)
      exact ⟨r, h1, hp r h2, hq r h3⟩
    | false =>
      obtain ⟨l1, a1, b1, h1⟩ := ex_num s a false 1
      obtain ⟨nm, a2, b2, h2⟩ := ex_txt s a1 b1 (l1 : Int)
      obtain ⟨c, a3, b3, h3⟩ := ex_num s a2 b2 1
      have ha1 := num_le h1 ha
      have hn1 := n1 h1 ha
      have ha2 := txt_le h2 ha1
      have ha3 := num_le h3 ha2
      have hn3 := n1 h3 ha2
      obtain ⟨r, g1, g2, g3⟩ := sim_comps s hs m n i hn h255 id vs hv nm (txt_size h2 ha1) (fun a bad vs ha hv => sim_vecs s hs id m n (i + 1) (by omega) h255 a bad vs ha hv) c c 0 (Nat.zero_add _).symm (by omega) a3 b3 [] ha3 (Nat.le_refl _)
      refine ⟨r, g1, hp r ?_, hq r ?_⟩
      · show Ev (fun k => payload_Decode.j1 k ((m + 1 : Nat) : Int) true s (a : Int) false id vs) r
        refine Ev.step (fun k => by rw [payload_Decode.j1, if_pos rfl]) ?_
        refine Ev.bind (ev_num s hs a false 1 _ _ _ h1 ha (by omega) (by omega)) ?_
        simp only
        rw [w64 (x := (l1 : Int)) (by omega) (by omega)]
        refine Ev.bind (ev_txt s hs _ _ _ _ _ _ h2 ha1 (by omega) (by omega)) ?_
        simp only
        refine Ev.bind (ev_num s hs _ _ 1 _ _ _ h3 ha2 (by omega) (by omega)) ?_
        simp only
        rw [w64 (x := (c : Int)) (by omega) (by omega)]
        exact g2
      · show Ev (fun k => lodestarref05_Decode.j1 k (n : Int) (i : Int) true s (a : Int) false id vs) r
        refine Ev.step (fun k => by rw [lodestarref05_Decode.j1, if_pos rfl]) ?_
        refine Ev.bind (ev_rnum s hs a false 1 _ _ _ h1 ha (by omega) (by omega)) ?_
        simp only
        rw [w64 (x := (l1 : Int)) (by omega) (by omega)]
        refine Ev.bind (ev_cut s hs _ _ _ _ _ _ h2 ha1 (by omega) (by omega)) ?_
        simp only
        refine Ev.bind (ev_rnum s hs _ _ 1 _ _ _ h3 ha2 (by omega) (by omega)) ?_
        simp only
        rw [w64 (x := (c : Int)) (by omega) (by omega)]
        exact g3
theorem sim_decode (s : ByteArray) (hs : s.size ≤ 1099511627776) : Both s.size (fun k => payload_Decode.f k s) (fun k => lodestarref05_Decode.f k s) := by
  obtain ⟨v, a1, b1, h1⟩ := ex_num s 0 false 8
  obtain ⟨c, a2, b2, h2⟩ := ex_num s a1 b1 1
  have ha1 := num_le h1 (Nat.zero_le _)
  have ha2 := num_le h2 ha1
  have hn2 := n1 h2 ha1
  obtain ⟨r, g1, g2, g3⟩ := sim_vecs s hs (wrap64 (v : Int)) c c 0 (Nat.zero_add _).symm (by omega) a2 b2 [] ha2 ⟨by simp; omega, by simp [wt59]; omega, by simp⟩
  refine ⟨r, g1, ?_, ?_⟩
  · refine Ev.congr (fun k => by rw [payload_Decode.f]) ?_
    refine Ev.bind (ev_num s hs 0 false 8 _ _ _ h1 (Nat.zero_le _) (by omega) (by omega)) ?_
    simp only
    refine Ev.bind (ev_num s hs _ _ 1 _ _ _ h2 ha1 (by omega) (by omega)) ?_
    simp only
    rw [w64 (x := (c : Int)) (by omega) (by omega)]
    exact g2
  · refine Ev.congr (fun k => by rw [lodestarref05_Decode.f]) ?_
    refine Ev.bind (ev_rnum s hs 0 false 8 _ _ _ h1 (Nat.zero_le _) (by omega) (by omega)) ?_
    simp only
    refine Ev.bind (ev_rnum s hs _ _ 1 _ _ _ h2 ha1 (by omega) (by omega)) ?_
    simp only
    rw [w64 (x := (c : Int)) (by omega) (by omega)]
    exact g3
end Go.Proofs.YtbeljekpknpadaaDoor.PPayVL
