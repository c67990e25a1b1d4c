/- What payload.Decode answers at the bytes of a point, whole or cut off, whatever stands behind. -/
import Derived.Test.YtbeljekpknpadaaDoorPPayYx8
import Derived.Test.YtbeljekpknpadaaDoorPyR
import Derived.Test.YtbeljekpknpadaaDoorPyE
namespace Go.Proofs.YtbeljekpknpadaaDoor.PPayYL
open Go.RowKit Go.Proofs.YtbeljekpknpadaaDoor.PPayY Go.Proofs.YtbeljekpknpadaaDoorW.PrintWords Go.Proofs.YtbeljekpknpadaaDoorW.PrintLast Go.Proofs.YtbeljekpknpadaaDoorW.PrintMore
set_option linter.unusedVariables false
set_option linter.unusedSimpArgs false

/-! ### what still is to be read -/
/-- from a on the bytes, and behind them what was cut off, are L -/
def AtC (s : ByteArray) (Z : List Int) (a : Nat) (L : List Int) : Prop := a ≤ s.size ∧ (bytesOf s).drop a ++ Z = L
theorem bytesOf_extract (s : ByteArray) (a b : Nat) : bytesOf (s.extract a b) = ((bytesOf s).take b).drop a := by
  simp [bytesOf, List.map_drop, List.map_take, List.drop_take]
theorem atC_cut {s : ByteArray} {Z L R : List Int} {a : Nat} (h : AtC s Z a (L ++ R)) (c : a + L.length ≤ s.size) : bytesOf (s.extract a (a + L.length)) = L ∧ AtC s Z (a + L.length) R := by
  obtain ⟨ha, h⟩ := h
  have hl : ((bytesOf s).drop a).length = s.size - a := by rw [List.length_drop, bytesOf_length]
  have h1 : ((bytesOf s).drop a).take L.length = L := by
    have := congrArg (List.take L.length) h
    rwa [List.take_append_of_le_length (by omega), List.take_left'] at this
    rfl
  have h2 : ((bytesOf s).drop a).drop L.length ++ Z = R := by
    have := congrArg (List.drop L.length) h
    rwa [List.drop_append_of_le_length (by omega), List.drop_left'] at this
    rfl
  refine ⟨?_, c, ?_⟩
  · rw [bytesOf_extract, List.drop_take]
    rwa [show a + L.length - a = L.length by omega]
  · rwa [List.drop_drop] at h2
theorem atC_short {s : ByteArray} {Z L R : List Int} {a : Nat} (h : AtC s Z a (L ++ R)) (c : ¬ a + L.length ≤ s.size) : Z ≠ [] := by
  rintro rfl
  obtain ⟨ha, h⟩ := h
  have := congrArg List.length h
  rw [List.append_nil, List.length_drop, bytesOf_length, List.length_append] at this
  omega
theorem txt_at {s : ByteArray} {Z R : List Int} {a : Nat} (t : ByteArray) (h : AtC s Z a (bytesOf t ++ R)) :
    (TXT s a false (t.size : Int) = (t, a + t.size, false) ∧ AtC s Z (a + t.size) R) ∨ (Z ≠ [] ∧ TXT s a false (t.size : Int) = (⟨#[]⟩, a, true)) := by
  have ha := h.1
  by_cases c : a + t.size ≤ s.size
  · refine .inl ?_
    have h2 := atC_cut h (by rw [bytesOf_length]; exact c)
    rw [bytesOf_length] at h2
    refine ⟨?_, h2.2⟩
    unfold TXT
    rw [if_neg (by simp; omega), Int.toNat_natCast]
    rw [bytes_inj h2.1]
  · refine .inr ⟨atC_short h (by rw [bytesOf_length]; exact c), ?_⟩
    unfold TXT
    rw [if_pos (Or.inr (Or.inr (by omega)))]
theorem num_at {s : ByteArray} {Z R : List Int} {a : Nat} (w n : Nat) (hn : n < 256 ^ w) (h1 : 1 ≤ w) (h : AtC s Z a (leB w n ++ R)) :
    (NUM s a false w = (n, a + w, false) ∧ AtC s Z (a + w) R) ∨ (Z ≠ [] ∧ NUM s a false w = (0, a, true)) := by
  have e := bytesOf_fix n w
  have hs := fix_size n w
  rw [← e] at h
  rcases txt_at (FIX n w) h with ⟨h2, h3⟩ | ⟨h2, h3⟩
  · rw [hs] at h2 h3
    refine .inl ⟨?_, h3⟩
    unfold NUM
    rw [h2]
    simp only
    rw [if_neg (by omega), UNFIX_FIX n w hn]
  · rw [hs] at h3
    refine .inr ⟨h2, ?_⟩
    unfold NUM
    rw [h3]
    rfl
theorem num_dead (s : ByteArray) (a w : Nat) : NUM s a true w = (0, a, true) := by
  unfold NUM
  rw [TXT_bad]
  rfl
theorem txt_dead (s : ByteArray) (a : Nat) (n : Int) : TXT s a true n = (⟨#[]⟩, a, true) := TXT_bad s a n

/-! ### once it is bad -/
theorem dead_l2 (s : ByteArray) (hs : s.size ≤ 1099511627776) (p : Int) (a : Nat) (id : Int) (vs : List S59) (fs : List S61) (hv : FitV s.size vs 0) (hf : FitF s.size fs 0) : Ev (fun k => payload_Decode.l2 k p s (a : Int) true id vs fs) ERR := by
  obtain ⟨r, _, h2, h3⟩ := fin_p s hs p a true id vs fs hv hf
  rw [if_pos rfl] at h3
  subst h3
  refine Ev.step (f := fun k => payload_Decode.j4 k p false s (a : Int) true id vs fs) (fun k => ?_) h2
  rw [payload_Decode.l2]
  split <;> rfl
theorem dead_l0 (s : ByteArray) (hs : s.size ≤ 1099511627776) (p : Int) (a : Nat) (ha : a ≤ s.size) (id : Int) (vs : List S59) (hv : FitV s.size vs 0) : Ev (fun k => payload_Decode.l0 k p s (a : Int) true id vs) ERR := by
  refine Ev.step (f := fun k => payload_Decode.j1 k p false s (a : Int) true id vs) (fun k => ?_) ?_
  · rw [payload_Decode.l0]
    split <;> rfl
  · refine Ev.step (fun k => by rw [payload_Decode.j1, if_neg (by simp)]) ?_
    refine Ev.bind (ev_num s hs a true 1 _ _ _ (num_dead s a 1) ha (by omega) (by omega)) ?_
    simp only
    exact dead_l2 s hs _ a id vs [] hv (fitF_nil _ _ (by omega))
theorem dead_l1 (s : ByteArray) (hs : s.size ≤ 1099511627776) (p c : Int) (a : Nat) (ha : a ≤ s.size) (id : Int) (vs : List S59) (hv : FitV s.size vs 1) (nm : ByteArray) (hnm : nm.size ≤ s.size) (V : List Int) (hV : V.length ≤ 255) : Ev (fun k => payload_Decode.l1 k p c s (a : Int) true id vs nm V) ERR := by
  have h := dead_l0 s hs (wrap64 (p - 1)) a ha id (vs ++ [(⟨nm, V⟩ : S59)]) (fitV_snoc _ _ _ _ hv hnm hV)
  have hl := hv.1
  refine Ev.step (f := fun k => payload_Decode.l0 k (wrap64 (p - 1)) s (a : Int) true id (vs ++ [(⟨nm, V⟩ : S59)])) (fun k => ?_) h
  rw [payload_Decode.l1]
  by_cases c0 : c > 0
  · rw [if_pos c0, if_pos rfl, if_pos (by omega)]
  · rw [if_neg c0, if_pos (by omega)]

/-- what comes out: nothing, where something was cut off; or the point, and how far it was read -/
def Out (s : ByteArray) (Z T : List Int) (a0 : Int) (l1 : List S59) (l2 : List S61) (r : Res) : Prop :=
  (r = ERR ∧ Z ≠ []) ∨ ∃ a : Nat, r = (a0, l1, l2, (a : Int), 0) ∧ AtC s Z a T

/-! ### fields -/
theorem valp_at {s : ByteArray} {Z R : List Int} {a : Nat} (v : S33) (hv : valB v = true) (h : AtC s Z a (encN v ++ bytesOf v.f2 ++ R)) :
    (∃ a', VALP s a false v.f0.toNat v.f1 v.f2 a' false ∧ AtC s Z a' R) ∨ (Z ≠ [] ∧ ∃ x t a', VALP s a false v.f0.toNat x t a' true) := by
  obtain ⟨k0, k1, k2⟩ := v
  rcases val_cases _ hv with ⟨c, c2, c3, c4⟩ | ⟨c, c2, c3⟩ | ⟨c, c2, c3⟩
  · simp only at c c2 c3 c4 h ⊢
    subst c c2
    have hb : bytesOf (⟨#[]⟩ : ByteArray) = [] := rfl
    have hw : (IntKind.u64.wrap k1).toNat < 256 ^ 8 := by rw [IntKind.wrap_u64]; omega
    have e : wrap64 (((IntKind.u64.wrap k1).toNat : Nat) : Int) = k1 := by
      rw [IntKind.wrap_u64]
      unfold wrap64
      omega
    simp only [encN, hb, List.append_nil] at h
    rw [if_neg (by omega), if_pos trivial] at h
    rcases num_at 8 _ hw (by omega) h with ⟨h2, h3⟩ | ⟨h2, h3⟩
    · exact .inl ⟨_, .inl ⟨rfl, _, h2, e.symm, rfl⟩, h3⟩
    · exact .inr ⟨h2, _, _, _, .inl ⟨rfl, _, h3, rfl, rfl⟩⟩
  · simp only at c c2 c3 h ⊢
    subst c c2
    simp only [encN] at h
    rw [if_pos trivial, List.append_assoc] at h
    rcases num_at 2 _ (by omega) (by omega) h with ⟨h2, h3⟩ | ⟨h2, h3⟩
    · rcases txt_at k2 h3 with ⟨h4, h5⟩ | ⟨h4, h5⟩
      · exact .inl ⟨_, .inr (.inl ⟨rfl, _, _, _, h2, h4, rfl⟩), h5⟩
      · exact .inr ⟨h4, _, _, _, .inr (.inl ⟨rfl, _, _, _, h2, h5, rfl⟩)⟩
    · exact .inr ⟨h2, _, _, _, .inr (.inl ⟨rfl, _, _, _, h3, txt_dead s _ _, rfl⟩)⟩
  · simp only at c c2 c3 h ⊢
    subst c c2
    have hb : bytesOf (⟨#[]⟩ : ByteArray) = [] := rfl
    have e : wrap64 ((k1.toNat : Nat) : Int) = k1 := by
      unfold wrap64
      omega
    simp only [encN, hb, List.append_nil] at h
    rw [if_neg (by omega), if_neg (by omega)] at h
    rcases num_at 1 _ (by omega) (by omega) h with ⟨h2, h3⟩ | ⟨h2, h3⟩
    · exact .inl ⟨_, .inr (.inr (.inl ⟨rfl, _, h2, e.symm, rfl⟩)), h3⟩
    · exact .inr ⟨h2, _, _, _, .inr (.inr (.inl ⟨rfl, _, h3, rfl, rfl⟩))⟩
theorem read_fields (s : ByteArray) (hs : s.size ≤ 1099511627776) (Z T : List Int) (a0 : Int) (l1 : List S59) (l2 : List S61) (hm : mayB a0 l1 l2 = true) (hv : FitV s.size l1 0) : ∀ (L fs : List S61), fs ++ L = l2 → (∀ x ∈ L, okF x) → ∀ (a : Nat), FitF s.size fs L.length → L.length ≤ 255 → AtC s Z a (L.flatMap encF ++ T) →
    ∃ r, Out s Z T a0 l1 l2 r ∧ Ev (fun k => payload_Decode.l2 k (L.length : Int) s (a : Int) false a0 l1 fs) r
  | [], fs, he, hL, a, hf, h255, hat => by
    obtain rfl : fs = l2 := by simpa using he
    obtain ⟨r, _, h2, h3⟩ := fin_p s hs 0 a false a0 l1 fs hv hf
    rw [if_neg (by simp), if_pos hm] at h3
    refine ⟨r, .inr ⟨a, h3, by simpa using hat⟩, Ev.step (f := fun k => payload_Decode.j4 k 0 false s (a : Int) false a0 l1 fs) (fun k => ?_) h2⟩
    rw [payload_Decode.l2, if_neg (by simp)]
    rfl
  | y :: L, fs, he, hL, a, hf, h255, hat => by
    obtain ⟨o1, o2⟩ := hL y (List.mem_cons_self ..)
    have o3 := val_text _ o2
    have o4 := val_kind _ o2
    have ha := hat.1
    have hlf : fs.length ≤ 1000 := by have := hf.1; simp only [List.length_cons] at this; omega
    have hlen : (y :: L).length = L.length + 1 := rfl
    have hstep : ∀ r, Ev (fun k => payload_Decode.j4 k ((L.length + 1 : Nat) : Int) true s (a : Int) false a0 l1 fs) r → Ev (fun k => payload_Decode.l2 k ((y :: L).length : Int) s (a : Int) false a0 l1 fs) r := fun r h =>
      Ev.step (f := fun k => payload_Decode.j4 k ((L.length + 1 : Nat) : Int) true s (a : Int) false a0 l1 fs) (fun k => by rw [payload_Decode.l2, if_pos (by simp only [List.length_cons]; omega)]; rfl) h
    rw [List.flatMap_cons, encF] at hat
    simp only [List.append_assoc] at hat
    -- where it goes wrong, all is told as wrong
    have dead : ∀ (n1 a1 : Nat) (b1 : Bool) (h1 : NUM s a false 1 = (n1, a1, b1)) (nm : ByteArray) (a2 : Nat) (b2 : Bool) (h2 : TXT s a1 b1 (n1 : Int) = (nm, a2, b2)) (a3 : Nat) (b3 : Bool) (h3 : NUM s a2 b2 1 = (0, a3, b3)), Ev (fun k => payload_Decode.l2 k ((y :: L).length : Int) s (a : Int) false a0 l1 fs) ERR := by
      intro n1 a1 b1 h1 nm a2 b2 h2 a3 b3 h3
      obtain ⟨x, t, a4, b4, h4⟩ := ex_valp s a3 b3 0
      exact hstep _ (prog_field s hs _ a a0 l1 fs ha hlf ERR n1 a1 b1 h1 nm a2 b2 h2 0 a3 b3 h3 x t a4 b4 h4 ⟨fun h => by omega, fun _ => rfl⟩)
    rcases num_at 1 _ (by omega) (by omega) hat with ⟨h1, hat1⟩ | ⟨hz, h1⟩
    · rcases txt_at y.f0 hat1 with ⟨h2, hat2⟩ | ⟨hz, h2⟩
      · rcases num_at 1 _ (by omega) (by omega) hat2 with ⟨h3, hat3⟩ | ⟨hz, h3⟩
        · rw [← List.append_assoc] at hat3
          have ha3 := num_le h3 (txt_le h2 (num_le h1 ha))
          have ek : ((y.f1.f0.toNat : Nat) : Int) = y.f1.f0 := by omega
          have ew : wrap64 (((L.length + 1 : Nat) : Int) - 1) = (L.length : Int) := pred_nat L.length (by simp only [List.length_cons] at h255; omega)
          rcases valp_at y.f1 o2 hat3 with ⟨a4, h4, hat4⟩ | ⟨hz, x, t, a4, h4⟩
          · have hle := valp_le h4 ha3
            have hf2 : FitF s.size (fs ++ [(⟨y.f0, ⟨((y.f1.f0.toNat : Nat) : Int), y.f1.f1, y.f1.f2⟩⟩ : S61)]) L.length := fit_snoc _ _ _ _ hf (txt_size h2 (num_le h1 ha)) hle.2
            rw [ek] at hf2
            obtain ⟨r, hr, hev⟩ := read_fields s hs Z T a0 l1 l2 hm hv L (fs ++ [y]) (by rw [List.append_assoc]; exact he) (fun x hx => hL x (List.mem_cons_of_mem _ hx)) a4 hf2 (by simp only [List.length_cons] at h255; omega) hat4
            refine ⟨r, hr, hstep r (prog_field s hs _ a a0 l1 fs ha hlf r _ _ _ h1 _ _ _ h2 _ _ _ h3 _ _ _ _ h4 ⟨fun _ => ?_, fun h => by omega⟩)⟩
            rw [ew, ek]
            exact hev
          · have hle := valp_le h4 ha3
            have hf2 : FitF s.size (fs ++ [(⟨y.f0, ⟨((y.f1.f0.toNat : Nat) : Int), x, t⟩⟩ : S61)]) L.length := fit_snoc _ _ _ _ hf (txt_size h2 (num_le h1 ha)) hle.2
            refine ⟨ERR, .inl ⟨rfl, hz⟩, hstep _ (prog_field s hs _ a a0 l1 fs ha hlf ERR _ _ _ h1 _ _ _ h2 _ _ _ h3 _ _ _ _ h4 ⟨fun _ => ?_, fun _ => rfl⟩)⟩
            exact dead_l2 s hs _ a4 a0 l1 _ hv (fit_zero _ _ _ hf2)
        · exact ⟨ERR, .inl ⟨rfl, hz⟩, dead _ _ _ h1 _ _ _ h2 _ _ h3⟩
      · exact ⟨ERR, .inl ⟨rfl, hz⟩, dead _ _ _ h1 _ _ _ h2 _ _ (num_dead s _ 1)⟩
    · exact ⟨ERR, .inl ⟨rfl, hz⟩, dead _ _ _ h1 _ _ _ (txt_dead s _ _) _ _ (num_dead s _ 1)⟩

/-! ### vectors -/
theorem fitV_one (B : Nat) (vs : List S59) (n : Nat) (h : FitV B vs (n + 1)) : FitV B vs 1 := by
  obtain ⟨f1, f2, f3⟩ := h
  have f4 : wt59 vs + 300 ≤ 1000000 := Nat.le_trans (Nat.add_le_add_left (Nat.le_mul_of_pos_right 300 (Nat.succ_pos n)) _) f2
  refine ⟨?_, ?_, f3⟩
  · omega
  · rw [Nat.mul_one]
    exact f4
theorem read_comps (s : ByteArray) (hs : s.size ≤ 1099511627776) (Z X : List Int) (id : Int) (m : Nat) (hm : m ≤ 255) (vs : List S59) (nm : ByteArray) (hnm : nm.size ≤ s.size) (W : List Int) (hW : W.length ≤ 255) (hv : FitV s.size vs (m + 1)) (Q : Res → Prop) (hQ : Z ≠ [] → Q ERR)
    (next : ∀ a : Nat, AtC s Z a X → ∃ r, Q r ∧ Ev (fun k => payload_Decode.l0 k (m : Int) s (a : Int) false id (vs ++ [(⟨nm, W⟩ : S59)])) r) : ∀ (C V : List Int), V ++ C = W → (∀ c ∈ C, inB c = true) → ∀ a : Nat, AtC s Z a (C.flatMap encC ++ X) →
    ∃ r, Q r ∧ Ev (fun k => payload_Decode.l1 k ((m + 1 : Nat) : Int) (C.length : Int) s (a : Int) false id vs nm V) r
  | [], V, he, hC, a, hat => by
    obtain rfl : V = W := by simpa using he
    obtain ⟨r, hr, h⟩ := next a (by simpa using hat)
    have hl := hv.1
    refine ⟨r, hr, Ev.step (f := fun k => payload_Decode.l0 k (m : Int) s (a : Int) false id (vs ++ [(⟨nm, V⟩ : S59)])) (fun k => ?_) h⟩
    rw [payload_Decode.l1, if_neg (by simp), if_pos (by omega), pred_nat m (by omega)]
  | c :: C, V, he, hC, a, hat => by
    have hb := hC c (List.mem_cons_self ..)
    simp only [inB, Bool.and_eq_true, decide_eq_true_eq] at hb
    have ha := hat.1
    have hVl : V.length + C.length + 1 ≤ 255 := by have := congrArg List.length he; simp only [List.length_append, List.length_cons] at this; omega
    have hc0 : ((c :: C).length : Int) > 0 := by simp only [List.length_cons]; omega
    have hpred : wrap64 (((c :: C).length : Int) - 1) = (C.length : Int) := pred_nat C.length (by omega)
    rw [List.flatMap_cons, encC, List.append_assoc] at hat
    have step : ∀ (v a' : Nat) (b' : Bool) (r : Res), NUM s a false 2 = (v, a', b') → v < 65536 → Ev (fun k => payload_Decode.l1 k ((m + 1 : Nat) : Int) (C.length : Int) s (a' : Int) b' id vs nm (V ++ [wrap64 ((v : Int) - 32768)])) r → Ev (fun k => payload_Decode.l1 k ((m + 1 : Nat) : Int) ((c :: C).length : Int) s (a : Int) false id vs nm V) r := by
      intro v a' b' r h hv' hev
      refine Ev.step (fun k => by rw [payload_Decode.l1, if_pos hc0, if_neg (by simp)]) ?_
      refine Ev.bind (ev_num s hs a false 2 _ _ _ h ha (by omega) (by omega)) ?_
      simp only
      rw [w64 (x := (v : Int)) (by omega) (by omega), hpred]
      exact Ev.congr (fun k => by rw [if_pos (by omega)]) hev
    rcases num_at 2 _ (by omega) (by omega) hat with ⟨h1, hat1⟩ | ⟨hz, h1⟩
    · have ec : wrap64 ((((c + 32768).toNat : Nat) : Int) - 32768) = c := by
        unfold wrap64
        omega
      obtain ⟨r, hr, hev⟩ := read_comps s hs Z X id m hm vs nm hnm W hW hv Q hQ next C (V ++ [c]) (by rw [List.append_assoc]; exact he) (fun x hx => hC x (List.mem_cons_of_mem _ hx)) _ hat1
      refine ⟨r, hr, step _ _ _ r h1 (by omega) ?_⟩
      rw [ec]
      exact hev
    · refine ⟨ERR, hQ hz, step _ _ _ ERR h1 (by omega) ?_⟩
      exact dead_l1 s hs _ _ a ha id vs (fitV_one _ _ _ hv) nm hnm _ (by simp only [List.length_append, List.length_cons, List.length_nil]; omega)
theorem read_vecs (s : ByteArray) (hs : s.size ≤ 1099511627776) (Z X : List Int) (id : Int) (W : List S59) (Q : Res → Prop) (hQ : Z ≠ [] → Q ERR)
    (next : ∀ a : Nat, AtC s Z a X → FitV s.size W 0 → ∃ r, Q r ∧ Ev (fun k => payload_Decode.l0 k 0 s (a : Int) false id W) r) : ∀ (L vs : List S59), vs ++ L = W → (∀ x ∈ L, okV x) → L.length ≤ 255 → ∀ a : Nat, FitV s.size vs L.length → AtC s Z a (L.flatMap encV ++ X) →
    ∃ r, Q r ∧ Ev (fun k => payload_Decode.l0 k (L.length : Int) s (a : Int) false id vs) r
  | [], vs, he, hL, h255, a, hv, hat => by
    obtain rfl : vs = W := by simpa using he
    exact next a (by simpa using hat) hv
  | y :: L, vs, he, hL, h255, a, hv, hat => by
    obtain ⟨o1, o2, o3⟩ := hL y (List.mem_cons_self ..)
    have ha := hat.1
    have hc0 : ((y :: L).length : Int) > 0 := by simp only [List.length_cons]; omega
    have h255' : L.length + 1 ≤ 255 := by simpa only [List.length_cons] using h255
    have hstep : ∀ (n1 a1 : Nat) (b1 : Bool) (nm : ByteArray) (a2 : Nat) (b2 : Bool) (c a3 : Nat) (b3 : Bool) (r : Res), NUM s a false 1 = (n1, a1, b1) → TXT s a1 b1 (n1 : Int) = (nm, a2, b2) → NUM s a2 b2 1 = (c, a3, b3) →
        Ev (fun k => payload_Decode.l1 k ((L.length + 1 : Nat) : Int) (c : Int) s (a3 : Int) b3 id vs nm []) r → Ev (fun k => payload_Decode.l0 k ((y :: L).length : Int) s (a : Int) false id vs) r := by
      intro n1' a1 b1 nm a2 b2 c a3 b3 r h1 h2 h3 hev
      have g1 := num_le h1 ha
      have g2 := n1 h1 ha
      have g3 := txt_le h2 g1
      have g4 := n1 h3 g3
      refine Ev.step (f := fun k => payload_Decode.j1 k ((L.length + 1 : Nat) : Int) true s (a : Int) false id vs) (fun k => by rw [payload_Decode.l0, if_pos hc0]; rfl) ?_
      refine Ev.step (fun k => by rw [payload_Decode.j1, if_pos rfl]) ?_
      refine Ev.bind (ev_num s hs a false 1 _ _ _ h1 ha (by omega) (by omega)) ?_
      simp only
      rw [w64 (x := (n1' : Int)) (by omega) (by omega)]
      refine Ev.bind (ev_txt s hs _ _ _ _ _ _ h2 g1 (by omega) (by omega)) ?_
      simp only
      refine Ev.bind (ev_num s hs _ _ 1 _ _ _ h3 g3 (by omega) (by omega)) ?_
      simp only
      rw [w64 (x := (c : Int)) (by omega) (by omega)]
      exact hev
    have hv1 : FitV s.size vs 1 := fitV_one _ _ _ hv
    rw [List.flatMap_cons, encV] at hat
    simp only [List.append_assoc] at hat
    rcases num_at 1 _ (by omega) (by omega) hat with ⟨h1, hat1⟩ | ⟨hz, h1⟩
    · rcases txt_at y.f0 hat1 with ⟨h2, hat2⟩ | ⟨hz, h2⟩
      · rcases num_at 1 _ (by omega) (by omega) hat2 with ⟨h3, hat3⟩ | ⟨hz, h3⟩
        · have hsz := txt_size h2 (num_le h1 ha)
          obtain ⟨r, hr, hev⟩ := read_comps s hs Z (L.flatMap encV ++ X) id L.length (by omega) vs y.f0 hsz y.f1 (by omega) hv Q hQ (fun a' hat' => read_vecs s hs Z X id W Q hQ next L (vs ++ [y]) (by rw [List.append_assoc]; exact he) (fun x hx => hL x (List.mem_cons_of_mem _ hx)) (by omega) a' (fitV_snoc _ _ _ y hv hsz (by omega)) hat') y.f1 [] rfl o3 _ hat3
          exact ⟨r, hr, hstep _ _ _ _ _ _ _ _ _ r h1 h2 h3 hev⟩
        · exact ⟨ERR, hQ hz, hstep _ _ _ _ _ _ _ _ _ ERR h1 h2 h3 (dead_l1 s hs _ _ _ (txt_le h2 (num_le h1 ha)) id vs hv1 _ (txt_size h2 (num_le h1 ha)) [] (by simp))⟩
      · exact ⟨ERR, hQ hz, hstep _ _ _ _ _ _ _ _ _ ERR h1 h2 (num_dead s _ 1) (dead_l1 s hs _ _ _ (num_le h1 ha) id vs hv1 _ (Nat.zero_le _) [] (by simp))⟩
    · exact ⟨ERR, hQ hz, hstep _ _ _ _ _ _ _ _ _ ERR h1 (txt_dead s _ _) (num_dead s _ 1) (dead_l1 s hs _ _ _ ha id vs hv1 _ (Nat.zero_le _) [] (by simp))⟩
theorem read_point (s : ByteArray) (hs : s.size ≤ 1099511627776) (Z T : List Int) (a0 : Int) (l1 : List S59) (l2 : List S61) (hm : mayB a0 l1 l2 = true) (hat : AtC s Z 0 (encP a0 l1 l2 ++ T)) : ∃ r, Out s Z T a0 l1 l2 r ∧ Ev (fun k => payload_Decode.f k s) r := by
  obtain ⟨o1, o2, o3, o4, o5, o6, o7⟩ := may_ok a0 l1 l2 hm
  have hQ : Z ≠ [] → Out s Z T a0 l1 l2 ERR := fun hz => .inl ⟨rfl, hz⟩
  have hstep : ∀ (v a1 : Nat) (b1 : Bool) (c a2 : Nat) (b2 : Bool) (r : Res), NUM s 0 false 8 = (v, a1, b1) → NUM s a1 b1 1 = (c, a2, b2) → Ev (fun k => payload_Decode.l0 k (c : Int) s (a2 : Int) b2 (wrap64 (v : Int)) []) r → Ev (fun k => payload_Decode.f k s) r := by
    intro v a1 b1 c a2 b2 r h1 h2 hev
    have g1 := num_le h1 (Nat.zero_le _)
    have g2 := n1 h2 g1
    refine Ev.congr (fun k => by rw [payload_Decode.f]) ?_
    refine Ev.bind (ev_num s hs 0 false 8 _ _ _ h1 (Nat.zero_le _) (by omega) (by omega)) ?_
    simp only
    refine Ev.bind (ev_num s hs _ _ 1 _ _ _ h2 g1 (by omega) (by omega)) ?_
    simp only
    rw [w64 (x := (c : Int)) (by omega) (by omega)]
    exact hev
  have hnil : FitV s.size [] l1.length := ⟨by simp; omega, by simp [wt59]; omega, by simp⟩
  rw [encP] at hat
  simp only [List.append_assoc] at hat
  rcases num_at 8 _ (by omega) (by omega) hat with ⟨h1, hat1⟩ | ⟨hz, h1⟩
  · have e0 : wrap64 ((a0.toNat : Nat) : Int) = a0 := by
      unfold wrap64
      omega
    rcases num_at 1 _ (by omega) (by omega) hat1 with ⟨h2, hat2⟩ | ⟨hz, h2⟩
    · obtain ⟨r, hr, hev⟩ := read_vecs s hs Z (leB 1 l2.length ++ (l2.flatMap encF ++ T)) a0 l1 (Out s Z T a0 l1 l2) hQ (fun a hat hv => by
        have ha := hat.1
        have hj : ∀ (c a1 : Nat) (b1 : Bool) (r : Res), NUM s a false 1 = (c, a1, b1) → Ev (fun k => payload_Decode.l2 k (c : Int) s (a1 : Int) b1 a0 l1 []) r → Ev (fun k => payload_Decode.l0 k 0 s (a : Int) false a0 l1) r := by
          intro c a1 b1 r h hev
          have g := n1 h ha
          refine Ev.step (f := fun k => payload_Decode.j1 k 0 false s (a : Int) false a0 l1) (fun k => by rw [payload_Decode.l0, if_neg (by omega)]) ?_
          refine Ev.step (fun k => by rw [payload_Decode.j1, if_neg (by simp)]) ?_
          refine Ev.bind (ev_num s hs a false 1 _ _ _ h ha (by omega) (by omega)) ?_
          simp only
          rw [w64 (x := (c : Int)) (by omega) (by omega)]
          exact hev
        rcases num_at 1 _ (by omega) (by omega) hat with ⟨h3, hat3⟩ | ⟨hz, h3⟩
        · obtain ⟨r, hr, hev⟩ := read_fields s hs Z T a0 l1 l2 hm hv l2 [] rfl o7 _ (fitF_nil _ _ (by omega)) (by omega) hat3
          exact ⟨r, hr, hj _ _ _ r h3 hev⟩
        · exact ⟨ERR, hQ hz, hj _ _ _ ERR h3 (dead_l2 s hs _ a a0 l1 [] hv (fitF_nil _ _ (by omega)))⟩) l1 [] rfl o6 (by omega) _ hnil hat2
      refine ⟨r, hr, hstep _ _ _ _ _ _ r h1 h2 ?_⟩
      rw [e0]
      exact hev
    · exact ⟨ERR, hQ hz, hstep _ _ _ _ _ _ ERR h1 h2 (dead_l0 s hs _ _ (num_le h1 (Nat.zero_le _)) _ [] ⟨by simp, by simp [wt59], by simp⟩)⟩
  · exact ⟨ERR, hQ hz, hstep _ _ _ _ _ _ ERR h1 (num_dead s _ 1) (dead_l0 s hs _ _ (Nat.zero_le _) _ [] ⟨by simp, by simp [wt59], by simp⟩)⟩
end Go.Proofs.YtbeljekpknpadaaDoor.PPayYL
