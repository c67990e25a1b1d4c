/- Both Decodes answer the same, at any bytes. -/
import Derived.Test.YtbeljekpknpadaaDoorPPayYx5
import Derived.Test.YtbeljekpknpadaaDoorPPayYx7
import Derived.Test.YtbeljekpknpadaaDoorPPayYx8
import Derived.Test.YtbeljekpknpadaaDoorPyP
namespace Go.Proofs.YtbeljekpknpadaaDoor.PPayYL
open Go.RowKit Go.Proofs.YtbeljekpknpadaaDoor.PPayY Go.Proofs.YtbeljekpknpadaaDoorW.PrintWords Go.Proofs.YtbeljekpknpadaaDoorW.PrintLast Go.Proofs.YtbeljekpknpadaaDoorW.PrintMore
set_option linter.unusedVariables false
set_option linter.unusedSimpArgs false

abbrev Res := Int × List S59 × List S61 × Int × Int
def ERR : Res := (0, [], [], 0, 52)
/-- what has been read so far is of bounded size -/
def FitV (B : Nat) (vs : List S59) (n : Nat) : Prop := vs.length + n ≤ 1000 ∧ wt59 vs + 300 * n ≤ 1000000 ∧ ∀ x ∈ vs, x.f0.size ≤ B
def FitF (B : Nat) (fs : List S61) (n : Nat) : Prop := fs.length + n ≤ 1000 ∧ (∀ x ∈ fs, x.f0.size ≤ B) ∧ ∀ x ∈ fs, x.f1.f2.size ≤ B
def RFit (B : Nat) (r : Res) : Prop := wt59 r.2.1 ≤ 1000000 ∧ r.2.2.1.length ≤ 1000 ∧ (∀ x ∈ r.2.1, x.f0.size ≤ B) ∧ (∀ x ∈ r.2.2.1, x.f0.size ≤ B) ∧ ∀ x ∈ r.2.2.1, x.f1.f2.size ≤ B
theorem RFit_err (B : Nat) : RFit B ERR := ⟨by simp [ERR, wt59], by simp [ERR], by simp [ERR], by simp [ERR], by simp [ERR]⟩
def Both (B : Nat) (p q : Nat → Option Res) : Prop := ∃ r, RFit B r ∧ Ev p r ∧ Ev q r

theorem ev_num (s : ByteArray) (hs : s.size ≤ 1099511627776) (a : Nat) (bad : Bool) (w : Nat) (v a' : Nat) (b' : Bool) (h : NUM s a bad w = (v, a', b')) (ha : a ≤ s.size) (h1 : 1 ≤ w) (h8 : w ≤ 8) : Ev (fun k => payload_taker_number.f k s (a : Int) bad (w : Int)) (wrap64 (v : Int), s, (a' : Int), b') :=
  ⟨10, fun k hk => by have e := number_eq s a bad w k hs ha h1 h8 hk; rw [h] at e; exact e⟩
theorem ev_txt (s : ByteArray) (hs : s.size ≤ 1099511627776) (a : Nat) (bad : Bool) (n : Int) (t : ByteArray) (a' : Nat) (b' : Bool) (h : TXT s a bad n = (t, a', b')) (ha : a ≤ s.size) (h0 : -4611686018427387904 ≤ n) (h1 : n ≤ 4611686018427387904) : Ev (fun _ => payload_taker_text.f s (a : Int) bad n) (t, s, (a' : Int), b') :=
  ⟨0, fun k _ => by have e := text_eq s a bad n hs ha h0 h1; rw [h] at e; exact e⟩
theorem num_le {s : ByteArray} {a : Nat} {bad : Bool} {w v a' : Nat} {b' : Bool} (h : NUM s a bad w = (v, a', b')) (ha : a ≤ s.size) : a' ≤ s.size := by have := NUM_le s a bad w ha; rw [h] at this; exact this
theorem txt_le {s : ByteArray} {a : Nat} {bad : Bool} {n : Int} {t : ByteArray} {a' : Nat} {b' : Bool} (h : TXT s a bad n = (t, a', b')) (ha : a ≤ s.size) : a' ≤ s.size := by have := TXT_le s a bad n ha; rw [h] at this; exact this
theorem txt_size {s : ByteArray} {a : Nat} {bad : Bool} {n : Int} {t : ByteArray} {a' : Nat} {b' : Bool} (h : TXT s a bad n = (t, a', b')) (ha : a ≤ s.size) : t.size ≤ s.size := by have := TXT_size s a bad n ha; rw [h] at this; exact this
theorem n1 {s : ByteArray} {a : Nat} {bad : Bool} {v a' : Nat} {b' : Bool} (h : NUM s a bad 1 = (v, a', b')) (ha : a ≤ s.size) : v < 256 := by have := NUM_lt s a bad 1 ha; rw [h] at this; exact this
theorem n2 {s : ByteArray} {a : Nat} {bad : Bool} {v a' : Nat} {b' : Bool} (h : NUM s a bad 2 = (v, a', b')) (ha : a ≤ s.size) : v < 65536 := by have := NUM_lt s a bad 2 ha; rw [h] at this; exact this
theorem ex_num (s : ByteArray) (a : Nat) (bad : Bool) (w : Nat) : ∃ v a' b', NUM s a bad w = (v, a', b') := ⟨_, _, _, rfl⟩
theorem ex_txt (s : ByteArray) (a : Nat) (bad : Bool) (n : Int) : ∃ t a' b', TXT s a bad n = (t, a', b') := ⟨_, _, _, rfl⟩

/-! ### the end -/
theorem fin_p (s : ByteArray) (hs : s.size ≤ 1099511627776) (n : Int) (a : Nat) (bad : Bool) (id : Int) (vs : List S59) (fs : List S61) (hv : FitV s.size vs 0) (hf : FitF s.size fs 0) :
    ∃ r, RFit s.size r ∧ Ev (fun k => payload_Decode.j4 k n false s (a : Int) bad id vs fs) r ∧ r = (if bad = true then ERR else if mayB id vs fs = true then (id, vs, fs, (a : Int), 0) else ERR) := by
  obtain ⟨v1, v2, v3⟩ := hv
  obtain ⟨f1, f2, f3⟩ := hf
  refine ⟨_, ?_, ?_, rfl⟩
  · cases bad
    · by_cases hm : mayB id vs fs = true
      · rw [if_neg (by simp), if_pos hm]
        exact ⟨by omega, by omega, v3, f2, f3⟩
      · rw [if_neg (by simp), if_neg hm]
        exact RFit_err _
    · exact RFit_err _
  · cases bad with
    | true => exact Ev.step (f := fun _ => some ERR) (fun k => by rw [payload_Decode.j4, if_neg (by simp), if_pos rfl]; rfl) (Ev.now _)
    | false =>
      refine Ev.step (f := fun k => (payload_may.f k id vs fs).bind fun t => if t = true then some (id, vs, fs, (a : Int), 0) else some ERR) (fun k => by rw [payload_Decode.j4, if_neg (by simp), if_neg (by simp)]; rfl) ?_
      refine Ev.bind (a := mayB id vs fs) ⟨2000000, fun k hk => may_eq id vs fs (by omega) (by omega) (fun x hx => Nat.le_trans (v3 x hx) hs) (fun x hx => Nat.le_trans (f2 x hx) hs) (fun x hx => Nat.le_trans (f3 x hx) hs) k (by omega)⟩ ?_
      cases mayB id vs fs with
      | true => exact Ev.now _
      | false => exact Ev.now _
/-! ### a field of no kind: the document reads on, and takes nothing -/
theorem may_bad (id : Int) (vs : List S59) (fs : List S61) (h : ∃ x ∈ fs, valB x.f1 = false) : mayB id vs fs = false := by
  obtain ⟨x, hx, h⟩ := h
  have : fs.all (fun x => valB x.f1) = false := by
    rw [List.all_eq_false]
    exact ⟨x, hx, by simp [h]⟩
  simp [mayB, this]
theorem fit_snoc (B : Nat) (fs : List S61) (n : Nat) (x : S61) (h : FitF B fs (n + 1)) (h0 : x.f0.size ≤ B) (h2 : x.f1.f2.size ≤ B) : FitF B (fs ++ [x]) n := by
  obtain ⟨f1, f2, f3⟩ := h
  refine ⟨by simp; omega, fun y hy => ?_, fun y hy => ?_⟩
  · rcases List.mem_append.1 hy with hy | hy
    · exact f2 y hy
    · obtain rfl := List.mem_singleton.1 hy
      exact h0
  · rcases List.mem_append.1 hy with hy | hy
    · exact f3 y hy
    · obtain rfl := List.mem_singleton.1 hy
      exact h2
theorem fit_less (B : Nat) (fs : List S61) (n : Nat) (h : FitF B fs (n + 1)) : FitF B fs n := ⟨by have := h.1; omega, h.2⟩
theorem fit_zero (B : Nat) (fs : List S61) (n : Nat) (h : FitF B fs n) : FitF B fs 0 := ⟨by have := h.1; omega, h.2⟩

/-- the rest of a field, by its kind: the number and the text, and where the reader stands -/
def VALP (s : ByteArray) (a : Nat) (bad : Bool) (kind : Nat) (x : Int) (t : ByteArray) (a' : Nat) (b' : Bool) : Prop :=
  (kind = 1 ∧ ∃ v, NUM s a bad 8 = (v, a', b') ∧ x = wrap64 (v : Int) ∧ t = ⟨#[]⟩) ∨
  (kind = 2 ∧ ∃ v a1 b1, NUM s a bad 2 = (v, a1, b1) ∧ TXT s a1 b1 (v : Int) = (t, a', b') ∧ x = 0) ∨
  (kind = 3 ∧ ∃ v, NUM s a bad 1 = (v, a', b') ∧ x = wrap64 (v : Int) ∧ t = ⟨#[]⟩) ∨
  (kind ≠ 1 ∧ kind ≠ 2 ∧ kind ≠ 3 ∧ a' = a ∧ b' = bad ∧ x = 0 ∧ t = ⟨#[]⟩)
theorem ex_valp (s : ByteArray) (a : Nat) (bad : Bool) (kind : Nat) : ∃ x t a' b', VALP s a bad kind x t a' b' := by
  by_cases c1 : kind = 1
  · exact ⟨_, _, _, _, .inl ⟨c1, _, rfl, rfl, rfl⟩⟩
  · by_cases c2 : kind = 2
    · exact ⟨_, _, _, _, .inr (.inl ⟨c2, _, _, _, rfl, rfl, rfl⟩)⟩
    · by_cases c3 : kind = 3
      · exact ⟨_, _, _, _, .inr (.inr (.inl ⟨c3, _, rfl, rfl, rfl⟩))⟩
      · exact ⟨_, _, _, _, .inr (.inr (.inr ⟨c1, c2, c3, rfl, rfl, rfl, rfl⟩))⟩
theorem valp_le {s : ByteArray} {a : Nat} {bad : Bool} {kind : Nat} {x : Int} {t : ByteArray} {a' : Nat} {b' : Bool} (h : VALP s a bad kind x t a' b') (ha : a ≤ s.size) : a' ≤ s.size ∧ t.size ≤ s.size := by
  rcases h with ⟨_, v, h, _, rfl⟩ | ⟨_, v, a1, b1, h, h2, _⟩ | ⟨_, v, h, _, rfl⟩ | ⟨_, _, _, rfl, _, _, rfl⟩
  · exact ⟨num_le h ha, Nat.zero_le _⟩
  · exact ⟨txt_le h2 (num_le h ha), txt_size h2 (num_le h ha)⟩
  · exact ⟨num_le h ha, Nat.zero_le _⟩
  · exact ⟨ha, Nat.zero_le _⟩
end Go.Proofs.YtbeljekpknpadaaDoor.PPayYL
