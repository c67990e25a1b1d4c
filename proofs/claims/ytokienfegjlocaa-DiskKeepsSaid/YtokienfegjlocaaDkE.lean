/- The disk's methods, walked: Sync, SyncNames, Cut. -/
import Derived.Test.YtokienfegjlocaaDkD
namespace Go.Proofs.Ytokienfegjlocaa.Dk
open Go.RowKit Go.Maps Go.ChangeMaps Go.WideAt Go.WideMaps Go.Proofs.YtokienfegjlocaaW.PrintWords

def DS.fileAt (S : DS) (i : Nat) : ByteArray × Int := S.fs.getD i (⟨#[]⟩, 0)
def DS.setFile (S : DS) (i : Nat) (f : ByteArray × Int) : DS := { S with fs := S.fs.set i f }
/-- a step, where the name leads to a file: what is done then -/
def DS.at1 (S : DS) (name : ByteArray) (k : DS → Nat → DS) : DS × Int :=
  if S.known name = 0 then
    (if S.step.2.2 = 0 then (match S.find name with | some i => (k S.step.1 i, 0) | none => (S.step.1, 0)) else (S.step.1, S.step.2.2))
  else (S, S.known name)
def DS.sync (S : DS) (name : ByteArray) : DS × Int := S.at1 name fun T i => T.setFile i ((T.fileAt i).1, (T.fileAt i).1.size)
theorem step_find (S : DS) (name : ByteArray) : S.step.1.find name = S.find name := by
  unfold DS.step
  split
  · rfl
  · split <;> rfl
theorem At.fileIn {own : Nat → Prop} {w : World} {d mb : Nat} {S : DS} {bs : List Nat} {vo vp : Value} (h : At own w d S mb bs vo vp) {name : ByteArray} {i : Nat} (hi : S.find name = some i) :
    bs[i]? = some (bs.getD i 0) ∧ S.fs[i]? = some (S.fileAt i) ∧ w.heap[bs.getD i 0]? = some (.cells #[.string (S.fileAt i).1, .int .i64 (S.fileAt i).2] 70 (0, 0)) ∧ own (bs.getD i 0) := by
  obtain ⟨h1, h2, h3, h4⟩ := h.fileCells hi
  exact ⟨h2, h3, h4, h.ownf _ (List.mem_of_getElem? h2)⟩

set_option maxHeartbeats 1000000 in
theorem sync_calls {own : Nat → Prop} {w : World} {d mb : Nat} {S : DS} {bs : List Nat} {vo vp : Value} (h : At own w d S mb bs vo vp) (name : ByteArray) (hl : name.size ≤ maxLen) (h0 : 0 ≤ S.steps) (h1 : S.steps < 4611686018427387904) :
    Calls Try.prog 10 #[.pointer (some ⟨d, 0, none⟩), .string name] w fun e w' => e = .returned (.int .i64 (S.sync name).2) ∧ (∃ vp', At own w' d (S.sync name).1 mb bs vo vp') ∧ Kept own w w' := by
  have H := Aside0.mk h
  have HL := Aside0.mk hl
  have H0 := Aside0.mk h0
  have H1 := Aside0.mk h1
  clear h hl h0 h1
  unfold DS.sync DS.at1
  by_cases hk : S.known name = 0
  · obtain ⟨i, hf⟩ := known_zero hk
    have HKn := Aside0.mk hk
    rw [if_pos hk]
    obtain ⟨T, f, er, hS⟩ : ∃ T f er, S.step = (T, f, er) := ⟨_, _, _, rfl⟩
    have hfT : T.find name = some i := by have := step_find S name; rw [hS] at this; exact this.trans hf
    have HS := Aside0.mk hS
    rw [hS]
    by_cases he : er = 0
    · subst he
      simp only [hf, if_true]
      obtain ⟨fb, hfb⟩ : ∃ fb, fb = bs.getD i 0 := ⟨_, rfl⟩
      have hv : Aside0 (fileV bs (T.find name) = .pointer (some ⟨fb, 0, none⟩)) := ⟨by rw [hfT, hfb]; rfl⟩
      obtain ⟨fx, hfx⟩ : ∃ fx, fx = T.fileAt i := ⟨_, rfl⟩
      have HI : Aside0 (∀ {w1 : World} {vp1 : Value}, At own w1 d T mb bs vo vp1 → bs[i]? = some fb ∧ T.fs[i]? = some fx ∧ w1.heap[fb]? = some (.cells #[.string fx.1, .int .i64 fx.2] 70 (0, 0)) ∧ own fb) := ⟨fun hA => by rw [hfb, hfx]; exact hA.fileIn hfT⟩
      rw [← hfx]
      clear hfb hfx hf hk hS hfT
      go_enter Try.func10, Try.ntmps10
      go_wp2_with (first
        | (go_at_call 24; (with_reducible refine (known_calls H.out name HL.out).mono ?_); rintro e w1 ⟨rfl, rfl⟩; rw [HKn.out])
        | (go_at_call 25; (with_reducible refine (refused_calls H.out H0.out H1.out HS.out).mono ?_); rintro e w1 ⟨rfl, ⟨vp1, hA⟩, hK⟩; obtain ⟨c0, c1, c2, c3⟩ := hA.cells; have hc := (HI.out hA).2.2.1; have x0 := blk_cell hc 0; have x1 := blk_cell hc 1; have xf1 := blk_frozen hc 1; have HA := Aside0.mk hA; have HK := Aside0.mk hK; clear hA hK hc)
        | (at_lookup; refine wpList_lookup_dk _ rfl _ _ rfl HA.out rfl name rfl HL.out _ hv.out ?_)
        | go_in)
      go_ret
      obtain ⟨h1, h2, h3, h4⟩ := HI.out HA.out
      exact ⟨rfl, ⟨_, HA.out.setF h1 h2 1 _ (fx.1, (fx.1.size : Int)) rfl⟩, HK.out.trans (Kept.set (own := own) ⟨fb, 1, none⟩ h4 _) (fun _ hk => .inl hk)⟩
    · simp only [if_neg he]
      have hz : (er == 0) = false := by simpa using he
      clear hf hk hS hfT he
      go_enter Try.func10, Try.ntmps10
      go_wp2_with (first
        | (go_at_call 24; (with_reducible refine (known_calls H.out name HL.out).mono ?_); rintro e w1 ⟨rfl, rfl⟩; rw [HKn.out])
        | (go_at_call 25; (with_reducible refine (refused_calls H.out H0.out H1.out HS.out).mono ?_); rintro e w1 ⟨rfl, hA, hK⟩; have HA := Aside0.mk hA; have HK := Aside0.mk hK; clear hA hK)
        | go_in)
      go_ret
      exact ⟨rfl, HA.out, HK.out⟩
  · rw [if_neg hk]
    generalize hkn : S.known name = kn at hk
    have HKn := Aside0.mk hkn
    clear hkn
    have hz : (kn == 0) = false := by simpa using hk
    go_enter Try.func10, Try.ntmps10
    go_wp2_with (first
      | (go_at_call 24; (with_reducible refine (known_calls H.out name HL.out).mono ?_); rintro e w1 ⟨rfl, rfl⟩; rw [HKn.out])
      | go_in)
    go_ret
    exact ⟨rfl, ⟨_, H.out⟩, Kept.refl _ _⟩
theorem sync_nil (name : ByteArray) (w : World) : Calls Try.prog 10 #[.pointer none, .string name] w fun e w' => e = .returned (.int .i64 1) ∧ w' = w := by
  go_enter Try.func10, Try.ntmps10
  go_wp2_with (first | (go_at_call 24; (with_reducible refine (known_nil name _).mono ?_); rintro e w1 ⟨rfl, rfl⟩) | go_in)
  go_ret
  exact ⟨rfl, rfl⟩

def DS.syncNames (S : DS) : DS × Int := if S.step.2.2 = 0 then ({ S.step.1 with opn := [] }, 0) else (S.step.1, S.step.2.2)
set_option maxHeartbeats 1000000 in
theorem syncNames_calls {own : Nat → Prop} {w : World} {d mb : Nat} {S : DS} {bs : List Nat} {vo vp : Value} (h : At own w d S mb bs vo vp) (h0 : 0 ≤ S.steps) (h1 : S.steps < 4611686018427387904) :
    Calls Try.prog 11 #[.pointer (some ⟨d, 0, none⟩)] w fun e w' => e = .returned (.int .i64 S.syncNames.2) ∧ (∃ vo' vp', At own w' d S.syncNames.1 mb bs vo' vp') ∧ Kept own w w' := by
  have H := Aside0.mk h
  have H0 := Aside0.mk h0
  have H1 := Aside0.mk h1
  clear h h0 h1
  unfold DS.syncNames
  obtain ⟨T, f, er, hS⟩ : ∃ T f er, S.step = (T, f, er) := ⟨_, _, _, rfl⟩
  have HS := Aside0.mk hS
  rw [hS]
  by_cases he : er = 0
  · subst he
    simp only [if_true]
    clear hS
    go_enter Try.func11, Try.ntmps11
    go_wp2_with (first
      | (go_at_call 25; (with_reducible refine (refused_calls H.out H0.out H1.out HS.out).mono ?_); rintro e w1 ⟨rfl, ⟨vp1, hA⟩, hK⟩; obtain ⟨c0, c1, c2, c3⟩ := hA.cells; have cf := hA.frozen 1; have HA := Aside0.mk hA; have HK := Aside0.mk hK; clear hA hK)
      | go_in)
    go_ret
    exact ⟨rfl, ⟨_, _, HA.out.setD 1 (.slice none 0 0) (opn' := []) rfl (own_nil _ _ _ _) (fun c hc => by cases hc) HA.out.plan HA.out.pblk (fun k hk => by cases hk) HA.out.ownp⟩, HK.out.trans (Kept.set (own := own) ⟨d, 1, none⟩ HA.out.ownd _) (fun _ hk => .inl hk)⟩
  · simp only [if_neg he]
    have hz : (er == 0) = false := by simpa using he
    clear hS he
    go_enter Try.func11, Try.ntmps11
    go_wp2_with (first
      | (go_at_call 25; (with_reducible refine (refused_calls H.out H0.out H1.out HS.out).mono ?_); rintro e w1 ⟨rfl, hA, hK⟩; have HA := Aside0.mk hA; have HK := Aside0.mk hK; clear hA hK)
      | go_in)
    go_ret
    obtain ⟨vp1, hA⟩ := HA.out
    exact ⟨rfl, ⟨_, _, hA⟩, HK.out⟩
theorem syncNames_nil (w : World) : Calls Try.prog 11 #[.pointer none] w fun e w' => e = .returned (.int .i64 1) ∧ w' = w := by
  go_enter Try.func11, Try.ntmps11
  go_wp2
  go_ret
  exact ⟨rfl, rfl⟩

end Go.Proofs.Ytokienfegjlocaa.Dk
