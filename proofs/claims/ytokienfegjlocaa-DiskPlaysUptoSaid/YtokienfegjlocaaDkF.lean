/- The disk's methods, walked: Remove. -/
import Derived.Test.YtokienfegjlocaaDks
namespace Go.Proofs.Ytokienfegjlocaa.Dk
open Go.RowKit Go.Maps Go.ChangeMaps Go.WideAt Go.WideMaps Go.Proofs.YtokienfegjlocaaW.PrintWords

def DS.remove (S : DS) (name : ByteArray) : DS × Int := S.at1 name fun T i => { T with D := T.D.del (keyL name), opn := T.opn ++ [⟨⟨#[]⟩, name, some i, 2⟩] }

set_option maxHeartbeats 2000000 in
theorem remove_calls {own : Nat → Prop} {w : World} {d mb : Nat} {S : DS} {bs : List Nat} {vo vp : Value} (h : At own w d S mb bs vo vp) (name : ByteArray) (hl : name.size ≤ maxLen) (h0 : 0 ≤ S.steps) (h1 : S.steps < 4611686018427387904) (hn : S.opn.length < 1099511627776) :
    Calls Try.prog 21 #[.pointer (some ⟨d, 0, none⟩), .string name] w fun e w' => e = .returned (.int .i64 (S.remove name).2) ∧ (∃ vo' vp', At (more own w w') w' d (S.remove name).1 mb bs vo' vp') ∧ Kept own w w' := by
  have H := Aside0.mk h
  have HL := Aside0.mk hl
  have H0 := Aside0.mk h0
  have H1 := Aside0.mk h1
  have HN := Aside0.mk hn
  clear h hl h0 h1 hn
  unfold DS.remove DS.at1
  by_cases hk : S.known name = 0
  · obtain ⟨i, hf⟩ := known_zero hk
    have HKn := Aside0.mk hk
    rw [if_pos hk]
    obtain ⟨T, f, er, hS⟩ : ∃ T f er, S.step = (T, f, er) := ⟨_, _, _, rfl⟩
    have hfT : T.find name = some i := by have := step_find S name; rw [hS] at this; exact this.trans hf
    have HS := Aside0.mk hS
    rw [hS]
    by_cases he : er = 0
    · subst he
      simp only [hf, if_true]
      obtain ⟨fb, hfb⟩ : ∃ fb, fb = bs.getD i 0 := ⟨_, rfl⟩
      have hv : Aside0 (fileV bs (T.find name) = .pointer (some ⟨fb, 0, none⟩)) := ⟨by rw [hfT, hfb]; rfl⟩
      have HF := Aside0.mk hfT
      have HY : Aside0 ([.string ⟨#[]⟩, .string name, .pointer (some ⟨fb, 0, none⟩), .int .i64 2] = chgV bs ⟨⟨#[]⟩, name, some i, 2⟩) := ⟨by rw [hfb]; rfl⟩
      have HN2 : Aside0 (T.opn.length < 1099511627776) := ⟨by have := step_opn S; rw [hS] at this; rw [this]; exact HN.out⟩
      clear hfb hf hk hS hfT
      go_enter Try.func21, Try.ntmps21
      go_wp2_with (first
        | (go_at_call 24; (with_reducible refine (known_calls H.out name HL.out).mono ?_); rintro e w1 ⟨rfl, rfl⟩; rw [HKn.out])
        | (go_at_call 25; (with_reducible refine (refused_calls H.out H0.out H1.out HS.out).mono ?_); rintro e w1 ⟨rfl, ⟨vp1, hA⟩, hK⟩; obtain ⟨c0, c1, c2, c3⟩ := hA.cells; have xf1 := hA.frozen 1; have HD1 := Aside0.mk (hA.ne_opn); have HB1 := Aside0.mk hA.blk; have hdlt := blk_lt hA.blk; have HA := Aside0.mk hA; have HK := Aside0.mk hK; clear hA hK)
        | go_in)
      have hlk := HA.out.drew.lookEq name HL.out _ hv.out
      go_region_law (refine append_step_dk (by rfl) (.tmp 22) (.tmp 31) rfl HA.out [.string ⟨#[]⟩, .string name, .pointer (some ⟨fb, 0, none⟩), .int .i64 2] ⟨⟨#[]⟩, name, some i, 2⟩ HY.out rfl rfl HN2.out ?_; intro A cc w2 hr hg hat; have z1 := (hg.cell c1 HD1.out); have zf1 := (frozen_grown (j := 1) hg HB1.out HD1.out); have HR := Aside0.mk hr; have HG := Aside0.mk hg; have HT := Aside0.mk hat; clear hr hg hat)
      all_goals
        have HA2 := Aside0.mk (HA.out.setOpn ⟨⟨#[]⟩, name, some i, 2⟩ (fun j hj => by cases hj; exact HA.out.find_lt name i HF.out) HR.out HG.out HT.out)
        have HK2 := Aside0.mk ((HK.out.trans (Kept.of_grown (S := own) HG.out (fun k hk => HA.out.owno k hk)) (fun _ hk => .inl hk)).trans (Kept.set (own := own) ⟨d, 1, none⟩ HA.out.ownd (.slice A (T.opn.length + 1) cc)) (fun _ hk => .inl hk))
        clear z1 zf1 HR HG HT
        generalize w2.setCell ⟨d, 1, none⟩ (.slice A (T.opn.length + 1) cc) = w3 at HA2 HK2 ⊢
        obtain ⟨j0, j1, j2, j3⟩ := HA2.out.cells
        go_wp2_with (first | (at_delete; refine wpList_delete_dk rfl _ _ rfl HA2.out rfl name rfl HL.out ?_; intro w4 hA4 hK4; have HA4 := Aside0.mk hA4; have HK4 := Aside0.mk hK4; clear hA4 hK4) | go_in)
        go_ret
        have hm := more_in (own := own) (w2 := w2) HK.out.size
        have hK := HK2.out.trans HK4.out hm
        exact ⟨rfl, ⟨_, _, HA4.out.lift hm (fun k hk => Nat.lt_of_lt_of_le (H.out.bnd k hk) hK.size)⟩, hK⟩
    · simp only [if_neg he]
      have hz : (er == 0) = false := by simpa using he
      clear hf hk hS hfT he
      go_enter Try.func21, Try.ntmps21
      go_wp2_with (first
        | (go_at_call 24; (with_reducible refine (known_calls H.out name HL.out).mono ?_); rintro e w1 ⟨rfl, rfl⟩; rw [HKn.out])
        | (go_at_call 25; (with_reducible refine (refused_calls H.out H0.out H1.out HS.out).mono ?_); rintro e w1 ⟨rfl, hA, hK⟩; have HA := Aside0.mk hA; have HK := Aside0.mk hK; clear hA hK)
        | go_in)
      go_ret
      obtain ⟨vp1, hA⟩ := HA.out
      exact ⟨rfl, ⟨_, _, hA.more HK.out⟩, HK.out⟩
  · rw [if_neg hk]
    generalize hkn : S.known name = kn at hk
    have HKn := Aside0.mk hkn
    clear hkn
    have hz : (kn == 0) = false := by simpa using hk
    go_enter Try.func21, Try.ntmps21
    go_wp2_with (first
      | (go_at_call 24; (with_reducible refine (known_calls H.out name HL.out).mono ?_); rintro e w1 ⟨rfl, rfl⟩; rw [HKn.out])
      | go_in)
    go_ret
    exact ⟨rfl, ⟨_, _, H.out.more (Kept.refl _ _)⟩, Kept.refl _ _⟩

end Go.Proofs.Ytokienfegjlocaa.Dk
