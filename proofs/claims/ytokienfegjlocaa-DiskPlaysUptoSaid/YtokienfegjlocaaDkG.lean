/- The disk's methods, walked: Rename. -/
import Derived.Test.YtokienfegjlocaaDks
namespace Go.Proofs.Ytokienfegjlocaa.Dk
open Go.RowKit Go.Maps Go.ChangeMaps Go.WideAt Go.WideMaps Go.Proofs.YtokienfegjlocaaW.PrintWords

def DS.ren (T : DS) (a b : ByteArray) : DS := { T with D := (T.D.put (keyL b) (refD (T.find a))).del (keyL a), puts := T.puts + 1, opn := T.opn ++ [⟨a, b, T.find b, 1⟩] }
def DS.rename (S : DS) (a b : ByteArray) : DS × Int :=
  if a.toList.isEmpty = true ∨ b.toList.isEmpty = true then (S, 1) else S.at1 a fun T _ => if (a.toList == b.toList) = true then T else T.ren a b
theorem fileV_ptr (bs : List Nat) (o : Option Nat) : ∃ u, fileV bs o = .pointer u := by cases o <;> exact ⟨_, rfl⟩

set_option maxHeartbeats 2000000 in
theorem rename_calls {own : Nat → Prop} {w : World} {d mb : Nat} {S : DS} {bs : List Nat} {vo vp : Value} (h : At own w d S mb bs vo vp) (a b : ByteArray) (hla : a.size ≤ maxLen) (hlb : b.size ≤ maxLen) (h0 : 0 ≤ S.steps) (h1 : S.steps < 4611686018427387904) (hn : S.opn.length < 1099511627776) (hp : S.puts < maxLen) :
    Calls Try.prog 12 #[.pointer (some ⟨d, 0, none⟩), .string a, .string b] w fun e w' => e = .returned (.int .i64 (S.rename a b).2) ∧ (∃ vo' vp', At (more own w w') w' d (S.rename a b).1 mb bs vo' vp') ∧ Kept own w w' := by
  have H := Aside0.mk h
  have HLa := Aside0.mk hla
  have HLb := Aside0.mk hlb
  have H0 := Aside0.mk h0
  have H1 := Aside0.mk h1
  have HN := Aside0.mk hn
  have HP := Aside0.mk hp
  clear h hla hlb h0 h1 hn hp
  unfold DS.rename
  cases ha : a.toList.isEmpty with
  | true =>
    simp only [true_or, if_true]
    go_enter Try.func12, Try.ntmps12
    go_wp2
    go_ret
    exact ⟨rfl, ⟨_, _, H.out.more (Kept.refl _ _)⟩, Kept.refl _ _⟩
  | false =>
  cases hb : b.toList.isEmpty with
  | true =>
    simp only [or_true, if_true]
    go_enter Try.func12, Try.ntmps12
    go_wp2
    go_ret
    exact ⟨rfl, ⟨_, _, H.out.more (Kept.refl _ _)⟩, Kept.refl _ _⟩
  | false =>
  simp only [Bool.false_eq_true, or_self, if_false]
  unfold DS.at1
  by_cases hk : S.known a = 0
  · obtain ⟨i, hf⟩ := known_zero hk
    have HKn := Aside0.mk hk
    rw [if_pos hk]
    obtain ⟨T, f, er, hS⟩ : ∃ T f er, S.step = (T, f, er) := ⟨_, _, _, rfl⟩
    have hfT : T.find a = some i := by have := step_find S a; rw [hS] at this; exact this.trans hf
    have HS := Aside0.mk hS
    rw [hS]
    by_cases he : er = 0
    · subst he
      simp only [hf, if_true]
      cases hab : (a.toList == b.toList) with
      | true =>
        simp only [if_true]
        clear hf hk hS hfT
        go_enter Try.func12, Try.ntmps12
        go_wp2_with (first
          | (go_at_call 24; (with_reducible refine (known_calls H.out a HLa.out).mono ?_); rintro e w1 ⟨rfl, rfl⟩; rw [HKn.out])
          | (go_at_call 25; (with_reducible refine (refused_calls H.out H0.out H1.out HS.out).mono ?_); rintro e w1 ⟨rfl, hA, hK⟩; have HA := Aside0.mk hA; have HK := Aside0.mk hK; clear hA hK)
          | go_in)
        go_ret
        obtain ⟨vp1, hA⟩ := HA.out
        exact ⟨rfl, ⟨_, _, hA.more HK.out⟩, HK.out⟩
      | false =>
        simp only [Bool.false_eq_true, if_false]
        obtain ⟨u, hu⟩ := fileV_ptr bs (T.find b)
        have hv : Aside0 (fileV bs (T.find b) = .pointer u) := ⟨hu⟩
        obtain ⟨ua, hua⟩ := fileV_ptr bs (T.find a)
        have hva : Aside0 (fileV bs (T.find a) = .pointer ua) := ⟨hua⟩
        have HY : Aside0 ([.string a, .string b, .pointer u, .int .i64 1] = chgV bs ⟨a, b, T.find b, 1⟩) := ⟨by rw [← hu]; rfl⟩
        have HN2 : Aside0 (T.opn.length < 1099511627776) := ⟨by have := step_opn S; rw [hS] at this; rw [this]; exact HN.out⟩
        have HP2 : Aside0 (T.puts < maxLen) := ⟨by have := step_puts S; rw [hS] at this; rw [this]; exact HP.out⟩
        clear hf hk hS hfT hu hua
        go_enter Try.func12, Try.ntmps12
        go_wp2_with (first
          | (go_at_call 24; (with_reducible refine (known_calls H.out a HLa.out).mono ?_); rintro e w1 ⟨rfl, rfl⟩; rw [HKn.out])
          | (go_at_call 25; (with_reducible refine (refused_calls H.out H0.out H1.out HS.out).mono ?_); rintro e w1 ⟨rfl, ⟨vp1, hA⟩, hK⟩; obtain ⟨c0, c1, c2, c3⟩ := hA.cells; have xf1 := hA.frozen 1; have HD1 := Aside0.mk (hA.ne_opn); have HB1 := Aside0.mk hA.blk; have hdlt := blk_lt hA.blk; have HA := Aside0.mk hA; have HK := Aside0.mk hK; clear hA hK)
          | go_in)
        have hlk := HA.out.drew.lookEq b HLb.out _ hv.out
        go_region_law (refine append_step_dk (by rfl) (.tmp 37) (.tmp 47) rfl HA.out [.string a, .string b, .pointer u, .int .i64 1] ⟨a, b, T.find b, 1⟩ HY.out rfl rfl HN2.out ?_; intro A cc w2 hr hg hat; have z1 := (hg.cell c1 HD1.out); have zf1 := (frozen_grown (j := 1) hg HB1.out HD1.out); have HR := Aside0.mk hr; have HG := Aside0.mk hg; have HT := Aside0.mk hat; clear hr hg hat)
        all_goals
          have HA2 := Aside0.mk (HA.out.setOpn ⟨a, b, T.find b, 1⟩ (fun j hj => HA.out.find_lt b j hj) HR.out HG.out HT.out)
          have HK2 := Aside0.mk ((HK.out.trans (Kept.of_grown (S := own) HG.out (fun k hk => HA.out.owno k hk)) (fun _ hk => .inl hk)).trans (Kept.set (own := own) ⟨d, 1, none⟩ HA.out.ownd (.slice A (T.opn.length + 1) cc)) (fun _ hk => .inl hk))
          clear z1 zf1 HR HG HT hlk
          generalize w2.setCell ⟨d, 1, none⟩ (.slice A (T.opn.length + 1) cc) = w3 at HA2 HK2 ⊢
          obtain ⟨j0, j1, j2, j3⟩ := HA2.out.cells
          go_wp2
          have hlk2 := HA2.out.drew.lookEq a HLa.out _ hva.out
          obtain ⟨w4, hst, hA4, hK4⟩ := HA2.out.drew.storeEq b HLb.out HP2.out (T.find a) (fun j hj => HA.out.find_lt a j hj) (.pointer ua) hva.out
          have HA4 := Aside0.mk hA4
          have HK4 := Aside0.mk hK4
          clear hA4 hK4
          go_region
          clear hlk2 hst
          obtain ⟨i0, i1, i2, i3⟩ := HA4.out.cells
          go_wp2_with (first | (at_delete; refine wpList_delete_dk rfl _ _ rfl HA4.out rfl a rfl HLa.out ?_; intro w5 hA5 hK5; have HA5 := Aside0.mk hA5; have HK5 := Aside0.mk hK5; clear hA5 hK5) | go_in)
          go_ret
          have hm := more_in (own := own) (w2 := w2) HK.out.size
          have hK := (HK2.out.drew.trans HK4.out hm).trans HK5.out hm
          exact ⟨rfl, ⟨_, _, HA5.out.lift hm (fun k hk => Nat.lt_of_lt_of_le (H.out.bnd k hk) hK.size)⟩, hK⟩
    · simp only [if_neg he]
      have hz : (er == 0) = false := by simpa using he
      clear hf hk hS hfT he
      go_enter Try.func12, Try.ntmps12
      go_wp2_with (first
        | (go_at_call 24; (with_reducible refine (known_calls H.out a HLa.out).mono ?_); rintro e w1 ⟨rfl, rfl⟩; rw [HKn.out])
        | (go_at_call 25; (with_reducible refine (refused_calls H.out H0.out H1.out HS.out).mono ?_); rintro e w1 ⟨rfl, hA, hK⟩; have HA := Aside0.mk hA; have HK := Aside0.mk hK; clear hA hK)
        | go_in)
      go_ret
      obtain ⟨vp1, hA⟩ := HA.out
      exact ⟨rfl, ⟨_, _, hA.more HK.out⟩, HK.out⟩
  · rw [if_neg hk]
    generalize hkn : S.known a = kn at hk
    have HKn := Aside0.mk hkn
    clear hkn
    have hz : (kn == 0) = false := by simpa using hk
    go_enter Try.func12, Try.ntmps12
    go_wp2_with (first
      | (go_at_call 24; (with_reducible refine (known_calls H.out a HLa.out).mono ?_); rintro e w1 ⟨rfl, rfl⟩; rw [HKn.out])
      | go_in)
    go_ret
    exact ⟨rfl, ⟨_, _, H.out.more (Kept.refl _ _)⟩, Kept.refl _ _⟩
theorem rename_nil (a b : ByteArray) (w : World) : Calls Try.prog 12 #[.pointer none, .string a, .string b] w fun e w' => e = .returned (.int .i64 1) ∧ w' = w := by
  go_enter Try.func12, Try.ntmps12
  go_wp2
  go_ret
  exact ⟨rfl, rfl⟩
theorem remove_nil (name : ByteArray) (w : World) : Calls Try.prog 21 #[.pointer none, .string name] w fun e w' => e = .returned (.int .i64 1) ∧ w' = w := by
  go_enter Try.func21, Try.ntmps21
  go_wp2_with (first | (go_at_call 24; (with_reducible refine (known_nil name _).mono ?_); rintro e w1 ⟨rfl, rfl⟩) | go_in)
  go_ret
  exact ⟨rfl, rfl⟩

end Go.Proofs.Ytokienfegjlocaa.Dk
