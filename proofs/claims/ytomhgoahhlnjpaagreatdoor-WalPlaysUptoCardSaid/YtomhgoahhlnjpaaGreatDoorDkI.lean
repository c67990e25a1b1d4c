/- The disk's methods, walked: Cut. -/
import Derived.Test.YtomhgoahhlnjpaaGreatDoorDks
namespace Go.Proofs.YtomhgoahhlnjpaaGreatDoor.Dk
open Go.RowKit Go.Maps Go.ChangeMaps Go.WideAt Go.WideMaps Go.Proofs.YtomhgoahhlnjpaaGreatDoorW.PrintWords

def DS.cut (S : DS) (name : ByteArray) (sz : Int) : DS × Int := S.at1 name fun T i => T.setFile i ((T.fileAt i).1.extract 0 (min (max sz 0) ((T.fileAt i).1.size : Int)).toNat, min (T.fileAt i).2 (min (max sz 0) ((T.fileAt i).1.size : Int)))

set_option maxHeartbeats 4000000 in
theorem cut_calls {own : Nat → Prop} {w : World} {d mb : Nat} {S : DS} {bs : List Nat} {vo vp : Value} (h : At own w d S mb bs vo vp) (name : ByteArray) (sz : Int) (hl : name.size ≤ maxLen) (h0 : 0 ≤ S.steps) (h1 : S.steps < 4611686018427387904) :
    Calls Tryz.prog 34 #[.pointer (some ⟨d, 0, none⟩), .string name, .int .i64 sz] w fun e w' => e = .returned (.int .i64 (S.cut name sz).2) ∧ (∃ vp', At own w' d (S.cut name sz).1 mb bs vo vp') ∧ Kept own w w' := by
  have H := Aside0.mk h
  have HL := Aside0.mk hl
  have H0 := Aside0.mk h0
  have H1 := Aside0.mk h1
  clear h hl h0 h1
  unfold DS.cut DS.at1
  by_cases hk : S.known name = 0
  · obtain ⟨i, hf⟩ := known_zero hk
    have HKn := Aside0.mk hk
    rw [if_pos hk]
    obtain ⟨T, f, er, hS⟩ : ∃ T f er, S.step = (T, f, er) := ⟨_, _, _, rfl⟩
    have hfT : T.find name = some i := by have := step_find S name; rw [hS] at this; exact this.trans hf
    have HS := Aside0.mk hS
    rw [hS]
    by_cases he : er = 0
    · subst he
      simp only [hf, if_true]
      obtain ⟨fb, hfb⟩ : ∃ fb, fb = bs.getD i 0 := ⟨_, rfl⟩
      have hv : Aside0 (fileV bs (T.find name) = .pointer (some ⟨fb, 0, none⟩)) := ⟨by rw [hfT, hfb]; rfl⟩
      obtain ⟨fx, hfx⟩ : ∃ fx, fx = T.fileAt i := ⟨_, rfl⟩
      have HI : Aside0 (∀ {w1 : World} {vp1 : Value}, At own w1 d T mb bs vo vp1 → bs[i]? = some fb ∧ T.fs[i]? = some fx ∧ w1.heap[fb]? = some (.cells #[.string fx.1, .int .i64 fx.2] 78 (0, 0)) ∧ own fb) := ⟨fun hA => by rw [hfb, hfx]; exact hA.fileIn hfT⟩
      rw [← hfx]
      clear hfb hfx hf hk hS hfT
      obtain hz | hz | hz : sz < 0 ∨ (0 ≤ sz ∧ sz ≤ (fx.1.size : Int)) ∨ (0 ≤ sz ∧ ¬ sz ≤ (fx.1.size : Int)) := by omega
      · rw [show min (max sz 0) (fx.1.size : Int) = 0 by omega]
        simp only [Int.toNat_zero]
        rw [show fx.1.extract 0 0 = ByteArray.empty by simp]
        by_cases hm : fx.2 ≤ 0
        · rw [Int.min_eq_left hm]
          go_enter Tryz.func34, Tryz.ntmps34
          go_wp2_with (first
            | (go_at_call 26; (with_reducible refine (known_calls H.out name HL.out).mono ?_); rintro e w1 ⟨rfl, rfl⟩; rw [HKn.out])
            | (go_at_call 55; (with_reducible refine (refused_calls H.out H0.out H1.out HS.out).mono ?_); rintro e w1 ⟨rfl, ⟨vp1, hA⟩, hK⟩; obtain ⟨c0, c1, c2, c3⟩ := hA.cells; have hc := (HI.out hA).2.2.1; have x0 := blk_cell hc 0; have x1 := blk_cell hc 1; have xf0 := blk_frozen hc 0; have xf1 := blk_frozen hc 1; have hflt := blk_lt hc; have HA := Aside0.mk hA; have HK := Aside0.mk hK; clear hA hK hc)
            | (at_lookup; refine wpList_lookup_dk _ rfl _ _ rfl HA.out rfl name rfl HL.out _ hv.out ?_)
            | go_in)
          go_region
          go_wp2
          go_ret
          obtain ⟨h1, h2, h3, h4⟩ := HI.out HA.out
          have hA2 := HA.out.setF h1 h2 0 (.string ByteArray.empty) (ByteArray.empty, fx.2) rfl
          have hA3 := hA2.setF h1 (f := (ByteArray.empty, fx.2)) (by simp [(List.getElem?_eq_some_iff.1 h2).1]) 1 (.int .i64 fx.2) (ByteArray.empty, fx.2) rfl
          dsimp only at hA3
          rw [List.set_set] at hA3
          exact ⟨rfl, ⟨_, hA3.drew⟩, ((HK.out.trans (Kept.set (own := own) ⟨fb, 0, none⟩ h4 _) (fun _ hk => .inl hk)).trans (Kept.set (own := own) ⟨fb, 1, none⟩ h4 _) (fun _ hk => .inl hk)).drew⟩
        · rw [Int.min_eq_right (by omega)]
          go_enter Tryz.func34, Tryz.ntmps34
          go_wp2_with (first
            | (go_at_call 26; (with_reducible refine (known_calls H.out name HL.out).mono ?_); rintro e w1 ⟨rfl, rfl⟩; rw [HKn.out])
            | (go_at_call 55; (with_reducible refine (refused_calls H.out H0.out H1.out HS.out).mono ?_); rintro e w1 ⟨rfl, ⟨vp1, hA⟩, hK⟩; obtain ⟨c0, c1, c2, c3⟩ := hA.cells; have hc := (HI.out hA).2.2.1; have x0 := blk_cell hc 0; have x1 := blk_cell hc 1; have xf0 := blk_frozen hc 0; have xf1 := blk_frozen hc 1; have hflt := blk_lt hc; have HA := Aside0.mk hA; have HK := Aside0.mk hK; clear hA hK hc)
            | (at_lookup; refine wpList_lookup_dk _ rfl _ _ rfl HA.out rfl name rfl HL.out _ hv.out ?_)
            | go_in)
          go_region
          go_wp2
          go_ret
          obtain ⟨h1, h2, h3, h4⟩ := HI.out HA.out
          have hA2 := HA.out.setF h1 h2 0 (.string ByteArray.empty) (ByteArray.empty, fx.2) rfl
          have hA3 := hA2.setF h1 (f := (ByteArray.empty, fx.2)) (by simp [(List.getElem?_eq_some_iff.1 h2).1]) 1 (.int .i64 0) (ByteArray.empty, 0) rfl
          dsimp only at hA3
          rw [List.set_set] at hA3
          exact ⟨rfl, ⟨_, hA3.drew⟩, ((HK.out.trans (Kept.set (own := own) ⟨fb, 0, none⟩ h4 _) (fun _ hk => .inl hk)).trans (Kept.set (own := own) ⟨fb, 1, none⟩ h4 _) (fun _ hk => .inl hk)).drew⟩
      · rw [show min (max sz 0) (fx.1.size : Int) = sz by omega]
        obtain ⟨hz1, hz2⟩ := id hz
        by_cases hm : fx.2 ≤ sz
        · rw [Int.min_eq_left hm]
          go_enter Tryz.func34, Tryz.ntmps34
          go_wp2_with (first
            | (go_at_call 26; (with_reducible refine (known_calls H.out name HL.out).mono ?_); rintro e w1 ⟨rfl, rfl⟩; rw [HKn.out])
            | (go_at_call 55; (with_reducible refine (refused_calls H.out H0.out H1.out HS.out).mono ?_); rintro e w1 ⟨rfl, ⟨vp1, hA⟩, hK⟩; obtain ⟨c0, c1, c2, c3⟩ := hA.cells; have hc := (HI.out hA).2.2.1; have x0 := blk_cell hc 0; have x1 := blk_cell hc 1; have xf0 := blk_frozen hc 0; have xf1 := blk_frozen hc 1; have hflt := blk_lt hc; have HA := Aside0.mk hA; have HK := Aside0.mk hK; clear hA hK hc)
            | (at_lookup; refine wpList_lookup_dk _ rfl _ _ rfl HA.out rfl name rfl HL.out _ hv.out ?_)
            | go_in)
          go_region
          go_wp2
          go_ret
          obtain ⟨h1, h2, h3, h4⟩ := HI.out HA.out
          have hA2 := HA.out.setF h1 h2 0 (.string (fx.1.extract 0 sz.toNat)) ((fx.1.extract 0 sz.toNat), fx.2) rfl
          have hA3 := hA2.setF h1 (f := ((fx.1.extract 0 sz.toNat), fx.2)) (by simp [(List.getElem?_eq_some_iff.1 h2).1]) 1 (.int .i64 fx.2) ((fx.1.extract 0 sz.toNat), fx.2) rfl
          dsimp only at hA3
          rw [List.set_set] at hA3
          exact ⟨rfl, ⟨_, hA3.drew⟩, ((HK.out.trans (Kept.set (own := own) ⟨fb, 0, none⟩ h4 _) (fun _ hk => .inl hk)).trans (Kept.set (own := own) ⟨fb, 1, none⟩ h4 _) (fun _ hk => .inl hk)).drew⟩
        · rw [Int.min_eq_right (by omega)]
          go_enter Tryz.func34, Tryz.ntmps34
          go_wp2_with (first
            | (go_at_call 26; (with_reducible refine (known_calls H.out name HL.out).mono ?_); rintro e w1 ⟨rfl, rfl⟩; rw [HKn.out])
            | (go_at_call 55; (with_reducible refine (refused_calls H.out H0.out H1.out HS.out).mono ?_); rintro e w1 ⟨rfl, ⟨vp1, hA⟩, hK⟩; obtain ⟨c0, c1, c2, c3⟩ := hA.cells; have hc := (HI.out hA).2.2.1; have x0 := blk_cell hc 0; have x1 := blk_cell hc 1; have xf0 := blk_frozen hc 0; have xf1 := blk_frozen hc 1; have hflt := blk_lt hc; have HA := Aside0.mk hA; have HK := Aside0.mk hK; clear hA hK hc)
            | (at_lookup; refine wpList_lookup_dk _ rfl _ _ rfl HA.out rfl name rfl HL.out _ hv.out ?_)
            | go_in)
          go_region
          go_wp2
          go_ret
          obtain ⟨h1, h2, h3, h4⟩ := HI.out HA.out
          have hA2 := HA.out.setF h1 h2 0 (.string (fx.1.extract 0 sz.toNat)) ((fx.1.extract 0 sz.toNat), fx.2) rfl
          have hA3 := hA2.setF h1 (f := ((fx.1.extract 0 sz.toNat), fx.2)) (by simp [(List.getElem?_eq_some_iff.1 h2).1]) 1 (.int .i64 sz) ((fx.1.extract 0 sz.toNat), sz) rfl
          dsimp only at hA3
          rw [List.set_set] at hA3
          exact ⟨rfl, ⟨_, hA3.drew⟩, ((HK.out.trans (Kept.set (own := own) ⟨fb, 0, none⟩ h4 _) (fun _ hk => .inl hk)).trans (Kept.set (own := own) ⟨fb, 1, none⟩ h4 _) (fun _ hk => .inl hk)).drew⟩
      · rw [show min (max sz 0) (fx.1.size : Int) = (fx.1.size : Int) by omega]
        simp only [Int.toNat_natCast, ByteArray.extract_zero_size]
        obtain ⟨hz1, hz2⟩ := id hz
        by_cases hm : fx.2 ≤ (fx.1.size : Int)
        · rw [Int.min_eq_left hm]
          go_enter Tryz.func34, Tryz.ntmps34
          go_wp2_with (first
            | (go_at_call 26; (with_reducible refine (known_calls H.out name HL.out).mono ?_); rintro e w1 ⟨rfl, rfl⟩; rw [HKn.out])
            | (go_at_call 55; (with_reducible refine (refused_calls H.out H0.out H1.out HS.out).mono ?_); rintro e w1 ⟨rfl, ⟨vp1, hA⟩, hK⟩; obtain ⟨c0, c1, c2, c3⟩ := hA.cells; have hc := (HI.out hA).2.2.1; have x0 := blk_cell hc 0; have x1 := blk_cell hc 1; have xf0 := blk_frozen hc 0; have xf1 := blk_frozen hc 1; have hflt := blk_lt hc; have HA := Aside0.mk hA; have HK := Aside0.mk hK; clear hA hK hc)
            | (at_lookup; refine wpList_lookup_dk _ rfl _ _ rfl HA.out rfl name rfl HL.out _ hv.out ?_)
            | go_in)
          go_region
          go_wp2
          go_ret
          obtain ⟨h1, h2, h3, h4⟩ := HI.out HA.out
          have hA2 := HA.out.setF h1 h2 0 (.string fx.1) (fx.1, fx.2) rfl
          have hA3 := hA2.setF h1 (f := (fx.1, fx.2)) (by simp [(List.getElem?_eq_some_iff.1 h2).1]) 1 (.int .i64 fx.2) (fx.1, fx.2) rfl
          dsimp only at hA3
          rw [List.set_set] at hA3
          exact ⟨rfl, ⟨_, hA3.drew⟩, ((HK.out.trans (Kept.set (own := own) ⟨fb, 0, none⟩ h4 _) (fun _ hk => .inl hk)).trans (Kept.set (own := own) ⟨fb, 1, none⟩ h4 _) (fun _ hk => .inl hk)).drew⟩
        · rw [Int.min_eq_right (by omega)]
          go_enter Tryz.func34, Tryz.ntmps34
          go_wp2_with (first
            | (go_at_call 26; (with_reducible refine (known_calls H.out name HL.out).mono ?_); rintro e w1 ⟨rfl, rfl⟩; rw [HKn.out])
            | (go_at_call 55; (with_reducible refine (refused_calls H.out H0.out H1.out HS.out).mono ?_); rintro e w1 ⟨rfl, ⟨vp1, hA⟩, hK⟩; obtain ⟨c0, c1, c2, c3⟩ := hA.cells; have hc := (HI.out hA).2.2.1; have x0 := blk_cell hc 0; have x1 := blk_cell hc 1; have xf0 := blk_frozen hc 0; have xf1 := blk_frozen hc 1; have hflt := blk_lt hc; have HA := Aside0.mk hA; have HK := Aside0.mk hK; clear hA hK hc)
            | (at_lookup; refine wpList_lookup_dk _ rfl _ _ rfl HA.out rfl name rfl HL.out _ hv.out ?_)
            | go_in)
          go_region
          go_wp2
          go_ret
          obtain ⟨h1, h2, h3, h4⟩ := HI.out HA.out
          have hA2 := HA.out.setF h1 h2 0 (.string fx.1) (fx.1, fx.2) rfl
          have hA3 := hA2.setF h1 (f := (fx.1, fx.2)) (by simp [(List.getElem?_eq_some_iff.1 h2).1]) 1 (.int .i64 (fx.1.size : Int)) (fx.1, (fx.1.size : Int)) rfl
          dsimp only at hA3
          rw [List.set_set] at hA3
          exact ⟨rfl, ⟨_, hA3.drew⟩, ((HK.out.trans (Kept.set (own := own) ⟨fb, 0, none⟩ h4 _) (fun _ hk => .inl hk)).trans (Kept.set (own := own) ⟨fb, 1, none⟩ h4 _) (fun _ hk => .inl hk)).drew⟩
    · simp only [if_neg he]
      have hz : (er == 0) = false := by simpa using he
      clear hf hk hS hfT he
      go_enter Tryz.func34, Tryz.ntmps34
      go_wp2_with (first
        | (go_at_call 26; (with_reducible refine (known_calls H.out name HL.out).mono ?_); rintro e w1 ⟨rfl, rfl⟩; rw [HKn.out])
        | (go_at_call 55; (with_reducible refine (refused_calls H.out H0.out H1.out HS.out).mono ?_); rintro e w1 ⟨rfl, hA, hK⟩; have HA := Aside0.mk hA; have HK := Aside0.mk hK; clear hA hK)
        | go_in)
      go_ret
      exact ⟨rfl, HA.out, HK.out⟩
  · rw [if_neg hk]
    generalize hkn : S.known name = kn at hk
    have HKn := Aside0.mk hkn
    clear hkn
    have hz : (kn == 0) = false := by simpa using hk
    go_enter Tryz.func34, Tryz.ntmps34
    go_wp2_with (first
      | (go_at_call 26; (with_reducible refine (known_calls H.out name HL.out).mono ?_); rintro e w1 ⟨rfl, rfl⟩; rw [HKn.out])
      | go_in)
    go_ret
    exact ⟨rfl, ⟨_, H.out⟩, Kept.refl _ _⟩
theorem cut_nil (name : ByteArray) (sz : Int) (w : World) : Calls Tryz.prog 34 #[.pointer none, .string name, .int .i64 sz] w fun e w' => e = .returned (.int .i64 1) ∧ w' = w := by
  go_enter Tryz.func34, Tryz.ntmps34
  go_wp2_with (first | (go_at_call 26; (with_reducible refine (known_nil name _).mono ?_); rintro e w1 ⟨rfl, rfl⟩) | go_in)
  go_ret
  exact ⟨rfl, rfl⟩

end Go.Proofs.YtomhgoahhlnjpaaGreatDoor.Dk
