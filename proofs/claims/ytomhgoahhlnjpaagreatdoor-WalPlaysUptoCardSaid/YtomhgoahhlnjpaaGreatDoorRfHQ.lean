/- Several texts in one. -/
import Derived.Test.YtomhgoahhlnjpaaGreatDoorRfEF
/- The document's own disk, walked: Cut. -/
namespace Go.Proofs.YtomhgoahhlnjpaaGreatDoor.Rf
open Go.RowKit Go.Proofs.YtomhgoahhlnjpaaGreatDoorW.PrintWords Go.Proofs.YtomhgoahhlnjpaaGreatDoor.PRef Go.Proofs.YtomhgoahhlnjpaaGreatDoor.Dk

section
variable {own : Nat → Prop} {w w' : World} {m : Nat} {R : RS} {v0 v1 v2 v3 v4 : Value}
set_option maxHeartbeats 1000000 in
theorem cut_r (h : RAt own w m R v0 v1 v2 v3 v4) (hR : R.ok) (name : ByteArray) (sz : Int) (h0 : 0 ≤ R.made) (h1 : R.made < 4611686018427387904) (hl : R.faults.length ≤ 1099511627776) (hn : R.now.length ≤ 1099511627776) :
    Calls Tryz.prog 40 #[.pointer (some ⟨m, 0, none⟩), .string name, .int .i64 sz] w fun e w' => e = .returned (.int .i64 (R.cutR name sz).2) ∧ (∃ v0' v1' v2' v3' v4', RAt (Dk.more own w w') w' m (R.cutR name sz).1 v0' v1' v2' v3' v4') ∧ Kept own w w' := by
  have HQ := asked_r h name hn
  unfold RS.cutR RS.at1
  obtain ⟨z, er, hA⟩ : ∃ z er, R.askedR name = (z, er) := ⟨_, _, rfl⟩
  rw [hA] at HQ ⊢
  have HQ2 := Aside0.mk HQ
  clear HQ
  by_cases he : er = 0
  · obtain ⟨j, x, hz, hf, hx⟩ := asked_zero hR hA he
    subst hz
    subst he
    have HST : Aside0 (∀ nd, Calls Tryz.prog 56 #[.pointer (some ⟨m, 0, none⟩)] (w.drewN nd) fun e w' => e = .returned (.tuple #[.int .i64 (stepF R.faults (R.made + 1)).1, .int .i64 (stepF R.faults (R.made + 1)).2]) ∧ RAt own w' m { R with made := R.made + 1 } v0 v1 v2 v3 v4 ∧ Kept own (w.drewN nd) w') := ⟨fun nd => step_r (h.drewN nd) h0 h1 hl⟩
    simp only [if_true]
    obtain ⟨e2, n2, hS⟩ : ∃ er n, stepF R.faults (R.made + 1) = (er, n) := ⟨_, _, rfl⟩
    rw [hS] at HST ⊢
    have hjl := (List.getElem?_eq_some_iff.1 hx).1
    have hfx : RS.fileR R.made1 j = x := by unfold RS.fileR; rw [List.getD_eq_getElem?_getD, show R.made1.files[j]? = some x from hx]; rfl
    by_cases he2 : e2 = 0
    · subst he2
      have HX := Aside0.mk hx
      simp only [if_true, hf, Int.toNat_natCast, hfx]
      obtain ⟨g, c, cs, rfl, hg, hog, _⟩ := file_at h.files hx
      clear hA hf hS hfx hg hx h h0 h1 hl hn hR
      obtain ⟨NB, hNB⟩ : ∃ NB, NB = x.f0.extract 0 (max 0 (min sz (x.f0.size : Int))).toNat := ⟨_, rfl⟩
      have hNs : (NB.size : Int) = max 0 (min sz (x.f0.size : Int)) := by rw [hNB, ByteArray.size_extract]; omega
      have HNB := Aside0.mk hNB
      have HNS := Aside0.mk hNs
      clear hNB hNs
      go_enter Tryz.func40, Tryz.ntmps40
      go_wp2_with (first
        | (go_at_call 27; (with_reducible refine (HQ2.out).mono ?_); rintro e w1 ⟨rfl, ⟨nd, rfl⟩⟩)
        | (go_at_call 56; (with_reducible refine (HST.out nd).mono ?_); rintro e w2 ⟨rfl, hA, hK⟩; have HA := Aside0.mk hA; have HK := Aside0.mk hK; obtain ⟨y0, y1, y2, y3, y4, y5⟩ := hA.cells; obtain ⟨g2, c2, cs2, he9, hg2, hog2, r0, r1, rf0, rf1⟩ := file_at hA.files HX.out; cases he9; have HG2 := Aside0.mk hg2; have HO2 := Aside0.mk hog2; clear hA hK y1 y2 y3 y4 y5 hg2 hog2)
        | go_in)
      go_region
      rw [← HNB.out]
      generalize hw3 : (w2.setCell ⟨g, j * 2, none⟩ (.string NB)).drew = w3
      have HA3 : Aside0 (RAt own w3 m { R.made1 with files := R.files.set j ⟨NB, x.f1⟩ } (.slice (some ⟨g, 0, none⟩) R.files.length c) v1 v2 v3 v4) := ⟨by rw [← hw3]; exact (HA.out.fileSet HG2.out (file_set0 HA.out.files HX.out NB)).drew⟩
      have HK3 : Aside0 (Kept own w w3) := ⟨by rw [← hw3]; exact (kput (show Kept own w w2 from ⟨HK.out.os, HK.out.tape, HK.out.output, HK.out.size, HK.out.block⟩) HO2.out _ _).drew⟩
      have HX3 : Aside0 ((R.files.set j ⟨NB, x.f1⟩)[j]? = some ⟨NB, x.f1⟩) := ⟨by rw [List.getElem?_set_self (List.getElem?_eq_some_iff.1 HX.out).1]⟩
      clear hw3 r0 r1 rf0 rf1 y0
      obtain ⟨g3, c3, cs3, he9, hg3, hog3, r0, r1, rf0, rf1⟩ := file_at HA3.out.files HX3.out
      obtain rfl : g = g3 := by injection he9 with e1 _ _; injection e1 with e1; injection e1
      clear he9
      have HG3 := Aside0.mk hg3
      clear hg3 hog3
      go_wp2
      go_region
      go_wp2
      go_ret
      have h4 := HA3.out.fileSet HG3.out (file_set1 HA3.out.files HX3.out (min x.f1 (NB.size : Int)))
      dsimp only at h4
      rw [List.set_set] at h4
      have HK4 := kput HK3.out HO2.out (j * 2 + 1) (.int .i64 (min x.f1 (NB.size : Int)))
      rw [HNS.out] at h4 HK4 ⊢
      rw [HNB.out] at h4
      exact ⟨rfl, ⟨_, _, _, _, _, h4.drew.more⟩, HK4.drew⟩
    · have hz2 : (e2 == 0) = false := by simpa using he2
      simp only [if_neg he2]
      clear hA hf hS hfx hx he2 h h0 h1 hl hn hR
      go_enter Tryz.func40, Tryz.ntmps40
      go_wp2_with (first
        | (go_at_call 27; (with_reducible refine (HQ2.out).mono ?_); rintro e w1 ⟨rfl, ⟨nd, rfl⟩⟩)
        | (go_at_call 56; (with_reducible refine (HST.out nd).mono ?_); rintro e w2 ⟨rfl, hA, hK⟩; have HA := Aside0.mk hA; have HK := Aside0.mk hK; clear hA hK)
        | go_in)
      go_ret
      exact ⟨rfl, ⟨_, _, _, _, _, HA.out.more⟩, ⟨HK.out.os, HK.out.tape, HK.out.output, HK.out.size, HK.out.block⟩⟩
  · have hz : (er == 0) = false := by simpa using he
    have hz1 : (er != 0) = true := by simpa using he
    simp only [if_neg he]
    have H := Aside0.mk h
    clear hA h he h0 h1 hl hn hR
    go_enter Tryz.func40, Tryz.ntmps40
    go_wp2_with (first
      | (go_at_call 27; (with_reducible refine (HQ2.out).mono ?_); rintro e w1 ⟨rfl, ⟨nd, rfl⟩⟩)
      | go_in)
    go_ret
    exact ⟨rfl, ⟨_, _, _, _, _, (H.out.drewN nd).more⟩, kdrewN (Kept.refl _ _) nd⟩
end
end Go.Proofs.YtomhgoahhlnjpaaGreatDoor.Rf

/- Plan, walked: the document's, and the program's of no fault. -/
namespace Go.Proofs.YtomhgoahhlnjpaaGreatDoor.Rf
open Go.RowKit Go.Proofs.YtomhgoahhlnjpaaGreatDoorW.PrintWords Go.Proofs.YtomhgoahhlnjpaaGreatDoor.PRef Go.Proofs.YtomhgoahhlnjpaaGreatDoor.Dk

theorem info41y : (Tryz.prog.info? 40).map (fun i => (i.zero, i.size, i.bytes)) = some (some (.agg #[.int .i64 0, .int .i64 0, .int .i64 0]), 3, 24) := by kernel_rfl
section
variable {own : Nat → Prop} {w w' : World} {m : Nat} {R : RS} {v0 v1 v2 v3 v4 : Value}
set_option maxHeartbeats 4000000 in
theorem plan_r (h : RAt own w m R v0 v1 v2 v3 v4) {base : Nat} {ok : Nat → Prop} {v : Value} {l : List S40} (hV : Kd.R k40 40 w base ok v l) :
    Calls Tryz.prog 23 #[.pointer (some ⟨m, 0, none⟩), v] w fun e w' => e = .returned (.int .i64 (R.planR l).2) ∧ (∃ v4', RAt (Dk.more own w w') w' m (R.planR l).1 v0 v1 v2 v3 v4') ∧ Kept own w w' := by
  obtain ⟨x0, x1, x2, x3, x4, x5⟩ := h.cells
  have H := Aside0.mk h
  obtain ⟨A, c, rfl⟩ := Kd.R_slice hV
  have HV := Aside0.mk hV
  clear h x0 x1 x2 x3 x4 hV
  unfold RS.planR
  by_cases hbig : 4096 < l.length
  · rw [if_pos hbig]
    have hd : decide ((4096 : Int) < (l.length : Int)) = true := by simp; omega
    go_enter Tryz.func23, Tryz.ntmps23
    go_wp2
    go_ret
    exact ⟨rfl, ⟨_, H.out.more⟩, Kept.refl _ _⟩
  · rw [if_neg hbig]
    have hd : decide ((4096 : Int) < (l.length : Int)) = false := by simp; omega
    obtain ⟨Z, hZ⟩ : ∃ Z, (if planOkR R.made l = true then ({ R with faults := l }, (0 : Int)) else (R, 1)) = Z := ⟨_, rfl⟩
    rw [hZ]
    have HZ := Aside0.mk hZ
    clear hZ
    go_enter Tryz.func23, Tryz.ntmps23
    go_wp2
    go_loopw [5, 6] (fun vl vi wr => ∃ (k : Nat) (L : Int), k ≤ l.length ∧ vi = .int .i64 k ∧ vl = .int .i64 L ∧ Aside0 (planOkR L (l.drop k) = planOkR R.made l) ∧ Aside0 (Below w.heap.size w wr)) (fun _ vi _ => l.length - (intOf vi).toNat)
    case atStart => exact ⟨0, R.made, Nat.zero_le _, rfl, rfl, ⟨rfl⟩, ⟨Below.refl _ _⟩⟩
    case round =>
      obtain ⟨k, L, hk, rfl, rfl, hok, hb⟩ := hrel
      rcases Nat.lt_or_ge k l.length with hlt | hge
      · obtain ⟨f, hf⟩ : ∃ f, l[k]? = some f := ⟨_, List.getElem?_eq_getElem hlt⟩
        obtain ⟨b, c2, cl, he, _, _, hcl, hce⟩ := row_at (Kd.R_below HV.out hb.out) hf
        cases he
        have hcl2 := k40_open hcl
        subst hcl2
        have e0 := hce 0 _ rfl
        have e1 := hce 1 _ rfl
        have e2 := hce 2 _ rfl
        rw [show k40.sz = 3 from rfl] at e0 e1 e2
        rw [Nat.add_zero] at e0
        have hdr : Aside0 (l.drop k = f :: l.drop (k + 1)) := ⟨by rw [List.drop_eq_getElem_cons hlt]; rw [List.getElem?_eq_getElem hlt] at hf; rw [Option.some.inj hf]⟩
        have HFk := Aside0.mk hf
        have HK := Aside0.mk hk
        clear hcl hce hf hk x5
        have hd2 : decide ((k : Int) < (l.length : Int)) = true := by simp; omega
        go_wp2_with (first
          | ((with_reducible refine gate_dst (N := 7) rfl ?_); refine box_event ?hg (N := 7) ?hd (cs := #[.int .i64 0, .int .i64 0, .int .i64 0]) (t := 40) ?hr ?_; (case hd => rfl); (case hg => rfl); (case hr => first | (go_simp; done) | (go_simp; rfl)); intro g7 hg7 w2 hbox hb2; have HB2 := Aside0.mk (hb.out.trans hb2 hb.out.size); have X2 := Aside0.mk hbox; have a0 := blk_cell hbox 0; have a1 := blk_cell hbox 1; have a2 := blk_cell hbox 2; have af0 := blk_frozen hbox 0; have af1 := blk_frozen hbox 1; have af2 := blk_frozen hbox 2; clear hbox hb2 hg7)
          | go_in)
        all_goals first
          | (go_ret
             have hbad : faultBadR L f = true := by unfold faultBadR; first | (simp; omega) | (simp_all; omega) | simp_all
             have hRR : Z = (R, 1) := by
               rw [← HZ.out, if_neg]
               rw [← hok.out, hdr.out]
               simp [planOkR, hbad]
             have hB := hb.out.alloc hb.out.size (.cells #[.int .i64 f.f0, .int .i64 f.f1, .int .i64 f.f2] 40)
             rw [hRR]
             exact ⟨rfl, ⟨_, (H.out.below hB).more⟩, Kept.of_below hB⟩)
          | (have hgood : faultBadR L f = false := by unfold faultBadR; first | (simp; omega) | (simp_all; omega) | simp_all
             have hB := hb.out.alloc hb.out.size (.cells #[.int .i64 f.f0, .int .i64 f.f1, .int .i64 f.f2] 40)
             refine ⟨⟨k + 1, f.f0, hlt, by simp, rfl, ⟨?_⟩, ⟨hB⟩⟩, ?_⟩
             · rw [← hok.out, hdr.out]
               simp [planOkR, hgood]
             · simp [intOf]
               omega)
      · obtain rfl : k = l.length := by omega
        have hRR : Z = ({ R with faults := l }, 0) := by
          rw [← HZ.out, if_pos]
          rw [← hok.out]
          simp [planOkR]
        have HRR := Aside0.mk hRR
        have HLen : Aside0 (l.length ≤ 4096) := ⟨by omega⟩
        clear hok hRR HZ x5
        have hd2 : decide ((l.length : Int) < (l.length : Int)) = false := by simp
        have HA := Aside0.mk (H.out.below hb.out)
        obtain ⟨k0, k1, k2, k3, k4, k5⟩ := HA.out.cells
        have kf4 := HA.out.frozen 4
        have HCr := Aside0.mk (Kd.R_reads' (Kd.R_below HV.out hb.out)).2.2
        clear k0 k1 k2 k3 k5 kf4
        go_wp2_with (first
          | ((with_reducible refine gate_builtin (b := .append) (xs := #[.tmp 58, .tmp 59]) rfl ?_); at_builtin; refine Kd.R_append_rows k40 (w0 := wr) wr.heap.size rfl (.tmp 58) (.tmp 59) 30 40 (.agg #[.int .i64 0, .int .i64 0, .int .i64 0]) 24 rfl Tryz.underlying30 info41y rfl (by decide) (by omega) (.slice none 0 0) ([] : List S40) l _ _ _ (fun _ => True) (fun _ => False) rfl rfl ?aO ?aR (fun _ _ h => h) (fun _ h => h.elim) (fun _ _ => trivial) ?aB ?aS ?aL ?_; (case aR => exact HCr.out); (case aB => exact Below.refl _ _); (case aO => exact Kd.R_nil _ _ _ _ _); (case aS => exact Nat.le_refl _); (case aL => have := HLen.out; show (0 + l.length) * 24 ≤ 140737488355328; omega); intro v5 w5 ho hbb hg hat; obtain ⟨A5, c5, rfl⟩ := Kd.R_slice ho; have R5 := Aside0.mk ho; have B5 := Aside0.mk hbb; have y4 := (HA.out.below hbb).cells.2.2.2.2.1; have yf4 := (HA.out.below hbb).frozen 4; clear ho hbb hg hat k4)
          | go_in)
        go_ret
        have hB : Below w.heap.size w w5 := hb.out.trans (B5.out.mono hb.out.size)
        have M5 := row_mine (own := own) (w := w) (w1 := wr) R5.out hb.out.size
        have h2 := ((H.out.below hB).more (wa := w)).setFaults M5
        have hK := kput (kbelow (Kept.refl own w) hB) H.out.ownm 4 (.slice A5 ([] ++ l : List S40).length c5)
        rw [HRR.out]
        exact ⟨rfl, ⟨_, h2.lift (fun k hk => hk.imp id (·.1)) (fun k hk => Nat.lt_of_lt_of_le (H.out.bnd k hk) hK.size)⟩, hK⟩
end
end Go.Proofs.YtomhgoahhlnjpaaGreatDoor.Rf
