/- The document's own disk, walked: Write. -/
import Derived.Test.YtomhgoahhlnjpaaGreatDoorRfEF
import Derived.BigRegion
namespace Go.Proofs.YtomhgoahhlnjpaaGreatDoor.Rf
open Go.RowKit Go.Proofs.YtomhgoahhlnjpaaGreatDoorW.PrintWords Go.Proofs.YtomhgoahhlnjpaaGreatDoor.PRef Go.Proofs.YtomhgoahhlnjpaaGreatDoor.Dk

theorem info87 : (Tryz.prog.info? 83).map (fun i => (i.zero, i.size, i.bytes)) = some (some (.agg #[.string ⟨#[]⟩, .int .i64 0]), 2, 24) := by kernel_rfl
section
variable {own : Nat → Prop} {w w' : World} {m : Nat} {R : RS} {v0 v1 v2 v3 v4 : Value}
/-- the files' row has grown and is stored -/
theorem RAt.growFiles (h : RAt own w m R v0 v1 v2 v3 v4) {w1 : World} {v : Value} {l : List S83} (hg : w.grownBy w1 v0.ownBlock) (hr : Kd.R k83 83 w1 0 (fun k => own k ∨ w.heap.size ≤ k) v l) :
    RAt (Dk.more own w w1) (w1.setCell ⟨m, 0, none⟩ v) m { R with files := l } v v1 v2 v3 v4 ∧ w1.cell? ⟨m, 0, none⟩ = some v0 ∧ w1.frozen? ⟨m, 0, none⟩ = false ∧ Kept own w (w1.setCell ⟨m, 0, none⟩ v) := by
  have hne : some m ≠ v0.ownBlock := Kd.R_ne h.files h.blk (by decide)
  have hb : w1.heap[m]? = some (.cells #[v0, v1, v2, v3, v4, .int .i64 R.made] 32 (0, 0)) := (hg.block m h.lt hne).trans h.blk
  have hm : ∀ k, own k → Dk.more own w w1 k := fun _ hk => .inl hk
  have hk : Kept own w w1 := Kept.of_grown hg (fun k hk => h.files.1 k hk)
  have hr2 : Kd.R k83 83 w1 0 (Dk.more own w w1) v l := Kd.R_mono (Kd.R_bound hr) (fun k hk => hk.1.elim .inl fun q => .inr ⟨q, hk.2.2.1⟩)
  exact ⟨{ blk := by rw [blk_set hb]; rfl
           files := Kd.R_set hr2 hb (by decide) _ _
           now := Kd.R_set (Kd.R_mono (Kd.R_over h.now h.files (by decide) hg) hm) hb (by decide) _ _
           last := Kd.R_set (Kd.R_mono (Kd.R_over h.last h.files (by decide) hg) hm) hb (by decide) _ _
           opn := Kd.R_set (Kd.R_mono (Kd.R_over h.opn h.files (by decide) hg) hm) hb (by decide) _ _
           faults := Kd.R_set (Kd.R_mono (Kd.R_over h.faults h.files (by decide) hg) hm) hb (by decide) _ _
           ownm := .inl h.ownm
           bnd := fun k hq => by
             rw [size_set]
             rcases hq with hq | hq
             · exact Nat.lt_of_lt_of_le (h.bnd k hq) hk.size
             · exact hq.2 }, blk_cell hb 0, blk_frozen hb 0, kput hk h.ownm 0 v⟩
theorem cutS_all (s : ByteArray) : cutS s (s.size : Int) = s := by
  unfold cutS
  rw [Int.min_self, Int.toNat_natCast, ByteArray.extract_zero_size]
set_option maxHeartbeats 4000000 in
theorem write_r (h : RAt own w m R v0 v1 v2 v3 v4) (hR : R.ok) (name s : ByteArray) (h0 : 0 ≤ R.made) (h1 : R.made < 4611686018427387904) (hl : R.faults.length ≤ 1099511627776) (hn : R.now.length ≤ 1099511627776) (ho : R.opn.length < 1099511627776) (hfl : R.files.length < 1099511627776)
    (hsz : ∀ f ∈ R.files, f.f0.size + s.size ≤ 1099511627776) (hs : s.size ≤ 1099511627776) :
    Calls Tryz.prog 37 #[.pointer (some ⟨m, 0, none⟩), .string name, .string s] w fun e w' => e = .returned (.tuple #[.int .i64 (R.writeR name s).2.1, .int .i64 (R.writeR name s).2.2]) ∧ (∃ v0' v1' v2' v3' v4', RAt (Dk.more own w w') w' m (R.writeR name s).1 v0' v1' v2' v3' v4') ∧ Kept own w w' := by
  have H := Aside0.mk h
  unfold RS.writeR
  cases hne : name.toList.isEmpty with
  | true =>
    simp only [if_true]
    clear h h0 h1 hl hn ho hR hfl hsz hs
    go_enter Tryz.func37, Tryz.ntmps37
    go_wp2
    go_ret2
    exact ⟨rfl, ⟨_, _, _, _, _, H.out.more⟩, Kept.refl _ _⟩
  | false =>
  simp only [Bool.false_eq_true, if_false]
  have HST := Aside0.mk (step_r h h0 h1 hl)
  obtain ⟨A0, c0, rfl⟩ := Kd.R_slice h.files
  obtain ⟨A1, c1, rfl, hlc, _⟩ := Kd.R_reads h.now
  have HF : Aside0 (∀ {w2 : World}, Kd.R k116 116 w2 0 own (.slice A1 R.now.length c1) R.now → Calls Tryz.prog 48 #[.slice A1 R.now.length c1, .string name] w2 fun e w' => e = .returned (.int .i64 (findI R.now name)) ∧ Drawn0 w2 w') := ⟨fun hr => lodestarref02_find.calls (R.now.length + 1) A1 c1 R.now name _ _ (Kd.R_reads' hr).2.2 hlc (find_f R.now name hn)⟩
  have HFL := Aside0.mk hfl
  have HLEN : Aside0 ((R.files ++ [(⟨⟨#[]⟩, 0⟩ : S83)]).length = R.files.length + 1) := ⟨by simp⟩
  have HSZ := Aside0.mk hsz
  have HT : Aside0 (∀ {own2 : Nat → Prop} {w2 : World} {u0 : Value} (fl : List S83), RAt own2 w2 m { R.made1 with files := fl } u0 (.slice A1 R.now.length c1) v2 v3 v4 → Calls Tryz.prog 57 #[.pointer (some ⟨m, 0, none⟩), .agg #[.int .i64 1, .string name, .string ⟨#[]⟩, .int .i64 (R.files.length : Int)]] w2 fun e w' => e = .returned (.tuple #[]) ∧ (∃ v1' v3', RAt (Dk.more own2 w2 w') w' m (RS.turnR { R.made1 with files := fl } (mk90 1 name ⟨#[]⟩ (R.files.length : Int))) u0 v1' v2 v3' v4) ∧ Kept own2 w2 w') := ⟨fun fl hA => turn_r hA (mk90 1 name ⟨#[]⟩ (R.files.length : Int)) hn ho⟩
  have HOK := Aside0.mk hR
  obtain ⟨er, n2, hS⟩ : ∃ er n, stepF R.faults (R.made + 1) = (er, n) := ⟨_, _, rfl⟩
  rw [hS] at HST ⊢
  obtain ⟨z, hzf⟩ : ∃ z, z = findI R.now name := ⟨_, rfl⟩
  have HZ := Aside0.mk hzf
  rw [← hzf] at HF
  clear h h0 h1 hl hn ho hR hS hlc hsz hzf
  by_cases he : er = 0
  · subst he
    simp only [if_true]
    have HC : Aside0 (s.size ≤ 1099511627776) := ⟨by skip; omega⟩
    by_cases hz : z < 0
    · have hzd : decide (z < 0) = true := by simpa using hz
      clear HSZ
      go_enter Tryz.func37, Tryz.ntmps37
      go_wp2_with (first
        | (go_at_call 56; (with_reducible refine (HST.out).mono ?_); rintro e w2 ⟨rfl, hA, hK⟩; have HA := Aside0.mk hA; have HK := Aside0.mk hK; have HFD := Aside0.mk (HF.out hA.now); obtain ⟨y0, y1, y2, y3, y4, y5⟩ := hA.cells; have yf0 := hA.frozen 0; clear hA hK y2 y3 y4 y5)
        | (go_at_call 48; (with_reducible refine (HFD.out).mono ?_); rintro e w3 ⟨rfl, ⟨nd, rfl⟩⟩)
        | ((with_reducible refine gate_builtin (b := .append) (xs := #[.tmp 41, .tmp 43]) rfl ?_); at_builtin; refine Kd.R_append k83 (w0 := w2.drewN nd) 0 rfl (.tmp 41) (.tmp 43) 27 83 (.agg #[.string ⟨#[]⟩, .int .i64 0]) 24 rfl Tryz.underlying27 info87 rfl (by decide) (by omega) (.slice A0 R.files.length c0) R.files ⟨⟨#[]⟩, 0⟩ [.string ⟨#[]⟩, .int .i64 0] (fun k => own k ∨ w2.heap.size ≤ k) (fun _ => False) rfl rfl ?aP (fun _ hk => hk.elim) (fun _ hk => .inr hk) ?aO ?aB ?aS ?aL ?_; (case aP => exact k83_mkM _ _ _ ⟨⟨#[]⟩, 0⟩); (case aB => exact Below.refl _ _); (case aO => exact Kd.R_mono (Kd.R_drewN HA.out.files nd) (fun _ hk => .inl hk)); (case aS => exact Nat.zero_le _); (case aL => have := HFL.out; show (R.files.length + 1) * 24 ≤ 140737488355328; omega); intro v5 w5 ho hb hg hat; obtain ⟨A5, c5, rfl⟩ := Kd.R_slice ho; obtain ⟨hA5, y0, yf0, hK5⟩ := (HA.out.drewN nd).growFiles hg ho; rw [HLEN.out] at hA5 hK5; have HA5 := Aside0.mk hA5; have HK5 := Aside0.mk hK5; clear ho hb hg hat hA5 hK5 y1)
        | (go_at_call 57; (with_reducible refine (HT.out _ HA5.out).mono ?_); rintro e w6 ⟨rfl, ⟨u1, u3, hB⟩, hK6⟩; have HB := Aside0.mk hB; have HK6 := Aside0.mk hK6; have hX : (R.files ++ [(⟨⟨#[]⟩, 0⟩ : S83)])[R.files.length]? = some ⟨⟨#[]⟩, 0⟩ := (by simp); have HX := Aside0.mk hX; obtain ⟨q0, q1, q2, q3, q4, q5⟩ := hB.cells; obtain ⟨g2, c2, cs2, he9, hg2, hog2, r0, r1, rf0, rf1⟩ := file_at hB.files hX; injection he9 with he9 _ _; subst he9; have HG2 := Aside0.mk hg2; have HO2 := Aside0.mk hog2; have xc : ¬ 9223372036854775807 < s.size := (by have := HC.out; omega); clear hB hK6 hX hg2 hog2 q1 q2 q3 q4 q5 y0 yf0)
        | go_in)
      go_region
      go_wp2
      go_ret2
      have hz9 : findI R.made1.now name < 0 := by rw [show findI R.made1.now name = z from HZ.out.symm]; exact hz
      have hlay : R.made1.layR name s = { RS.turnR { R.made1 with files := R.files ++ [⟨⟨#[]⟩, 0⟩] } (mk90 1 name ⟨#[]⟩ (R.files.length : Int)) with files := (R.files ++ [(⟨⟨#[]⟩, 0⟩ : S83)]).set R.files.length ⟨(⟨#[]⟩ : ByteArray) ++ s, 0⟩ } := by
        unfold RS.layR
        rw [if_pos hz9]
        unfold RS.putR RS.fileR
        have e : (RS.turnR { R.made1 with files := R.made1.files ++ [⟨⟨#[]⟩, 0⟩] } (mk90 1 name ⟨#[]⟩ (R.made1.files.length : Int))).files = R.files ++ [(⟨⟨#[]⟩, 0⟩ : S83)] := rfl
        rw [e, show R.made1.files.length = R.files.length from rfl, List.getD_eq_getElem?_getD, HX.out]
        rfl
      rw [hlay]
      have h4 := HB.out.fileSet HG2.out (file_set0 HB.out.files HX.out ((⟨#[]⟩ : ByteArray) ++ s))
      have hm5 : ∀ k, Dk.more own (w2.drewN nd) w5 k → own k ∨ w.heap.size ≤ k := fun k hk => hk.imp id (fun q => Nat.le_trans HK.out.size q.1)
      have hs5 : w.heap.size ≤ (w5.setCell ⟨m, 0, none⟩ (.slice (some ⟨g2, 0, none⟩) (R.files.length + 1) c5)).heap.size := Nat.le_trans HK.out.size HK5.out.size
      have hm6 : ∀ k, Dk.more (Dk.more own (w2.drewN nd) w5) (w5.setCell ⟨m, 0, none⟩ (.slice (some ⟨g2, 0, none⟩) (R.files.length + 1) c5)) w6 k → own k ∨ w.heap.size ≤ k := fun k hk => by
        rcases hk with hk | hk
        · exact hm5 k hk
        · exact .inr (Nat.le_trans hs5 hk.1)
      have K6 : Kept own w w6 := ((kdrewN HK.out nd).trans HK5.out (fun _ hk => .inl hk)).trans HK6.out hm5
      have K7 : Kept own w (w6.setCell ⟨g2, R.files.length * 2, none⟩ (.string ((⟨#[]⟩ : ByteArray) ++ s))) := ⟨K6.os, K6.tape, K6.output, by rw [size_set]; exact K6.size, fun k hk hn => (heap_set_ne (fun (e : k = g2) => by
        rcases hm6 g2 HO2.out with h9 | h9
        · exact hn (by rw [e]; exact h9)
        · omega) _).trans (K6.block k hk hn)⟩
      exact ⟨rfl, ⟨_, _, _, _, _, (h4.drew.lift hm6 (fun k hk => Nat.lt_of_lt_of_le (H.out.bnd k hk) K7.size))⟩, K7.drew⟩
    · have hzd : decide (z < 0) = false := by simpa using hz
      obtain ⟨j, x, hzj, hx⟩ : ∃ (j : Nat) (x : S83), z = (j : Int) ∧ R.files[j]? = some x := by
        obtain ⟨y, hy, h1, _⟩ := findI_mem R.now name (by have := HZ.out; omega)
        obtain ⟨j, hj, hjl⟩ := HOK.out y hy
        exact ⟨j, R.files[j], by rw [HZ.out, ← h1, hj], List.getElem?_eq_getElem hjl⟩
      have HZJ : Aside0 (findI R.now name = (j : Int)) := ⟨by rw [← HZ.out]; exact hzj⟩
      have hjl := (List.getElem?_eq_some_iff.1 hx).1
      have HX := Aside0.mk hx
      have xc : ¬ 9223372036854775807 < x.f0.size + s.size := by
        have h1 := HSZ.out x (List.mem_of_getElem? hx)
        skip
        omega
      clear HSZ HT HZ hz hx
      subst hzj
      go_enter Tryz.func37, Tryz.ntmps37
      go_wp2_with (first
        | (go_at_call 56; (with_reducible refine (HST.out).mono ?_); rintro e w2 ⟨rfl, hA, hK⟩; have HA := Aside0.mk hA; have HK := Aside0.mk hK; have HFD := Aside0.mk (HF.out hA.now); obtain ⟨y0, y1, y2, y3, y4, y5⟩ := hA.cells; obtain ⟨g2, c2, cs2, he9, hg2, hog2, r0, r1, rf0, rf1⟩ := file_at hA.files HX.out; injection he9 with he9 _ _; subst he9; have HG2 := Aside0.mk hg2; have HO2 := Aside0.mk hog2; clear hg2 hog2; clear hA hK y2 y3 y4 y5)
        | (go_at_call 48; (with_reducible refine (HFD.out).mono ?_); rintro e w3 ⟨rfl, ⟨nd, rfl⟩⟩)
        | go_in)
      go_region
      go_wp2
      go_ret2
      have hz9 : ¬ findI R.made1.now name < 0 := by rw [show findI R.made1.now name = (j : Int) from HZJ.out]; omega
      have hlay : R.made1.layR name s = { R.made1 with files := R.files.set j ⟨x.f0 ++ s, x.f1⟩ } := by
        unfold RS.layR
        rw [if_neg hz9, show findI R.made1.now name = (j : Int) from HZJ.out, Int.toNat_natCast]
        unfold RS.putR RS.fileR
        rw [show R.made1.files = R.files from rfl, List.getD_eq_getElem?_getD, HX.out]
        rfl
      rw [hlay]
      have h4 := (HA.out.drewN (nd + 1)).fileSet HG2.out (file_set0 (Kd.R_drewN HA.out.files (nd + 1)) HX.out (x.f0 ++ s))
      exact ⟨rfl, ⟨_, _, _, _, _, h4.more⟩, kput (kdrewN HK.out (nd + 1)) HO2.out _ _⟩
  · have hz1 : (er == 0) = false := by simpa using he
    simp only [if_neg he]
    by_cases hn2 : n2 < 0
    · have hn2d : decide (n2 < 0) = true := by simpa using hn2
      simp only [if_pos hn2]
      clear HF HT HFL HLEN HSZ HOK HZ
      go_enter Tryz.func37, Tryz.ntmps37
      go_wp2_with (first
        | (go_at_call 56; (with_reducible refine (HST.out).mono ?_); rintro e w2 ⟨rfl, hA, hK⟩; have HA := Aside0.mk hA; have HK := Aside0.mk hK; obtain ⟨y0, y1, y2, y3, y4, y5⟩ := hA.cells; clear y0 y1; clear hA hK y2 y3 y4 y5)
        | go_in)
      go_ret2
      exact ⟨rfl, ⟨_, _, _, _, _, HA.out.more⟩, HK.out⟩
    · have hn2d : decide (n2 < 0) = false := by simpa using hn2
      simp only [if_neg hn2]
      have HC : Aside0 ((s.extract 0 (min n2 (s.size : Int)).toNat).size ≤ 1099511627776) := ⟨by rw [ByteArray.size_extract]; omega⟩
      by_cases hz : z < 0
      · have hzd : decide (z < 0) = true := by simpa using hz
        clear HSZ
        go_enter Tryz.func37, Tryz.ntmps37
        go_wp2_with (first
          | (go_at_call 56; (with_reducible refine (HST.out).mono ?_); rintro e w2 ⟨rfl, hA, hK⟩; have HA := Aside0.mk hA; have HK := Aside0.mk hK; have HFD := Aside0.mk (HF.out hA.now); obtain ⟨y0, y1, y2, y3, y4, y5⟩ := hA.cells; have yf0 := hA.frozen 0; clear hA hK y2 y3 y4 y5)
          | (go_at_call 48; (with_reducible refine (HFD.out).mono ?_); rintro e w3 ⟨rfl, ⟨nd, rfl⟩⟩)
          | ((with_reducible refine gate_builtin (b := .append) (xs := #[.tmp 41, .tmp 43]) rfl ?_); at_builtin; refine Kd.R_append k83 (w0 := w2.drewN nd) 0 rfl (.tmp 41) (.tmp 43) 27 83 (.agg #[.string ⟨#[]⟩, .int .i64 0]) 24 rfl Tryz.underlying27 info87 rfl (by decide) (by omega) (.slice A0 R.files.length c0) R.files ⟨⟨#[]⟩, 0⟩ [.string ⟨#[]⟩, .int .i64 0] (fun k => own k ∨ w2.heap.size ≤ k) (fun _ => False) rfl rfl ?aP (fun _ hk => hk.elim) (fun _ hk => .inr hk) ?aO ?aB ?aS ?aL ?_; (case aP => exact k83_mkM _ _ _ ⟨⟨#[]⟩, 0⟩); (case aB => exact Below.refl _ _); (case aO => exact Kd.R_mono (Kd.R_drewN HA.out.files nd) (fun _ hk => .inl hk)); (case aS => exact Nat.zero_le _); (case aL => have := HFL.out; show (R.files.length + 1) * 24 ≤ 140737488355328; omega); intro v5 w5 ho hb hg hat; obtain ⟨A5, c5, rfl⟩ := Kd.R_slice ho; obtain ⟨hA5, y0, yf0, hK5⟩ := (HA.out.drewN nd).growFiles hg ho; rw [HLEN.out] at hA5 hK5; have HA5 := Aside0.mk hA5; have HK5 := Aside0.mk hK5; clear ho hb hg hat hA5 hK5 y1)
          | (go_at_call 57; (with_reducible refine (HT.out _ HA5.out).mono ?_); rintro e w6 ⟨rfl, ⟨u1, u3, hB⟩, hK6⟩; have HB := Aside0.mk hB; have HK6 := Aside0.mk hK6; have hX : (R.files ++ [(⟨⟨#[]⟩, 0⟩ : S83)])[R.files.length]? = some ⟨⟨#[]⟩, 0⟩ := (by simp); have HX := Aside0.mk hX; obtain ⟨q0, q1, q2, q3, q4, q5⟩ := hB.cells; obtain ⟨g2, c2, cs2, he9, hg2, hog2, r0, r1, rf0, rf1⟩ := file_at hB.files hX; injection he9 with he9 _ _; subst he9; have HG2 := Aside0.mk hg2; have HO2 := Aside0.mk hog2; have xc : ¬ 9223372036854775807 < (s.extract 0 (min n2 (s.size : Int)).toNat).size := (by have := HC.out; omega); clear hB hK6 hX hg2 hog2 q1 q2 q3 q4 q5 y0 yf0)
          | go_in)
        go_region
        go_wp2
        go_ret2
        have hz9 : findI R.made1.now name < 0 := by rw [show findI R.made1.now name = z from HZ.out.symm]; exact hz
        have hlay : R.made1.layR name (s.extract 0 (min n2 (s.size : Int)).toNat) = { RS.turnR { R.made1 with files := R.files ++ [⟨⟨#[]⟩, 0⟩] } (mk90 1 name ⟨#[]⟩ (R.files.length : Int)) with files := (R.files ++ [(⟨⟨#[]⟩, 0⟩ : S83)]).set R.files.length ⟨(⟨#[]⟩ : ByteArray) ++ (s.extract 0 (min n2 (s.size : Int)).toNat), 0⟩ } := by
          unfold RS.layR
          rw [if_pos hz9]
          unfold RS.putR RS.fileR
          have e : (RS.turnR { R.made1 with files := R.made1.files ++ [⟨⟨#[]⟩, 0⟩] } (mk90 1 name ⟨#[]⟩ (R.made1.files.length : Int))).files = R.files ++ [(⟨⟨#[]⟩, 0⟩ : S83)] := rfl
          rw [e, show R.made1.files.length = R.files.length from rfl, List.getD_eq_getElem?_getD, HX.out]
          rfl
        rw [show cutS s n2 = s.extract 0 (min n2 (s.size : Int)).toNat from rfl, hlay]
        have h4 := HB.out.fileSet HG2.out (file_set0 HB.out.files HX.out ((⟨#[]⟩ : ByteArray) ++ (s.extract 0 (min n2 (s.size : Int)).toNat)))
        have hm5 : ∀ k, Dk.more own (w2.drewN nd) w5 k → own k ∨ w.heap.size ≤ k := fun k hk => hk.imp id (fun q => Nat.le_trans HK.out.size q.1)
        have hs5 : w.heap.size ≤ (w5.setCell ⟨m, 0, none⟩ (.slice (some ⟨g2, 0, none⟩) (R.files.length + 1) c5)).heap.size := Nat.le_trans HK.out.size HK5.out.size
        have hm6 : ∀ k, Dk.more (Dk.more own (w2.drewN nd) w5) (w5.setCell ⟨m, 0, none⟩ (.slice (some ⟨g2, 0, none⟩) (R.files.length + 1) c5)) w6 k → own k ∨ w.heap.size ≤ k := fun k hk => by
          rcases hk with hk | hk
          · exact hm5 k hk
          · exact .inr (Nat.le_trans hs5 hk.1)
        have K6 : Kept own w w6 := ((kdrewN HK.out nd).trans HK5.out (fun _ hk => .inl hk)).trans HK6.out hm5
        have K7 : Kept own w (w6.setCell ⟨g2, R.files.length * 2, none⟩ (.string ((⟨#[]⟩ : ByteArray) ++ (s.extract 0 (min n2 (s.size : Int)).toNat)))) := ⟨K6.os, K6.tape, K6.output, by rw [size_set]; exact K6.size, fun k hk hn => (heap_set_ne (fun (e : k = g2) => by
          rcases hm6 g2 HO2.out with h9 | h9
          · exact hn (by rw [e]; exact h9)
          · omega) _).trans (K6.block k hk hn)⟩
        exact ⟨rfl, ⟨_, _, _, _, _, (h4.drew.lift hm6 (fun k hk => Nat.lt_of_lt_of_le (H.out.bnd k hk) K7.size))⟩, K7.drew⟩
      · have hzd : decide (z < 0) = false := by simpa using hz
        obtain ⟨j, x, hzj, hx⟩ : ∃ (j : Nat) (x : S83), z = (j : Int) ∧ R.files[j]? = some x := by
          obtain ⟨y, hy, h1, _⟩ := findI_mem R.now name (by have := HZ.out; omega)
          obtain ⟨j, hj, hjl⟩ := HOK.out y hy
          exact ⟨j, R.files[j], by rw [HZ.out, ← h1, hj], List.getElem?_eq_getElem hjl⟩
        have HZJ : Aside0 (findI R.now name = (j : Int)) := ⟨by rw [← HZ.out]; exact hzj⟩
        have hjl := (List.getElem?_eq_some_iff.1 hx).1
        have HX := Aside0.mk hx
        have xc : ¬ 9223372036854775807 < x.f0.size + (s.extract 0 (min n2 (s.size : Int)).toNat).size := by
          have h1 := HSZ.out x (List.mem_of_getElem? hx)
          rw [ByteArray.size_extract]
          omega
        clear HSZ HT HZ hz hx
        subst hzj
        go_enter Tryz.func37, Tryz.ntmps37
        go_wp2_with (first
          | (go_at_call 56; (with_reducible refine (HST.out).mono ?_); rintro e w2 ⟨rfl, hA, hK⟩; have HA := Aside0.mk hA; have HK := Aside0.mk hK; have HFD := Aside0.mk (HF.out hA.now); obtain ⟨y0, y1, y2, y3, y4, y5⟩ := hA.cells; obtain ⟨g2, c2, cs2, he9, hg2, hog2, r0, r1, rf0, rf1⟩ := file_at hA.files HX.out; injection he9 with he9 _ _; subst he9; have HG2 := Aside0.mk hg2; have HO2 := Aside0.mk hog2; clear hg2 hog2; clear hA hK y2 y3 y4 y5)
          | (go_at_call 48; (with_reducible refine (HFD.out).mono ?_); rintro e w3 ⟨rfl, ⟨nd, rfl⟩⟩)
          | go_in)
        go_region
        go_wp2
        go_ret2
        have hz9 : ¬ findI R.made1.now name < 0 := by rw [show findI R.made1.now name = (j : Int) from HZJ.out]; omega
        have hlay : R.made1.layR name (s.extract 0 (min n2 (s.size : Int)).toNat) = { R.made1 with files := R.files.set j ⟨x.f0 ++ (s.extract 0 (min n2 (s.size : Int)).toNat), x.f1⟩ } := by
          unfold RS.layR
          rw [if_neg hz9, show findI R.made1.now name = (j : Int) from HZJ.out, Int.toNat_natCast]
          unfold RS.putR RS.fileR
          rw [show R.made1.files = R.files from rfl, List.getD_eq_getElem?_getD, HX.out]
          rfl
        rw [show cutS s n2 = s.extract 0 (min n2 (s.size : Int)).toNat from rfl, hlay]
        have h4 := (HA.out.drewN (nd + 1)).fileSet HG2.out (file_set0 (Kd.R_drewN HA.out.files (nd + 1)) HX.out (x.f0 ++ (s.extract 0 (min n2 (s.size : Int)).toNat)))
        exact ⟨rfl, ⟨_, _, _, _, _, h4.more⟩, kput (kdrewN HK.out (nd + 1)) HO2.out _ _⟩
end
end Go.Proofs.YtomhgoahhlnjpaaGreatDoor.Rf
