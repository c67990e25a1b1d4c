/- Several texts in one. -/
import Derived.Test.YtomhgoahhlnjpaaGreatDoorRfI
import Derived.Deep.Cut
/- The document's own disk, walked: Crash. -/
namespace Go.Proofs.YtomhgoahhlnjpaaGreatDoor.Rf
open Go.RowKit Go.Proofs.YtomhgoahhlnjpaaGreatDoorW.PrintWords Go.Proofs.YtomhgoahhlnjpaaGreatDoor.PRef Go.Proofs.YtomhgoahhlnjpaaGreatDoor.Dk

theorem info95y : (Tryz.prog.info? 116).map (fun i => (i.zero, i.size, i.bytes)) = some (some (.agg #[.string ⟨#[]⟩, .int .i64 0]), 2, 24) := by kernel_rfl
theorem filesR_len (fs : List S83) (l : List Int) : ∀ (L : List S116) (k : Nat), (filesR fs l k L).length = L.length
  | [], _ => rfl
  | _ :: r, k => by rw [filesR, List.length_cons, List.length_cons, filesR_len fs l r]
theorem filesR_get (fs : List S83) (l : List Int) : ∀ (L : List S116) (k i : Nat) (x : S116), L[i]? = some x → (filesR fs l k L)[i]? = some (settleR (fs.getD x.f1.toNat z83) l (k + i))
  | [], _, _, _, h => by simp at h
  | y :: r, k, 0, x, h => by
    obtain rfl : y = x := by simpa using h
    rfl
  | y :: r, k, i + 1, x, h => by
    rw [filesR, List.getElem?_cons_succ, filesR_get fs l r (k + 1) i x (by simpa using h), show k + 1 + i = k + (i + 1) by omega]
theorem namesFrom_len : ∀ (L : List S116) (k : Nat), (namesFrom k L).length = L.length
  | [], _ => rfl
  | _ :: r, k => by rw [namesFrom, List.length_cons, List.length_cons, namesFrom_len r]
theorem namesFrom_get : ∀ (L : List S116) (k i : Nat) (x : S116), L[i]? = some x → (namesFrom k L)[i]? = some ⟨x.f0, ((k + i : Nat) : Int)⟩
  | [], _, _, _, h => by simp at h
  | y :: r, k, 0, x, h => by
    obtain rfl : y = x := by simpa using h
    rfl
  | y :: r, k, i + 1, x, h => by
    rw [namesFrom, List.getElem?_cons_succ, namesFrom_get r (k + 1) i x (by simpa using h), show k + 1 + i = k + (i + 1) by omega]
theorem take_next {α : Type} {l : List α} {i : Nat} {x : α} (h : l[i]? = some x) : l.take (i + 1) = l.take i ++ [x] := by
  obtain ⟨h1, h2⟩ := List.getElem?_eq_some_iff.1 h
  rw [List.take_succ_eq_append_getElem h1, h2]
theorem nth_next {last : List S116} {opn : List S114} {i : Nat} {c : S114} (h : opn[i]? = some c) : nth last opn (i + 1) = doneL (nth last opn i) c := by
  unfold nth
  rw [take_next h, List.foldl_append]
  rfl
theorem nth_past {last : List S116} {opn : List S114} {i j : Nat} (hi : opn.length ≤ i) (hj : opn.length ≤ j) : nth last opn i = nth last opn j := by
  unfold nth
  rw [List.take_of_length_le hi, List.take_of_length_le hj]
theorem go_get (l : List Int) (i : Nat) (h : l ≠ []) : ∃ x, l[i % l.length]? = some x ∧ l.getD (i % l.length) 0 = x := by
  have hlt : i % l.length < l.length := Nat.mod_lt _ (List.length_pos_iff.2 h)
  exact ⟨l[i % l.length], List.getElem?_eq_getElem hlt, by rw [List.getD_eq_getElem?_getD, List.getElem?_eq_getElem hlt]; rfl⟩

end Go.Proofs.YtomhgoahhlnjpaaGreatDoor.Rf

/- The document's own disk, walked: Crash, with no bytes told. -/
namespace Go.Proofs.YtomhgoahhlnjpaaGreatDoor.Rf
open Go.RowKit Go.Proofs.YtomhgoahhlnjpaaGreatDoorW.PrintWords Go.Proofs.YtomhgoahhlnjpaaGreatDoor.PRef Go.Proofs.YtomhgoahhlnjpaaGreatDoor.Dk

section
variable {own : Nat → Prop} {w w' : World} {m : Nat} {R : RS} {v0 v1 v2 v3 v4 : Value}
set_option maxRecDepth 100000 in
set_option maxHeartbeats 4000000 in
theorem crash_r0 (h : RAt own w m R v0 v1 v2 v3 v4) (n : Int) (l : List Int) {vb : Value} (hb : IntsAt w vb l) (hl : l = [])
    (hlen : ∀ i, (nth R.last R.opn i).length ≤ 1099511627776) (hon : R.opn.length ≤ 1099511627776)
    (hok : ∀ x ∈ nth R.last R.opn (max n 0).toNat, ∃ (j : Nat) (f : S83), x.f1 = (j : Int) ∧ R.files[j]? = some f ∧ 0 ≤ f.f1 ∧ f.f1 ≤ (f.f0.size : Int) ∧ f.f0.size ≤ 1099511627776) :
    Calls Tryz.prog 25 #[.pointer (some ⟨m, 0, none⟩), .agg #[.int .i64 n, vb]] w fun e w' => e = .returned (.tuple #[]) ∧ (∃ v0' v1' v2' v3' v4', RAt (Dk.more own w w') w' m (R.crashR n l) v0' v1' v2' v3' v4') ∧ Kept own w w' := by
  obtain ⟨x0, x1, x2, x3, x4, x5⟩ := h.cells
  have H := Aside0.mk h
  have HIB := Aside0.mk hb
  obtain ⟨A, cb, rfl, hjunk⟩ := id hb
  clear hjunk
  have HLl := Aside0.mk hl
  clear hl
  obtain ⟨ln, hln⟩ : ∃ ln, ln = l.length := ⟨_, rfl⟩
  rw [← hln]
  have HLn := Aside0.mk hln
  have HLEN := Aside0.mk hlen
  have HOK := Aside0.mk hok
  obtain ⟨A0, c0, rfl⟩ := Kd.R_slice h.files
  obtain ⟨A3, c3, rfl⟩ := Kd.R_slice h.opn
  obtain ⟨A2, c2, rfl⟩ := Kd.R_slice h.last
  have hlm := h.lt
  clear h hb hln hlen hok x0 x1 x4 x5
  go_enter Tryz.func25, Tryz.ntmps25
  go_wp2_with (first
    | ((with_reducible refine gate_dst (N := 3) rfl ?_); refine box_event ?hg (N := 3) ?hd (cs := #[.int .i64 n, .slice A ln cb]) (t := 43) ?hr ?_; (case hd => rfl); (case hg => rfl); (case hr => first | (go_simp; done) | (go_simp; rfl)); intro g hgb w1 hbox hb; have H1 := Aside0.mk (H.out.below hb); have B1 := Aside0.mk hb; have X1 := Aside0.mk hbox; have HG := Aside0.mk hgb; obtain ⟨q0, q1, q2, q3, q4, q5⟩ := H1.out.cells; clear hbox hb hgb x2 x3 q0 q1 q4 q5)
    | go_in)
  go_loopw [4, 5] (fun v vi wr => ∃ i : Nat, vi = .int .i64 i ∧ i ≤ R.opn.length ∧ i ≤ (max n 0).toNat ∧ Aside0 (Kd.R k116 116 wr 0 (fun _ => True) v (nth R.last R.opn i)) ∧ Aside0 (Below w1.heap.size w1 wr)) (fun _ vi _ => R.opn.length - (intOf vi).toNat)
  case atStart => exact ⟨0, rfl, Nat.zero_le _, Nat.zero_le _, ⟨Kd.R_mono H1.out.last (fun _ _ => trivial)⟩, ⟨Below.refl _ _⟩⟩
  case round =>
    obtain ⟨i, rfl, hi, hin, HV, HB⟩ := hrel
    clear q2 q3
    have HR := Aside0.mk (H1.out.below HB.out)
    have XR : Aside0 (wr.heap[g]? = some (.cells #[.int .i64 n, .slice A ln cb] 43 (0, 0))) := ⟨(HB.out.block g (blk_lt X1.out)).trans X1.out⟩
    obtain ⟨q0, q1, q2, q3, q4, q5⟩ := HR.out.cells
    have b0 := (blk_cell XR.out 0).trans rfl
    have b1 := (blk_cell XR.out 1).trans rfl
    obtain ⟨A4, c4, rfl, hlc4, hC4⟩ := Kd.R_reads HV.out
    clear q0 q1 q2 q4 q5
    by_cases ht : i < R.opn.length
    · have hd1 : decide ((i : Int) < (R.opn.length : Int)) = true := by simpa using ht
      by_cases hn : (i : Int) < n
      · have hd2 : decide ((i : Int) < n) = true := by simpa using hn
        obtain ⟨c, hc⟩ : ∃ c, R.opn[i]? = some c := ⟨_, List.getElem?_eq_getElem ht⟩
        have HN : Aside0 (nth R.last R.opn (i + 1) = doneL (nth R.last R.opn i) c) := ⟨nth_next hc⟩
        have HD := Aside0.mk (lodestarref02_done.calls _ A4 c4 (nth R.last R.opn i) c.f0 c.f1 c.f2 c.f3 _ wr hC4 hlc4 (done_f (nth R.last R.opn i) c (HLEN.out i)))
        obtain ⟨go, co, cl, he, hog, hgl, hcl, hcell⟩ := row_at HR.out.opn hc
        cases he
        have hcl2 := k114_open hcl
        subst hcl2
        have r0 := hcell 0 _ rfl
        have r1 := hcell 1 _ rfl
        have r2 := hcell 2 _ rfl
        have r3 := hcell 3 _ rfl
        rw [show k114.sz = 4 from rfl] at r0 r1 r2 r3
        rw [Nat.add_zero] at r0
        have Hin2 : Aside0 (i + 1 ≤ (max n 0).toNat) := ⟨by omega⟩
        clear hcl hcell hc hog hgl hin hlc4 hC4
        go_wp2_with (first
          | (go_at_call 47; (with_reducible refine (HD.out).mono ?_); rintro e w2 ⟨vN, rfl, hR, hb2⟩; have R2 := Aside0.mk hR; have B2 := Aside0.mk hb2; clear hR hb2)
          | go_in)
        have hms := meas ht
        exact ⟨⟨i + 1, by simp, by omega, Hin2.out, ⟨by rw [HN.out]; exact Kd.R_lower R2.out (Nat.zero_le _)⟩, ⟨(HB.out).trans (B2.out.mono HB.out.size)⟩⟩, by simpa [intOf] using hms⟩
      · have hd2 : decide ((i : Int) < n) = false := by simpa using hn
        have HE : Aside0 (nth R.last R.opn i = nth R.last R.opn (max n 0).toNat) := ⟨by rw [show i = (max n 0).toNat by omega]⟩
        rw [HE.out] at hC4 HV hlc4 ⊢
        obtain ⟨L, hL⟩ : ∃ L, L = nth R.last R.opn (max n 0).toNat := ⟨_, rfl⟩
        rw [← hL] at hC4 HV hlc4 ⊢
        have HL := Aside0.mk hL
        have HC4 := Aside0.mk hC4
        have HBL : Aside0 (Below w.heap.size w wr) := ⟨B1.out.trans (HB.out.mono B1.out.size)⟩
        have hll : L.length ≤ 1099511627776 := by rw [hL]; exact HLEN.out _
        clear hL hC4 hin hlc4 HB hi hon
        obtain ⟨wL, hwL⟩ : ∃ wL, wL = wr := ⟨_, rfl⟩
        subst hwL
        go_wp2
        go_loopw [6, 7, 8] (fun v6 v7 vi wq => ∃ i : Nat, vi = .int .i64 i ∧ i ≤ L.length ∧ Aside0 (Kd.R k83 83 wq wL.heap.size (fun _ => True) v6 ((filesR R.files l 0 L).take i)) ∧ Aside0 (Kd.R k116 116 wq wL.heap.size (fun _ => True) v7 ((namesFrom 0 L).take i)) ∧ Aside0 (Below wL.heap.size wL wq)) (fun _ _ vi _ => L.length - (intOf vi).toNat)
        case atStart => exact ⟨0, rfl, Nat.zero_le _, ⟨Kd.R_nil _ _ _ _ _⟩, ⟨Kd.R_nil _ _ _ _ _⟩, ⟨Below.refl _ _⟩⟩
        case round =>
          obtain ⟨i, rfl, hi, H6, H7, HB⟩ := hrel
          clear q3 b0 b1
          have HRq := Aside0.mk (HR.out.below HB.out)
          have XQ : Aside0 (wr.heap[g]? = some (.cells #[.int .i64 n, .slice A ln cb] 43 (0, 0))) := ⟨(HB.out.block g (blk_lt XR.out)).trans XR.out⟩
          obtain ⟨q0, q1, q2, q3, q4, q5⟩ := HRq.out.cells
          have b1 := (blk_cell XQ.out 1).trans rfl
          obtain ⟨FL, hFL⟩ : ∃ FL, FL = (filesR R.files l 0 L).take i := ⟨_, rfl⟩
          obtain ⟨NL, hNL⟩ : ∃ NL, NL = (namesFrom 0 L).take i := ⟨_, rfl⟩
          rw [← hFL] at H6
          rw [← hNL] at H7
          have HFL := Aside0.mk hFL
          have HNL := Aside0.mk hNL
          clear hFL hNL
          obtain ⟨Af, cf, hef⟩ := Kd.R_slice H6.out
          subst hef
          obtain ⟨An, cn, hen⟩ := Kd.R_slice H7.out
          subst hen
          by_cases hti : i < L.length
          · have hdi : decide ((i : Int) < (L.length : Int)) = true := by simpa using hti
            obtain ⟨x, hx⟩ : ∃ x, L[i]? = some x := ⟨_, List.getElem?_eq_getElem hti⟩
            obtain ⟨j, f, hxj, hf, hf0, hf1, hfs⟩ := HOK.out x (by rw [← HL.out]; exact List.mem_of_getElem? hx)
            obtain ⟨gn, cn2, cl, he, _, hgnl, hcl, hcell⟩ := row_at (Kd.R_below HV.out HB.out) hx
            cases he
            have hcl2 := k116_open hcl
            subst hcl2
            have r0 := hcell 0 _ rfl
            have r1 := hcell 1 _ rfl
            rw [show k116.sz = 2 from rfl] at r0 r1
            rw [Nat.add_zero] at r0
            rw [hxj] at r1
            have hjl := (List.getElem?_eq_some_iff.1 hf).1
            obtain ⟨gf, cf2, cs2, he9, hgf, _, y0, y1, _, _⟩ := file_at HRq.out.files hf
            cases he9
            have hmlt := HRq.out.lt
            have hgfl := blk_lt hgf
            have HRow := Aside0.mk (Kd.R_below HV.out HB.out)
            clear q1 q2 q3 q4 q5 hcl hcell b1 hgf
            have HFI : Aside0 ((filesR R.files l 0 L)[i]? = some (settleR f l i)) := ⟨by rw [filesR_get R.files l L 0 i x hx, hxj, Int.toNat_natCast, List.getD_eq_getElem?_getD, hf, Nat.zero_add]; rfl⟩
            have HNI : Aside0 ((namesFrom 0 L)[i]? = some ⟨x.f0, (i : Int)⟩) := ⟨by rw [namesFrom_get L 0 i x hx, Nat.zero_add]⟩
            have HX := Aside0.mk hx
            have hml : (L.length : Int) ≤ 1099511627776 := by omega
            clear hx hf hxj
            go_wp2
            go_region
            have B9 : Aside0 (Below wr.heap.size wr (wr.alloc (.cells #[.string f.f0, .int .i64 f.f1] 83)).drew) := ⟨below_drew1 (below_alloc (Below.refl _ _) _)⟩
            have X9 : Aside0 ((wr.alloc (.cells #[.string f.f0, .int .i64 f.f1] 83)).drew.heap[wr.heap.size]? = some (.cells #[.string f.f0, .int .i64 f.f1] 83 (0, 0))) := ⟨heap_alloc_new wr _⟩
            generalize (wr.alloc (.cells #[.string f.f0, .int .i64 f.f1] 83)).drew = w9 at B9 X9 ⊢
            have hglt := blk_lt XQ.out
            have XG : Aside0 (w9.heap[g]? = some (.cells #[.int .i64 n, .slice A ln cb] 43 (0, 0))) := ⟨(B9.out.block g hglt).trans XQ.out⟩
            have BW : Aside0 (Below wL.heap.size wL w9) := ⟨HB.out.trans (B9.out.mono HB.out.size)⟩
            have b1 := (blk_cell XG.out 1).trans rfl
            have z0 := (blk_cell X9.out 0).trans rfl
            have z1 := (blk_cell X9.out 1).trans rfl
            have H6w : Aside0 (Kd.R k83 83 w9 wL.heap.size (fun _ => True) (.slice Af FL.length cf) FL) := ⟨Kd.R_below H6.out B9.out⟩
            have H7w : Aside0 (Kd.R k116 116 w9 wL.heap.size (fun _ => True) (.slice An NL.length cn) NL) := ⟨Kd.R_below H7.out B9.out⟩
            have HL6 : Aside0 (FL.length ≤ 1099511627776) := ⟨by rw [HFL.out, List.length_take, filesR_len]; omega⟩
            have HL7 : Aside0 (NL.length ≤ 1099511627776) := ⟨by rw [HNL.out, List.length_take, namesFrom_len]; omega⟩
            generalize wr.heap.size = gb at X9 z0 z1 ⊢
            clear q0 y0 y1 r0 r1 hmlt hgfl hgnl hglt B9 hjl
            have hl0 : decide ((0 : Int) < (ln : Int)) = false := by rw [HLn.out, HLl.out]; rfl
            have hl1 : decide (0 < ln) = false := by rw [HLn.out, HLl.out]; rfl
            have HSE : Aside0 (settleR f l i = ⟨f.f0.extract 0 f.f1.toNat, ((f.f0.extract 0 f.f1.toNat).size : Int)⟩) := ⟨by
              unfold settleR
              rw [if_pos HLl.out, Int.add_zero, ByteArray.size_extract]
              congr 1
              omega⟩
            go_upto_region 16 with fail
            obtain ⟨E, hE⟩ : ∃ E, f.f0.extract 0 f.f1.toNat = E := ⟨_, rfl⟩
            have HEE := Aside0.mk hE
            rw [hE]
            clear hE
            go_wp2_with (first
              | ((with_reducible refine gate_builtin (b := .append) (xs := #[.tmp 85, .tmp 90]) rfl ?_); at_builtin; refine Kd.R_append k83 (w0 := wL) wL.heap.size rfl (.tmp 85) (.tmp 90) 27 83 (.agg #[.string ⟨#[]⟩, .int .i64 0]) 24 rfl Tryz.underlying27 info87 rfl (by decide) (by omega) _ FL ⟨E, (E.size : Int)⟩ [.string E, .int .i64 (E.size : Int)] (fun _ => True) (fun _ => False) rfl rfl ?aP (fun _ hk => hk.elim) (fun _ _ => trivial) ?aO ?aB ?aS ?aL ?_; (case aP => exact k83_mkM _ _ _ ⟨E, (E.size : Int)⟩); (case aB => first | exact BW.out | exact below_drew1 BW.out); (case aO => first | exact H6w.out | exact Kd.R_drew H6w.out); (case aS => first | exact BW.out.size); (case aL => have := HL6.out; omega); intro v10 w10 ho hb hg hat; have H6x := Aside0.mk ho; have B10 := Aside0.mk hb; have H7x := Aside0.mk (Kd.R_over H7w.out H6w.out (by decide) hg); obtain ⟨gn2, cn3, cl, he, _, _, hcl, hcell⟩ := row_at (Kd.R_below HV.out hb) HX.out; cases he; have hcl2 := k116_open hcl; subst hcl2; have r0 := hcell 0 _ rfl; rw [show k116.sz = 2 from rfl, Nat.add_zero] at r0; clear ho hb hg hat hcl hcell b1 z0 z1 )
              | ((with_reducible refine gate_builtin (b := .append) (xs := #[.tmp 92, .tmp 100]) rfl ?_); at_builtin; refine Kd.R_append k116 (w0 := wL) wL.heap.size rfl (.tmp 92) (.tmp 100) 28 116 (.agg #[.string ⟨#[]⟩, .int .i64 0]) 24 rfl Tryz.underlying28 info95y rfl (by decide) (by omega) _ NL ⟨x.f0, (i : Int)⟩ [.string x.f0, .int .i64 (i : Int)] (fun _ => True) (fun _ => False) rfl rfl ?aP (fun _ hk => hk.elim) (fun _ _ => trivial) ?aO ?aB ?aS ?aL ?_; (case aP => exact k116_mkM _ _ _ ⟨x.f0, (i : Int)⟩); (case aB => exact B10.out); (case aO => exact H7x.out); (case aS => exact B10.out.size); (case aL => have := HL7.out; omega); intro v11 w11 ho hb hg hat; have H7y := Aside0.mk ho; have B11 := Aside0.mk hb; have H6y := Aside0.mk (Kd.R_over H6x.out H7x.out (by decide) hg); clear ho hb hg hat r0)
              | go_in)
            have hms := meas hti
            exact ⟨⟨i + 1, by simp, by omega, ⟨by rw [take_next HFI.out, HSE.out, HEE.out, ← HFL.out]; exact H6y.out⟩, ⟨by rw [take_next HNI.out, ← HNL.out]; exact H7y.out⟩, B11⟩, by simpa [intOf] using hms⟩
          · have hdi : decide ((i : Int) < (L.length : Int)) = false := by simpa using hti
            have hie : i = L.length := by omega
            have HE6 : Aside0 (FL = filesR R.files l 0 L) := ⟨HFL.out.trans (List.take_of_length_le (by rw [filesR_len]; omega))⟩
            have HE7 : Aside0 (NL = namesFrom 0 L) := ⟨HNL.out.trans (List.take_of_length_le (by rw [namesFrom_len]; omega))⟩
            have qf0 := HRq.out.frozen 0
            have qf1 := HRq.out.frozen 1
            have qf2 := HRq.out.frozen 2
            have qf3 := HRq.out.frozen 3
            have qf4 := HRq.out.frozen 4
            clear hie b1
            rw [HE6.out] at H6 ⊢
            rw [HE7.out] at H7 ⊢
            go_wp2
            refine bodyPost_end (results_none rfl _ _ _) rfl ?_
            have hLn : wL.heap.size ≤ wr.heap.size := HB.out.size
            have BWw : Below w.heap.size w wr := HBL.out.trans (HB.out.mono HBL.out.size)
            have M6 := row_mine (own := own) (w := w) (w1 := wL) H6.out HBL.out.size
            have M7 := row_mine (own := own) (w := w) (w1 := wL) H7.out HBL.out.size
            have hA := (H.out.below BWw).more (wa := w)
            have hA1 := hA.setFiles M6
            have M7a := Kd.R_set M7 hA.blk (by decide) 0 (.slice Af (filesR R.files l 0 L).length cf)
            have hA2 := hA1.setNow M7a
            have M7b := Kd.R_set M7a hA1.blk (by decide) 1 (.slice An (namesFrom 0 L).length cn)
            have hA3 := hA2.setLast M7b
            have hA4 := hA3.setOpn (v := .slice none 0 0) (l := []) (Kd.R_nil _ _ _ _ _)
            have hA5 := hA4.setFaults (v := .slice none 0 0) (l := []) (Kd.R_nil _ _ _ _ _)
            have K5 : Kept own w (((((wr.setCell ⟨m, 0, none⟩ (.slice Af (filesR R.files l 0 L).length cf)).setCell ⟨m, 1, none⟩ (.slice An (namesFrom 0 L).length cn)).setCell ⟨m, 2, none⟩ (.slice An (namesFrom 0 L).length cn)).setCell ⟨m, 3, none⟩ (.slice none 0 0)).setCell ⟨m, 4, none⟩ (.slice none 0 0)) := kput (kput (kput (kput (kput (kbelow (Kept.refl own w) BWw) H.out.ownm _ _) H.out.ownm _ _) H.out.ownm _ _) H.out.ownm _ _) H.out.ownm _ _
            have hfin : R.crashR n l = { R with files := filesR R.files l 0 L, now := namesFrom 0 L, last := namesFrom 0 L, opn := [], faults := [] } := by unfold RS.crashR; rw [← HL.out]
            rw [hfin]
            exact ⟨rfl, ⟨_, _, _, _, _, hA5.lift (fun k hk => hk.imp id (·.1)) (fun k hk => Nat.lt_of_lt_of_le (H.out.bnd k hk) K5.size)⟩, K5⟩
    · have hd1 : decide ((i : Int) < (R.opn.length : Int)) = false := by simpa using ht
      have HE : Aside0 (nth R.last R.opn i = nth R.last R.opn (max n 0).toNat) := ⟨nth_past (by omega) (by omega)⟩
      rw [HE.out] at hC4 HV hlc4 ⊢
      obtain ⟨L, hL⟩ : ∃ L, L = nth R.last R.opn (max n 0).toNat := ⟨_, rfl⟩
      rw [← hL] at hC4 HV hlc4 ⊢
      have HL := Aside0.mk hL
      have HC4 := Aside0.mk hC4
      have HBL : Aside0 (Below w.heap.size w wr) := ⟨B1.out.trans (HB.out.mono B1.out.size)⟩
      have hll : L.length ≤ 1099511627776 := by rw [hL]; exact HLEN.out _
      clear hL hC4 hin hlc4 HB hi hon
      obtain ⟨wL, hwL⟩ : ∃ wL, wL = wr := ⟨_, rfl⟩
      subst hwL
      go_wp2
      go_loopw [6, 7, 8] (fun v6 v7 vi wq => ∃ i : Nat, vi = .int .i64 i ∧ i ≤ L.length ∧ Aside0 (Kd.R k83 83 wq wL.heap.size (fun _ => True) v6 ((filesR R.files l 0 L).take i)) ∧ Aside0 (Kd.R k116 116 wq wL.heap.size (fun _ => True) v7 ((namesFrom 0 L).take i)) ∧ Aside0 (Below wL.heap.size wL wq)) (fun _ _ vi _ => L.length - (intOf vi).toNat)
      case atStart => exact ⟨0, rfl, Nat.zero_le _, ⟨Kd.R_nil _ _ _ _ _⟩, ⟨Kd.R_nil _ _ _ _ _⟩, ⟨Below.refl _ _⟩⟩
      case round =>
        obtain ⟨i, rfl, hi, H6, H7, HB⟩ := hrel
        clear q3 b0 b1
        have HRq := Aside0.mk (HR.out.below HB.out)
        have XQ : Aside0 (wr.heap[g]? = some (.cells #[.int .i64 n, .slice A ln cb] 43 (0, 0))) := ⟨(HB.out.block g (blk_lt XR.out)).trans XR.out⟩
        obtain ⟨q0, q1, q2, q3, q4, q5⟩ := HRq.out.cells
        have b1 := (blk_cell XQ.out 1).trans rfl
        obtain ⟨FL, hFL⟩ : ∃ FL, FL = (filesR R.files l 0 L).take i := ⟨_, rfl⟩
        obtain ⟨NL, hNL⟩ : ∃ NL, NL = (namesFrom 0 L).take i := ⟨_, rfl⟩
        rw [← hFL] at H6
        rw [← hNL] at H7
        have HFL := Aside0.mk hFL
        have HNL := Aside0.mk hNL
        clear hFL hNL
        obtain ⟨Af, cf, hef⟩ := Kd.R_slice H6.out
        subst hef
        obtain ⟨An, cn, hen⟩ := Kd.R_slice H7.out
        subst hen
        by_cases hti : i < L.length
        · have hdi : decide ((i : Int) < (L.length : Int)) = true := by simpa using hti
          obtain ⟨x, hx⟩ : ∃ x, L[i]? = some x := ⟨_, List.getElem?_eq_getElem hti⟩
          obtain ⟨j, f, hxj, hf, hf0, hf1, hfs⟩ := HOK.out x (by rw [← HL.out]; exact List.mem_of_getElem? hx)
          obtain ⟨gn, cn2, cl, he, _, hgnl, hcl, hcell⟩ := row_at (Kd.R_below HV.out HB.out) hx
          cases he
          have hcl2 := k116_open hcl
          subst hcl2
          have r0 := hcell 0 _ rfl
          have r1 := hcell 1 _ rfl
          rw [show k116.sz = 2 from rfl] at r0 r1
          rw [Nat.add_zero] at r0
          rw [hxj] at r1
          have hjl := (List.getElem?_eq_some_iff.1 hf).1
          obtain ⟨gf, cf2, cs2, he9, hgf, _, y0, y1, _, _⟩ := file_at HRq.out.files hf
          cases he9
          have hmlt := HRq.out.lt
          have hgfl := blk_lt hgf
          have HRow := Aside0.mk (Kd.R_below HV.out HB.out)
          clear q1 q2 q3 q4 q5 hcl hcell b1 hgf
          have HFI : Aside0 ((filesR R.files l 0 L)[i]? = some (settleR f l i)) := ⟨by rw [filesR_get R.files l L 0 i x hx, hxj, Int.toNat_natCast, List.getD_eq_getElem?_getD, hf, Nat.zero_add]; rfl⟩
          have HNI : Aside0 ((namesFrom 0 L)[i]? = some ⟨x.f0, (i : Int)⟩) := ⟨by rw [namesFrom_get L 0 i x hx, Nat.zero_add]⟩
          have HX := Aside0.mk hx
          have hml : (L.length : Int) ≤ 1099511627776 := by omega
          clear hx hf hxj
          go_wp2
          go_region
          have B9 : Aside0 (Below wr.heap.size wr (wr.alloc (.cells #[.string f.f0, .int .i64 f.f1] 83)).drew) := ⟨below_drew1 (below_alloc (Below.refl _ _) _)⟩
          have X9 : Aside0 ((wr.alloc (.cells #[.string f.f0, .int .i64 f.f1] 83)).drew.heap[wr.heap.size]? = some (.cells #[.string f.f0, .int .i64 f.f1] 83 (0, 0))) := ⟨heap_alloc_new wr _⟩
          generalize (wr.alloc (.cells #[.string f.f0, .int .i64 f.f1] 83)).drew = w9 at B9 X9 ⊢
          have hglt := blk_lt XQ.out
          have XG : Aside0 (w9.heap[g]? = some (.cells #[.int .i64 n, .slice A ln cb] 43 (0, 0))) := ⟨(B9.out.block g hglt).trans XQ.out⟩
          have BW : Aside0 (Below wL.heap.size wL w9) := ⟨HB.out.trans (B9.out.mono HB.out.size)⟩
          have b1 := (blk_cell XG.out 1).trans rfl
          have z0 := (blk_cell X9.out 0).trans rfl
          have z1 := (blk_cell X9.out 1).trans rfl
          have H6w : Aside0 (Kd.R k83 83 w9 wL.heap.size (fun _ => True) (.slice Af FL.length cf) FL) := ⟨Kd.R_below H6.out B9.out⟩
          have H7w : Aside0 (Kd.R k116 116 w9 wL.heap.size (fun _ => True) (.slice An NL.length cn) NL) := ⟨Kd.R_below H7.out B9.out⟩
          have HL6 : Aside0 (FL.length ≤ 1099511627776) := ⟨by rw [HFL.out, List.length_take, filesR_len]; omega⟩
          have HL7 : Aside0 (NL.length ≤ 1099511627776) := ⟨by rw [HNL.out, List.length_take, namesFrom_len]; omega⟩
          generalize wr.heap.size = gb at X9 z0 z1 ⊢
          clear q0 y0 y1 r0 r1 hmlt hgfl hgnl hglt B9 hjl
          have hl0 : decide ((0 : Int) < (ln : Int)) = false := by rw [HLn.out, HLl.out]; rfl
          have hl1 : decide (0 < ln) = false := by rw [HLn.out, HLl.out]; rfl
          have HSE : Aside0 (settleR f l i = ⟨f.f0.extract 0 f.f1.toNat, ((f.f0.extract 0 f.f1.toNat).size : Int)⟩) := ⟨by
            unfold settleR
            rw [if_pos HLl.out, Int.add_zero, ByteArray.size_extract]
            congr 1
            omega⟩
          go_upto_region 16 with fail
          obtain ⟨E, hE⟩ : ∃ E, f.f0.extract 0 f.f1.toNat = E := ⟨_, rfl⟩
          have HEE := Aside0.mk hE
          rw [hE]
          clear hE
          go_wp2_with (first
            | ((with_reducible refine gate_builtin (b := .append) (xs := #[.tmp 85, .tmp 90]) rfl ?_); at_builtin; refine Kd.R_append k83 (w0 := wL) wL.heap.size rfl (.tmp 85) (.tmp 90) 27 83 (.agg #[.string ⟨#[]⟩, .int .i64 0]) 24 rfl Tryz.underlying27 info87 rfl (by decide) (by omega) _ FL ⟨E, (E.size : Int)⟩ [.string E, .int .i64 (E.size : Int)] (fun _ => True) (fun _ => False) rfl rfl ?aP (fun _ hk => hk.elim) (fun _ _ => trivial) ?aO ?aB ?aS ?aL ?_; (case aP => exact k83_mkM _ _ _ ⟨E, (E.size : Int)⟩); (case aB => first | exact BW.out | exact below_drew1 BW.out); (case aO => first | exact H6w.out | exact Kd.R_drew H6w.out); (case aS => first | exact BW.out.size); (case aL => have := HL6.out; omega); intro v10 w10 ho hb hg hat; have H6x := Aside0.mk ho; have B10 := Aside0.mk hb; have H7x := Aside0.mk (Kd.R_over H7w.out H6w.out (by decide) hg); obtain ⟨gn2, cn3, cl, he, _, _, hcl, hcell⟩ := row_at (Kd.R_below HV.out hb) HX.out; cases he; have hcl2 := k116_open hcl; subst hcl2; have r0 := hcell 0 _ rfl; rw [show k116.sz = 2 from rfl, Nat.add_zero] at r0; clear ho hb hg hat hcl hcell b1 z0 z1 )
            | ((with_reducible refine gate_builtin (b := .append) (xs := #[.tmp 92, .tmp 100]) rfl ?_); at_builtin; refine Kd.R_append k116 (w0 := wL) wL.heap.size rfl (.tmp 92) (.tmp 100) 28 116 (.agg #[.string ⟨#[]⟩, .int .i64 0]) 24 rfl Tryz.underlying28 info95y rfl (by decide) (by omega) _ NL ⟨x.f0, (i : Int)⟩ [.string x.f0, .int .i64 (i : Int)] (fun _ => True) (fun _ => False) rfl rfl ?aP (fun _ hk => hk.elim) (fun _ _ => trivial) ?aO ?aB ?aS ?aL ?_; (case aP => exact k116_mkM _ _ _ ⟨x.f0, (i : Int)⟩); (case aB => exact B10.out); (case aO => exact H7x.out); (case aS => exact B10.out.size); (case aL => have := HL7.out; omega); intro v11 w11 ho hb hg hat; have H7y := Aside0.mk ho; have B11 := Aside0.mk hb; have H6y := Aside0.mk (Kd.R_over H6x.out H7x.out (by decide) hg); clear ho hb hg hat r0)
            | go_in)
          have hms := meas hti
          exact ⟨⟨i + 1, by simp, by omega, ⟨by rw [take_next HFI.out, HSE.out, HEE.out, ← HFL.out]; exact H6y.out⟩, ⟨by rw [take_next HNI.out, ← HNL.out]; exact H7y.out⟩, B11⟩, by simpa [intOf] using hms⟩
        · have hdi : decide ((i : Int) < (L.length : Int)) = false := by simpa using hti
          have hie : i = L.length := by omega
          have HE6 : Aside0 (FL = filesR R.files l 0 L) := ⟨HFL.out.trans (List.take_of_length_le (by rw [filesR_len]; omega))⟩
          have HE7 : Aside0 (NL = namesFrom 0 L) := ⟨HNL.out.trans (List.take_of_length_le (by rw [namesFrom_len]; omega))⟩
          have qf0 := HRq.out.frozen 0
          have qf1 := HRq.out.frozen 1
          have qf2 := HRq.out.frozen 2
          have qf3 := HRq.out.frozen 3
          have qf4 := HRq.out.frozen 4
          clear hie b1
          rw [HE6.out] at H6 ⊢
          rw [HE7.out] at H7 ⊢
          go_wp2
          refine bodyPost_end (results_none rfl _ _ _) rfl ?_
          have hLn : wL.heap.size ≤ wr.heap.size := HB.out.size
          have BWw : Below w.heap.size w wr := HBL.out.trans (HB.out.mono HBL.out.size)
          have M6 := row_mine (own := own) (w := w) (w1 := wL) H6.out HBL.out.size
          have M7 := row_mine (own := own) (w := w) (w1 := wL) H7.out HBL.out.size
          have hA := (H.out.below BWw).more (wa := w)
          have hA1 := hA.setFiles M6
          have M7a := Kd.R_set M7 hA.blk (by decide) 0 (.slice Af (filesR R.files l 0 L).length cf)
          have hA2 := hA1.setNow M7a
          have M7b := Kd.R_set M7a hA1.blk (by decide) 1 (.slice An (namesFrom 0 L).length cn)
          have hA3 := hA2.setLast M7b
          have hA4 := hA3.setOpn (v := .slice none 0 0) (l := []) (Kd.R_nil _ _ _ _ _)
          have hA5 := hA4.setFaults (v := .slice none 0 0) (l := []) (Kd.R_nil _ _ _ _ _)
          have K5 : Kept own w (((((wr.setCell ⟨m, 0, none⟩ (.slice Af (filesR R.files l 0 L).length cf)).setCell ⟨m, 1, none⟩ (.slice An (namesFrom 0 L).length cn)).setCell ⟨m, 2, none⟩ (.slice An (namesFrom 0 L).length cn)).setCell ⟨m, 3, none⟩ (.slice none 0 0)).setCell ⟨m, 4, none⟩ (.slice none 0 0)) := kput (kput (kput (kput (kput (kbelow (Kept.refl own w) BWw) H.out.ownm _ _) H.out.ownm _ _) H.out.ownm _ _) H.out.ownm _ _) H.out.ownm _ _
          have hfin : R.crashR n l = { R with files := filesR R.files l 0 L, now := namesFrom 0 L, last := namesFrom 0 L, opn := [], faults := [] } := by unfold RS.crashR; rw [← HL.out]
          rw [hfin]
          exact ⟨rfl, ⟨_, _, _, _, _, hA5.lift (fun k hk => hk.imp id (·.1)) (fun k hk => Nat.lt_of_lt_of_le (H.out.bnd k hk) K5.size)⟩, K5⟩
end
end Go.Proofs.YtomhgoahhlnjpaaGreatDoor.Rf

/- The document's own disk, walked: Crash, with bytes told. -/
namespace Go.Proofs.YtomhgoahhlnjpaaGreatDoor.Rf
open Go.RowKit Go.Proofs.YtomhgoahhlnjpaaGreatDoorW.PrintWords Go.Proofs.YtomhgoahhlnjpaaGreatDoor.PRef Go.Proofs.YtomhgoahhlnjpaaGreatDoor.Dk

section
variable {own : Nat → Prop} {w w' : World} {m : Nat} {R : RS} {v0 v1 v2 v3 v4 : Value}
set_option maxRecDepth 100000 in
set_option maxHeartbeats 4000000 in
theorem crash_r1 (h : RAt own w m R v0 v1 v2 v3 v4) (n : Int) (l : List Int) {vb : Value} (hb : IntsAt w vb l) (hl : l ≠ [])
    (hlen : ∀ i, (nth R.last R.opn i).length ≤ 1099511627776) (hon : R.opn.length ≤ 1099511627776)
    (hok : ∀ x ∈ nth R.last R.opn (max n 0).toNat, ∃ (j : Nat) (f : S83), x.f1 = (j : Int) ∧ R.files[j]? = some f ∧ 0 ≤ f.f1 ∧ f.f1 ≤ (f.f0.size : Int) ∧ f.f0.size ≤ 1099511627776) :
    Calls Tryz.prog 25 #[.pointer (some ⟨m, 0, none⟩), .agg #[.int .i64 n, vb]] w fun e w' => e = .returned (.tuple #[]) ∧ (∃ v0' v1' v2' v3' v4', RAt (Dk.more own w w') w' m (R.crashR n l) v0' v1' v2' v3' v4') ∧ Kept own w w' := by
  obtain ⟨x0, x1, x2, x3, x4, x5⟩ := h.cells
  have H := Aside0.mk h
  have HIB := Aside0.mk hb
  obtain ⟨A, cb, rfl, hce⟩ := id hb
  obtain ⟨b, o, hAb⟩ : ∃ b o, A = some ⟨b, o, none⟩ := by
    obtain ⟨x, hx, _⟩ := go_get l 0 hl
    obtain ⟨b, o, h5, _⟩ := hce _ x hx
    exact ⟨b, o, h5⟩
  subst hAb
  have HCL : Aside0 (∀ (i : Nat) (x : Int), l[i]? = some x → w.cell? ⟨b, o + i, none⟩ = some (.int .i64 x)) := ⟨fun i x hx => by
    obtain ⟨b', o', h5, h6⟩ := hce i x hx
    cases h5
    exact h6⟩
  clear hce
  have HLl := Aside0.mk hl
  clear hl
  obtain ⟨ln, hln⟩ : ∃ ln, ln = l.length := ⟨_, rfl⟩
  rw [← hln]
  have HLn := Aside0.mk hln
  have HLEN := Aside0.mk hlen
  have HOK := Aside0.mk hok
  obtain ⟨A0, c0, rfl⟩ := Kd.R_slice h.files
  obtain ⟨A3, c3, rfl⟩ := Kd.R_slice h.opn
  obtain ⟨A2, c2, rfl⟩ := Kd.R_slice h.last
  have hlm := h.lt
  clear h hb hln hlen hok x0 x1 x4 x5
  go_enter Tryz.func25, Tryz.ntmps25
  go_wp2_with (first
    | ((with_reducible refine gate_dst (N := 3) rfl ?_); refine box_event ?hg (N := 3) ?hd (cs := #[.int .i64 n, .slice (some ⟨b, o, none⟩) ln cb]) (t := 43) ?hr ?_; (case hd => rfl); (case hg => rfl); (case hr => first | (go_simp; done) | (go_simp; rfl)); intro g hgb w1 hbox hb; have H1 := Aside0.mk (H.out.below hb); have B1 := Aside0.mk hb; have X1 := Aside0.mk hbox; have HG := Aside0.mk hgb; obtain ⟨q0, q1, q2, q3, q4, q5⟩ := H1.out.cells; clear hbox hb hgb x2 x3 q0 q1 q4 q5)
    | go_in)
  go_loopw [4, 5] (fun v vi wr => ∃ i : Nat, vi = .int .i64 i ∧ i ≤ R.opn.length ∧ i ≤ (max n 0).toNat ∧ Aside0 (Kd.R k116 116 wr 0 (fun _ => True) v (nth R.last R.opn i)) ∧ Aside0 (Below w1.heap.size w1 wr)) (fun _ vi _ => R.opn.length - (intOf vi).toNat)
  case atStart => exact ⟨0, rfl, Nat.zero_le _, Nat.zero_le _, ⟨Kd.R_mono H1.out.last (fun _ _ => trivial)⟩, ⟨Below.refl _ _⟩⟩
  case round =>
    obtain ⟨i, rfl, hi, hin, HV, HB⟩ := hrel
    clear q2 q3
    have HR := Aside0.mk (H1.out.below HB.out)
    have XR : Aside0 (wr.heap[g]? = some (.cells #[.int .i64 n, .slice (some ⟨b, o, none⟩) ln cb] 43 (0, 0))) := ⟨(HB.out.block g (blk_lt X1.out)).trans X1.out⟩
    obtain ⟨q0, q1, q2, q3, q4, q5⟩ := HR.out.cells
    have b0 := (blk_cell XR.out 0).trans rfl
    have b1 := (blk_cell XR.out 1).trans rfl
    obtain ⟨A4, c4, rfl, hlc4, hC4⟩ := Kd.R_reads HV.out
    clear q0 q1 q2 q4 q5
    by_cases ht : i < R.opn.length
    · have hd1 : decide ((i : Int) < (R.opn.length : Int)) = true := by simpa using ht
      by_cases hn : (i : Int) < n
      · have hd2 : decide ((i : Int) < n) = true := by simpa using hn
        obtain ⟨c, hc⟩ : ∃ c, R.opn[i]? = some c := ⟨_, List.getElem?_eq_getElem ht⟩
        have HN : Aside0 (nth R.last R.opn (i + 1) = doneL (nth R.last R.opn i) c) := ⟨nth_next hc⟩
        have HD := Aside0.mk (lodestarref02_done.calls _ A4 c4 (nth R.last R.opn i) c.f0 c.f1 c.f2 c.f3 _ wr hC4 hlc4 (done_f (nth R.last R.opn i) c (HLEN.out i)))
        obtain ⟨go, co, cl, he, hog, hgl, hcl, hcell⟩ := row_at HR.out.opn hc
        cases he
        have hcl2 := k114_open hcl
        subst hcl2
        have r0 := hcell 0 _ rfl
        have r1 := hcell 1 _ rfl
        have r2 := hcell 2 _ rfl
        have r3 := hcell 3 _ rfl
        rw [show k114.sz = 4 from rfl] at r0 r1 r2 r3
        rw [Nat.add_zero] at r0
        have Hin2 : Aside0 (i + 1 ≤ (max n 0).toNat) := ⟨by omega⟩
        clear hcl hcell hc hog hgl hin hlc4 hC4
        go_wp2_with (first
          | (go_at_call 47; (with_reducible refine (HD.out).mono ?_); rintro e w2 ⟨vN, rfl, hR, hb2⟩; have R2 := Aside0.mk hR; have B2 := Aside0.mk hb2; clear hR hb2)
          | go_in)
        have hms := meas ht
        exact ⟨⟨i + 1, by simp, by omega, Hin2.out, ⟨by rw [HN.out]; exact Kd.R_lower R2.out (Nat.zero_le _)⟩, ⟨(HB.out).trans (B2.out.mono HB.out.size)⟩⟩, by simpa [intOf] using hms⟩
      · have hd2 : decide ((i : Int) < n) = false := by simpa using hn
        have HE : Aside0 (nth R.last R.opn i = nth R.last R.opn (max n 0).toNat) := ⟨by rw [show i = (max n 0).toNat by omega]⟩
        rw [HE.out] at hC4 HV hlc4 ⊢
        obtain ⟨L, hL⟩ : ∃ L, L = nth R.last R.opn (max n 0).toNat := ⟨_, rfl⟩
        rw [← hL] at hC4 HV hlc4 ⊢
        have HL := Aside0.mk hL
        have HC4 := Aside0.mk hC4
        have HBL : Aside0 (Below w.heap.size w wr) := ⟨B1.out.trans (HB.out.mono B1.out.size)⟩
        have hll : L.length ≤ 1099511627776 := by rw [hL]; exact HLEN.out _
        clear hL hC4 hin hlc4 HB hi hon
        obtain ⟨wL, hwL⟩ : ∃ wL, wL = wr := ⟨_, rfl⟩
        subst hwL
        go_wp2
        go_loopw [6, 7, 8] (fun v6 v7 vi wq => ∃ i : Nat, vi = .int .i64 i ∧ i ≤ L.length ∧ Aside0 (Kd.R k83 83 wq wL.heap.size (fun _ => True) v6 ((filesR R.files l 0 L).take i)) ∧ Aside0 (Kd.R k116 116 wq wL.heap.size (fun _ => True) v7 ((namesFrom 0 L).take i)) ∧ Aside0 (Below wL.heap.size wL wq)) (fun _ _ vi _ => L.length - (intOf vi).toNat)
        case atStart => exact ⟨0, rfl, Nat.zero_le _, ⟨Kd.R_nil _ _ _ _ _⟩, ⟨Kd.R_nil _ _ _ _ _⟩, ⟨Below.refl _ _⟩⟩
        case round =>
          obtain ⟨i, rfl, hi, H6, H7, HB⟩ := hrel
          clear q3 b0 b1
          have HRq := Aside0.mk (HR.out.below HB.out)
          have XQ : Aside0 (wr.heap[g]? = some (.cells #[.int .i64 n, .slice (some ⟨b, o, none⟩) ln cb] 43 (0, 0))) := ⟨(HB.out.block g (blk_lt XR.out)).trans XR.out⟩
          obtain ⟨q0, q1, q2, q3, q4, q5⟩ := HRq.out.cells
          have b1 := (blk_cell XQ.out 1).trans rfl
          obtain ⟨FL, hFL⟩ : ∃ FL, FL = (filesR R.files l 0 L).take i := ⟨_, rfl⟩
          obtain ⟨NL, hNL⟩ : ∃ NL, NL = (namesFrom 0 L).take i := ⟨_, rfl⟩
          rw [← hFL] at H6
          rw [← hNL] at H7
          have HFL := Aside0.mk hFL
          have HNL := Aside0.mk hNL
          clear hFL hNL
          obtain ⟨Af, cf, hef⟩ := Kd.R_slice H6.out
          subst hef
          obtain ⟨An, cn, hen⟩ := Kd.R_slice H7.out
          subst hen
          by_cases hti : i < L.length
          · have hdi : decide ((i : Int) < (L.length : Int)) = true := by simpa using hti
            obtain ⟨x, hx⟩ : ∃ x, L[i]? = some x := ⟨_, List.getElem?_eq_getElem hti⟩
            obtain ⟨j, f, hxj, hf, hf0, hf1, hfs⟩ := HOK.out x (by rw [← HL.out]; exact List.mem_of_getElem? hx)
            obtain ⟨gn, cn2, cl, he, _, hgnl, hcl, hcell⟩ := row_at (Kd.R_below HV.out HB.out) hx
            cases he
            have hcl2 := k116_open hcl
            subst hcl2
            have r0 := hcell 0 _ rfl
            have r1 := hcell 1 _ rfl
            rw [show k116.sz = 2 from rfl] at r0 r1
            rw [Nat.add_zero] at r0
            rw [hxj] at r1
            have hjl := (List.getElem?_eq_some_iff.1 hf).1
            obtain ⟨gf, cf2, cs2, he9, hgf, _, y0, y1, _, _⟩ := file_at HRq.out.files hf
            cases he9
            have hmlt := HRq.out.lt
            have hgfl := blk_lt hgf
            have HRow := Aside0.mk (Kd.R_below HV.out HB.out)
            clear q1 q2 q3 q4 q5 hcl hcell b1 hgf
            have HFI : Aside0 ((filesR R.files l 0 L)[i]? = some (settleR f l i)) := ⟨by rw [filesR_get R.files l L 0 i x hx, hxj, Int.toNat_natCast, List.getD_eq_getElem?_getD, hf, Nat.zero_add]; rfl⟩
            have HNI : Aside0 ((namesFrom 0 L)[i]? = some ⟨x.f0, (i : Int)⟩) := ⟨by rw [namesFrom_get L 0 i x hx, Nat.zero_add]⟩
            have HX := Aside0.mk hx
            have hml : (L.length : Int) ≤ 1099511627776 := by omega
            clear hx hf hxj
            go_wp2
            go_region
            have B9 : Aside0 (Below wr.heap.size wr (wr.alloc (.cells #[.string f.f0, .int .i64 f.f1] 83)).drew) := ⟨below_drew1 (below_alloc (Below.refl _ _) _)⟩
            have X9 : Aside0 ((wr.alloc (.cells #[.string f.f0, .int .i64 f.f1] 83)).drew.heap[wr.heap.size]? = some (.cells #[.string f.f0, .int .i64 f.f1] 83 (0, 0))) := ⟨heap_alloc_new wr _⟩
            generalize (wr.alloc (.cells #[.string f.f0, .int .i64 f.f1] 83)).drew = w9 at B9 X9 ⊢
            have hglt := blk_lt XQ.out
            have XG : Aside0 (w9.heap[g]? = some (.cells #[.int .i64 n, .slice (some ⟨b, o, none⟩) ln cb] 43 (0, 0))) := ⟨(B9.out.block g hglt).trans XQ.out⟩
            have BW : Aside0 (Below wL.heap.size wL w9) := ⟨HB.out.trans (B9.out.mono HB.out.size)⟩
            have b1 := (blk_cell XG.out 1).trans rfl
            have z0 := (blk_cell X9.out 0).trans rfl
            have z1 := (blk_cell X9.out 1).trans rfl
            have H6w : Aside0 (Kd.R k83 83 w9 wL.heap.size (fun _ => True) (.slice Af FL.length cf) FL) := ⟨Kd.R_below H6.out B9.out⟩
            have H7w : Aside0 (Kd.R k116 116 w9 wL.heap.size (fun _ => True) (.slice An NL.length cn) NL) := ⟨Kd.R_below H7.out B9.out⟩
            have HL6 : Aside0 (FL.length ≤ 1099511627776) := ⟨by rw [HFL.out, List.length_take, filesR_len]; omega⟩
            have HL7 : Aside0 (NL.length ≤ 1099511627776) := ⟨by rw [HNL.out, List.length_take, namesFrom_len]; omega⟩
            generalize wr.heap.size = gb at X9 z0 z1 ⊢
            clear q0 y0 y1 r0 r1 hmlt hgfl hgnl hglt B9 hjl
            obtain ⟨xv, hxv, hxd⟩ := go_get l i HLl.out
            have h6 := HCL.out (i % l.length) xv hxv
            rw [← HLn.out] at h6
            have hblt := World.block_lt_of_cell? w _ h6
            have hcw : w9.cell? ⟨b, o + i % ln, none⟩ = some (.int .i64 xv) := (World.cell?_of_block (w := w) (w' := w9) (a := ⟨b, o + i % ln, none⟩) ((BW.out.mono HBL.out.size |> HBL.out.trans).block b hblt)).trans h6
            have hlp : 0 < ln := by rw [HLn.out]; exact List.length_pos_iff.2 HLl.out
            have hl0 : decide ((0 : Int) < (ln : Int)) = true := by simpa using hlp
            have hl1 : decide (0 < ln) = true := by simpa using hlp
            have hrb : 0 ≤ (i : Int) % (ln : Int) ∧ (i : Int) % (ln : Int) < (ln : Int) := ⟨Int.emod_nonneg _ (by omega), Int.emod_lt_of_pos _ (by omega)⟩
            have HSE : Aside0 (settleR f l i = ⟨f.f0.extract 0 (f.f1 + max 0 (min xv ((f.f0.size : Int) - f.f1))).toNat, ((f.f0.extract 0 (f.f1 + max 0 (min xv ((f.f0.size : Int) - f.f1))).toNat).size : Int)⟩) := ⟨by
              unfold settleR
              rw [if_neg HLl.out, hxd, ByteArray.size_extract]
              congr 1
              omega⟩
            have hsl : 0 ≤ f.f1 + max 0 (min xv ((f.f0.size : Int) - f.f1)) ∧ f.f1 + max 0 (min xv ((f.f0.size : Int) - f.f1)) ≤ (f.f0.size : Int) := by omega
            have HSL := Aside0.mk hsl
            clear h6 hblt hxv hxd hsl
            go_upto_if 60 with fail
            go_cut [10] from 61 to 77 (fun v wx => v = .int .i64 (max 0 (min xv ((f.f0.size : Int) - f.f1))) ∧ wx = w9.drew)
            case first =>
              go_wp2
              go_region
              go_wp2
              go_meet
              exact ⟨rfl, rfl⟩
            case rest =>
            obtain ⟨rfl, rfl⟩ := hcut
            have BWd : Aside0 (Below wL.heap.size wL w9.drew) := ⟨below_drew1 BW.out⟩
            have H6d := Aside0.mk (Kd.R_drew H6w.out)
            have H7d := Aside0.mk (Kd.R_drew H7w.out)
            have X9d : Aside0 (w9.drew.heap[gb]? = some (.cells #[.string f.f0, .int .i64 f.f1] 83 (0, 0))) := ⟨X9.out⟩
            clear z0 z1 b1 hcw X9 XG BW H6w H7w
            generalize w9.drew = wD at BWd H6d H7d X9d ⊢
            have z0 := (blk_cell X9d.out 0).trans rfl
            have z1 := (blk_cell X9d.out 1).trans rfl
            generalize max 0 (min xv ((f.f0.size : Int) - f.f1)) = z at HSE HSL ⊢
            obtain ⟨hsl1, hsl2⟩ := HSL.out
            clear hrb hlp hl0 hl1
            go_upto_region 16 with fail
            obtain ⟨E, hE⟩ : ∃ E, f.f0.extract 0 (f.f1 + z).toNat = E := ⟨_, rfl⟩
            have HEE := Aside0.mk hE
            rw [hE]
            clear hE hsl1 hsl2 hf0 hf1 hfs
            (try generalize f.f1 + z = q5)
            go_wp2_with (first
              | ((with_reducible refine gate_builtin (b := .append) (xs := #[.tmp 85, .tmp 90]) rfl ?_); at_builtin; refine Kd.R_append k83 (w0 := wL) wL.heap.size rfl (.tmp 85) (.tmp 90) 27 83 (.agg #[.string ⟨#[]⟩, .int .i64 0]) 24 rfl Tryz.underlying27 info87 rfl (by decide) (by omega) _ FL ⟨E, (E.size : Int)⟩ [.string E, .int .i64 (E.size : Int)] (fun _ => True) (fun _ => False) rfl rfl ?aP (fun _ hk => hk.elim) (fun _ _ => trivial) ?aO ?aB ?aS ?aL ?_; (case aP => exact k83_mkM _ _ _ ⟨E, (E.size : Int)⟩); (case aB => exact BWd.out); (case aO => exact H6d.out); (case aS => exact BWd.out.size); (case aL => have := HL6.out; omega); intro v10 w10 ho hb hg hat; have H6x := Aside0.mk ho; have B10 := Aside0.mk hb; have H7x := Aside0.mk (Kd.R_over H7d.out H6d.out (by decide) hg); obtain ⟨gn2, cn3, cl, he, _, _, hcl, hcell⟩ := row_at (Kd.R_below HV.out hb) HX.out; cases he; have hcl2 := k116_open hcl; subst hcl2; have r0 := hcell 0 _ rfl; rw [show k116.sz = 2 from rfl, Nat.add_zero] at r0; clear ho hb hg hat hcl hcell z0 z1)
              | ((with_reducible refine gate_builtin (b := .append) (xs := #[.tmp 92, .tmp 100]) rfl ?_); at_builtin; refine Kd.R_append k116 (w0 := wL) wL.heap.size rfl (.tmp 92) (.tmp 100) 28 116 (.agg #[.string ⟨#[]⟩, .int .i64 0]) 24 rfl Tryz.underlying28 info95y rfl (by decide) (by omega) _ NL ⟨x.f0, (i : Int)⟩ [.string x.f0, .int .i64 (i : Int)] (fun _ => True) (fun _ => False) rfl rfl ?aP (fun _ hk => hk.elim) (fun _ _ => trivial) ?aO ?aB ?aS ?aL ?_; (case aP => exact k116_mkM _ _ _ ⟨x.f0, (i : Int)⟩); (case aB => exact B10.out); (case aO => exact H7x.out); (case aS => exact B10.out.size); (case aL => have := HL7.out; omega); intro v11 w11 ho hb hg hat; have H7y := Aside0.mk ho; have B11 := Aside0.mk hb; have H6y := Aside0.mk (Kd.R_over H6x.out H7x.out (by decide) hg); clear ho hb hg hat r0)
              | go_in)
            have hms := meas hti
            exact ⟨⟨i + 1, by simp, by omega, ⟨by rw [take_next HFI.out, HSE.out, HEE.out, ← HFL.out]; exact H6y.out⟩, ⟨by rw [take_next HNI.out, ← HNL.out]; exact H7y.out⟩, B11⟩, by simpa [intOf] using hms⟩
          · have hdi : decide ((i : Int) < (L.length : Int)) = false := by simpa using hti
            have hie : i = L.length := by omega
            have HE6 : Aside0 (FL = filesR R.files l 0 L) := ⟨HFL.out.trans (List.take_of_length_le (by rw [filesR_len]; omega))⟩
            have HE7 : Aside0 (NL = namesFrom 0 L) := ⟨HNL.out.trans (List.take_of_length_le (by rw [namesFrom_len]; omega))⟩
            have qf0 := HRq.out.frozen 0
            have qf1 := HRq.out.frozen 1
            have qf2 := HRq.out.frozen 2
            have qf3 := HRq.out.frozen 3
            have qf4 := HRq.out.frozen 4
            clear hie b1
            rw [HE6.out] at H6 ⊢
            rw [HE7.out] at H7 ⊢
            go_wp2
            refine bodyPost_end (results_none rfl _ _ _) rfl ?_
            have hLn : wL.heap.size ≤ wr.heap.size := HB.out.size
            have BWw : Below w.heap.size w wr := HBL.out.trans (HB.out.mono HBL.out.size)
            have M6 := row_mine (own := own) (w := w) (w1 := wL) H6.out HBL.out.size
            have M7 := row_mine (own := own) (w := w) (w1 := wL) H7.out HBL.out.size
            have hA := (H.out.below BWw).more (wa := w)
            have hA1 := hA.setFiles M6
            have M7a := Kd.R_set M7 hA.blk (by decide) 0 (.slice Af (filesR R.files l 0 L).length cf)
            have hA2 := hA1.setNow M7a
            have M7b := Kd.R_set M7a hA1.blk (by decide) 1 (.slice An (namesFrom 0 L).length cn)
            have hA3 := hA2.setLast M7b
            have hA4 := hA3.setOpn (v := .slice none 0 0) (l := []) (Kd.R_nil _ _ _ _ _)
            have hA5 := hA4.setFaults (v := .slice none 0 0) (l := []) (Kd.R_nil _ _ _ _ _)
            have K5 : Kept own w (((((wr.setCell ⟨m, 0, none⟩ (.slice Af (filesR R.files l 0 L).length cf)).setCell ⟨m, 1, none⟩ (.slice An (namesFrom 0 L).length cn)).setCell ⟨m, 2, none⟩ (.slice An (namesFrom 0 L).length cn)).setCell ⟨m, 3, none⟩ (.slice none 0 0)).setCell ⟨m, 4, none⟩ (.slice none 0 0)) := kput (kput (kput (kput (kput (kbelow (Kept.refl own w) BWw) H.out.ownm _ _) H.out.ownm _ _) H.out.ownm _ _) H.out.ownm _ _) H.out.ownm _ _
            have hfin : R.crashR n l = { R with files := filesR R.files l 0 L, now := namesFrom 0 L, last := namesFrom 0 L, opn := [], faults := [] } := by unfold RS.crashR; rw [← HL.out]
            rw [hfin]
            exact ⟨rfl, ⟨_, _, _, _, _, hA5.lift (fun k hk => hk.imp id (·.1)) (fun k hk => Nat.lt_of_lt_of_le (H.out.bnd k hk) K5.size)⟩, K5⟩
    · have hd1 : decide ((i : Int) < (R.opn.length : Int)) = false := by simpa using ht
      have HE : Aside0 (nth R.last R.opn i = nth R.last R.opn (max n 0).toNat) := ⟨nth_past (by omega) (by omega)⟩
      rw [HE.out] at hC4 HV hlc4 ⊢
      obtain ⟨L, hL⟩ : ∃ L, L = nth R.last R.opn (max n 0).toNat := ⟨_, rfl⟩
      rw [← hL] at hC4 HV hlc4 ⊢
      have HL := Aside0.mk hL
      have HC4 := Aside0.mk hC4
      have HBL : Aside0 (Below w.heap.size w wr) := ⟨B1.out.trans (HB.out.mono B1.out.size)⟩
      have hll : L.length ≤ 1099511627776 := by rw [hL]; exact HLEN.out _
      clear hL hC4 hin hlc4 HB hi hon
      obtain ⟨wL, hwL⟩ : ∃ wL, wL = wr := ⟨_, rfl⟩
      subst hwL
      go_wp2
      go_loopw [6, 7, 8] (fun v6 v7 vi wq => ∃ i : Nat, vi = .int .i64 i ∧ i ≤ L.length ∧ Aside0 (Kd.R k83 83 wq wL.heap.size (fun _ => True) v6 ((filesR R.files l 0 L).take i)) ∧ Aside0 (Kd.R k116 116 wq wL.heap.size (fun _ => True) v7 ((namesFrom 0 L).take i)) ∧ Aside0 (Below wL.heap.size wL wq)) (fun _ _ vi _ => L.length - (intOf vi).toNat)
      case atStart => exact ⟨0, rfl, Nat.zero_le _, ⟨Kd.R_nil _ _ _ _ _⟩, ⟨Kd.R_nil _ _ _ _ _⟩, ⟨Below.refl _ _⟩⟩
      case round =>
        obtain ⟨i, rfl, hi, H6, H7, HB⟩ := hrel
        clear q3 b0 b1
        have HRq := Aside0.mk (HR.out.below HB.out)
        have XQ : Aside0 (wr.heap[g]? = some (.cells #[.int .i64 n, .slice (some ⟨b, o, none⟩) ln cb] 43 (0, 0))) := ⟨(HB.out.block g (blk_lt XR.out)).trans XR.out⟩
        obtain ⟨q0, q1, q2, q3, q4, q5⟩ := HRq.out.cells
        have b1 := (blk_cell XQ.out 1).trans rfl
        obtain ⟨FL, hFL⟩ : ∃ FL, FL = (filesR R.files l 0 L).take i := ⟨_, rfl⟩
        obtain ⟨NL, hNL⟩ : ∃ NL, NL = (namesFrom 0 L).take i := ⟨_, rfl⟩
        rw [← hFL] at H6
        rw [← hNL] at H7
        have HFL := Aside0.mk hFL
        have HNL := Aside0.mk hNL
        clear hFL hNL
        obtain ⟨Af, cf, hef⟩ := Kd.R_slice H6.out
        subst hef
        obtain ⟨An, cn, hen⟩ := Kd.R_slice H7.out
        subst hen
        by_cases hti : i < L.length
        · have hdi : decide ((i : Int) < (L.length : Int)) = true := by simpa using hti
          obtain ⟨x, hx⟩ : ∃ x, L[i]? = some x := ⟨_, List.getElem?_eq_getElem hti⟩
          obtain ⟨j, f, hxj, hf, hf0, hf1, hfs⟩ := HOK.out x (by rw [← HL.out]; exact List.mem_of_getElem? hx)
          obtain ⟨gn, cn2, cl, he, _, hgnl, hcl, hcell⟩ := row_at (Kd.R_below HV.out HB.out) hx
          cases he
          have hcl2 := k116_open hcl
          subst hcl2
          have r0 := hcell 0 _ rfl
          have r1 := hcell 1 _ rfl
          rw [show k116.sz = 2 from rfl] at r0 r1
          rw [Nat.add_zero] at r0
          rw [hxj] at r1
          have hjl := (List.getElem?_eq_some_iff.1 hf).1
          obtain ⟨gf, cf2, cs2, he9, hgf, _, y0, y1, _, _⟩ := file_at HRq.out.files hf
          cases he9
          have hmlt := HRq.out.lt
          have hgfl := blk_lt hgf
          have HRow := Aside0.mk (Kd.R_below HV.out HB.out)
          clear q1 q2 q3 q4 q5 hcl hcell b1 hgf
          have HFI : Aside0 ((filesR R.files l 0 L)[i]? = some (settleR f l i)) := ⟨by rw [filesR_get R.files l L 0 i x hx, hxj, Int.toNat_natCast, List.getD_eq_getElem?_getD, hf, Nat.zero_add]; rfl⟩
          have HNI : Aside0 ((namesFrom 0 L)[i]? = some ⟨x.f0, (i : Int)⟩) := ⟨by rw [namesFrom_get L 0 i x hx, Nat.zero_add]⟩
          have HX := Aside0.mk hx
          have hml : (L.length : Int) ≤ 1099511627776 := by omega
          clear hx hf hxj
          go_wp2
          go_region
          have B9 : Aside0 (Below wr.heap.size wr (wr.alloc (.cells #[.string f.f0, .int .i64 f.f1] 83)).drew) := ⟨below_drew1 (below_alloc (Below.refl _ _) _)⟩
          have X9 : Aside0 ((wr.alloc (.cells #[.string f.f0, .int .i64 f.f1] 83)).drew.heap[wr.heap.size]? = some (.cells #[.string f.f0, .int .i64 f.f1] 83 (0, 0))) := ⟨heap_alloc_new wr _⟩
          generalize (wr.alloc (.cells #[.string f.f0, .int .i64 f.f1] 83)).drew = w9 at B9 X9 ⊢
          have hglt := blk_lt XQ.out
          have XG : Aside0 (w9.heap[g]? = some (.cells #[.int .i64 n, .slice (some ⟨b, o, none⟩) ln cb] 43 (0, 0))) := ⟨(B9.out.block g hglt).trans XQ.out⟩
          have BW : Aside0 (Below wL.heap.size wL w9) := ⟨HB.out.trans (B9.out.mono HB.out.size)⟩
          have b1 := (blk_cell XG.out 1).trans rfl
          have z0 := (blk_cell X9.out 0).trans rfl
          have z1 := (blk_cell X9.out 1).trans rfl
          have H6w : Aside0 (Kd.R k83 83 w9 wL.heap.size (fun _ => True) (.slice Af FL.length cf) FL) := ⟨Kd.R_below H6.out B9.out⟩
          have H7w : Aside0 (Kd.R k116 116 w9 wL.heap.size (fun _ => True) (.slice An NL.length cn) NL) := ⟨Kd.R_below H7.out B9.out⟩
          have HL6 : Aside0 (FL.length ≤ 1099511627776) := ⟨by rw [HFL.out, List.length_take, filesR_len]; omega⟩
          have HL7 : Aside0 (NL.length ≤ 1099511627776) := ⟨by rw [HNL.out, List.length_take, namesFrom_len]; omega⟩
          generalize wr.heap.size = gb at X9 z0 z1 ⊢
          clear q0 y0 y1 r0 r1 hmlt hgfl hgnl hglt B9 hjl
          obtain ⟨xv, hxv, hxd⟩ := go_get l i HLl.out
          have h6 := HCL.out (i % l.length) xv hxv
          rw [← HLn.out] at h6
          have hblt := World.block_lt_of_cell? w _ h6
          have hcw : w9.cell? ⟨b, o + i % ln, none⟩ = some (.int .i64 xv) := (World.cell?_of_block (w := w) (w' := w9) (a := ⟨b, o + i % ln, none⟩) ((BW.out.mono HBL.out.size |> HBL.out.trans).block b hblt)).trans h6
          have hlp : 0 < ln := by rw [HLn.out]; exact List.length_pos_iff.2 HLl.out
          have hl0 : decide ((0 : Int) < (ln : Int)) = true := by simpa using hlp
          have hl1 : decide (0 < ln) = true := by simpa using hlp
          have hrb : 0 ≤ (i : Int) % (ln : Int) ∧ (i : Int) % (ln : Int) < (ln : Int) := ⟨Int.emod_nonneg _ (by omega), Int.emod_lt_of_pos _ (by omega)⟩
          have HSE : Aside0 (settleR f l i = ⟨f.f0.extract 0 (f.f1 + max 0 (min xv ((f.f0.size : Int) - f.f1))).toNat, ((f.f0.extract 0 (f.f1 + max 0 (min xv ((f.f0.size : Int) - f.f1))).toNat).size : Int)⟩) := ⟨by
            unfold settleR
            rw [if_neg HLl.out, hxd, ByteArray.size_extract]
            congr 1
            omega⟩
          have hsl : 0 ≤ f.f1 + max 0 (min xv ((f.f0.size : Int) - f.f1)) ∧ f.f1 + max 0 (min xv ((f.f0.size : Int) - f.f1)) ≤ (f.f0.size : Int) := by omega
          have HSL := Aside0.mk hsl
          clear h6 hblt hxv hxd hsl
          go_upto_if 60 with fail
          go_cut [10] from 61 to 77 (fun v wx => v = .int .i64 (max 0 (min xv ((f.f0.size : Int) - f.f1))) ∧ wx = w9.drew)
          case first =>
            go_wp2
            go_region
            go_wp2
            go_meet
            exact ⟨rfl, rfl⟩
          case rest =>
          obtain ⟨rfl, rfl⟩ := hcut
          have BWd : Aside0 (Below wL.heap.size wL w9.drew) := ⟨below_drew1 BW.out⟩
          have H6d := Aside0.mk (Kd.R_drew H6w.out)
          have H7d := Aside0.mk (Kd.R_drew H7w.out)
          have X9d : Aside0 (w9.drew.heap[gb]? = some (.cells #[.string f.f0, .int .i64 f.f1] 83 (0, 0))) := ⟨X9.out⟩
          clear z0 z1 b1 hcw X9 XG BW H6w H7w
          generalize w9.drew = wD at BWd H6d H7d X9d ⊢
          have z0 := (blk_cell X9d.out 0).trans rfl
          have z1 := (blk_cell X9d.out 1).trans rfl
          generalize max 0 (min xv ((f.f0.size : Int) - f.f1)) = z at HSE HSL ⊢
          obtain ⟨hsl1, hsl2⟩ := HSL.out
          clear hrb hlp hl0 hl1
          go_upto_region 16 with fail
          obtain ⟨E, hE⟩ : ∃ E, f.f0.extract 0 (f.f1 + z).toNat = E := ⟨_, rfl⟩
          have HEE := Aside0.mk hE
          rw [hE]
          clear hE hsl1 hsl2 hf0 hf1 hfs
          (try generalize f.f1 + z = q5)
          go_wp2_with (first
            | ((with_reducible refine gate_builtin (b := .append) (xs := #[.tmp 85, .tmp 90]) rfl ?_); at_builtin; refine Kd.R_append k83 (w0 := wL) wL.heap.size rfl (.tmp 85) (.tmp 90) 27 83 (.agg #[.string ⟨#[]⟩, .int .i64 0]) 24 rfl Tryz.underlying27 info87 rfl (by decide) (by omega) _ FL ⟨E, (E.size : Int)⟩ [.string E, .int .i64 (E.size : Int)] (fun _ => True) (fun _ => False) rfl rfl ?aP (fun _ hk => hk.elim) (fun _ _ => trivial) ?aO ?aB ?aS ?aL ?_; (case aP => exact k83_mkM _ _ _ ⟨E, (E.size : Int)⟩); (case aB => exact BWd.out); (case aO => exact H6d.out); (case aS => exact BWd.out.size); (case aL => have := HL6.out; omega); intro v10 w10 ho hb hg hat; have H6x := Aside0.mk ho; have B10 := Aside0.mk hb; have H7x := Aside0.mk (Kd.R_over H7d.out H6d.out (by decide) hg); obtain ⟨gn2, cn3, cl, he, _, _, hcl, hcell⟩ := row_at (Kd.R_below HV.out hb) HX.out; cases he; have hcl2 := k116_open hcl; subst hcl2; have r0 := hcell 0 _ rfl; rw [show k116.sz = 2 from rfl, Nat.add_zero] at r0; clear ho hb hg hat hcl hcell z0 z1)
            | ((with_reducible refine gate_builtin (b := .append) (xs := #[.tmp 92, .tmp 100]) rfl ?_); at_builtin; refine Kd.R_append k116 (w0 := wL) wL.heap.size rfl (.tmp 92) (.tmp 100) 28 116 (.agg #[.string ⟨#[]⟩, .int .i64 0]) 24 rfl Tryz.underlying28 info95y rfl (by decide) (by omega) _ NL ⟨x.f0, (i : Int)⟩ [.string x.f0, .int .i64 (i : Int)] (fun _ => True) (fun _ => False) rfl rfl ?aP (fun _ hk => hk.elim) (fun _ _ => trivial) ?aO ?aB ?aS ?aL ?_; (case aP => exact k116_mkM _ _ _ ⟨x.f0, (i : Int)⟩); (case aB => exact B10.out); (case aO => exact H7x.out); (case aS => exact B10.out.size); (case aL => have := HL7.out; omega); intro v11 w11 ho hb hg hat; have H7y := Aside0.mk ho; have B11 := Aside0.mk hb; have H6y := Aside0.mk (Kd.R_over H6x.out H7x.out (by decide) hg); clear ho hb hg hat r0)
            | go_in)
          have hms := meas hti
          exact ⟨⟨i + 1, by simp, by omega, ⟨by rw [take_next HFI.out, HSE.out, HEE.out, ← HFL.out]; exact H6y.out⟩, ⟨by rw [take_next HNI.out, ← HNL.out]; exact H7y.out⟩, B11⟩, by simpa [intOf] using hms⟩
        · have hdi : decide ((i : Int) < (L.length : Int)) = false := by simpa using hti
          have hie : i = L.length := by omega
          have HE6 : Aside0 (FL = filesR R.files l 0 L) := ⟨HFL.out.trans (List.take_of_length_le (by rw [filesR_len]; omega))⟩
          have HE7 : Aside0 (NL = namesFrom 0 L) := ⟨HNL.out.trans (List.take_of_length_le (by rw [namesFrom_len]; omega))⟩
          have qf0 := HRq.out.frozen 0
          have qf1 := HRq.out.frozen 1
          have qf2 := HRq.out.frozen 2
          have qf3 := HRq.out.frozen 3
          have qf4 := HRq.out.frozen 4
          clear hie b1
          rw [HE6.out] at H6 ⊢
          rw [HE7.out] at H7 ⊢
          go_wp2
          refine bodyPost_end (results_none rfl _ _ _) rfl ?_
          have hLn : wL.heap.size ≤ wr.heap.size := HB.out.size
          have BWw : Below w.heap.size w wr := HBL.out.trans (HB.out.mono HBL.out.size)
          have M6 := row_mine (own := own) (w := w) (w1 := wL) H6.out HBL.out.size
          have M7 := row_mine (own := own) (w := w) (w1 := wL) H7.out HBL.out.size
          have hA := (H.out.below BWw).more (wa := w)
          have hA1 := hA.setFiles M6
          have M7a := Kd.R_set M7 hA.blk (by decide) 0 (.slice Af (filesR R.files l 0 L).length cf)
          have hA2 := hA1.setNow M7a
          have M7b := Kd.R_set M7a hA1.blk (by decide) 1 (.slice An (namesFrom 0 L).length cn)
          have hA3 := hA2.setLast M7b
          have hA4 := hA3.setOpn (v := .slice none 0 0) (l := []) (Kd.R_nil _ _ _ _ _)
          have hA5 := hA4.setFaults (v := .slice none 0 0) (l := []) (Kd.R_nil _ _ _ _ _)
          have K5 : Kept own w (((((wr.setCell ⟨m, 0, none⟩ (.slice Af (filesR R.files l 0 L).length cf)).setCell ⟨m, 1, none⟩ (.slice An (namesFrom 0 L).length cn)).setCell ⟨m, 2, none⟩ (.slice An (namesFrom 0 L).length cn)).setCell ⟨m, 3, none⟩ (.slice none 0 0)).setCell ⟨m, 4, none⟩ (.slice none 0 0)) := kput (kput (kput (kput (kput (kbelow (Kept.refl own w) BWw) H.out.ownm _ _) H.out.ownm _ _) H.out.ownm _ _) H.out.ownm _ _) H.out.ownm _ _
          have hfin : R.crashR n l = { R with files := filesR R.files l 0 L, now := namesFrom 0 L, last := namesFrom 0 L, opn := [], faults := [] } := by unfold RS.crashR; rw [← HL.out]
          rw [hfin]
          exact ⟨rfl, ⟨_, _, _, _, _, hA5.lift (fun k hk => hk.imp id (·.1)) (fun k hk => Nat.lt_of_lt_of_le (H.out.bnd k hk) K5.size)⟩, K5⟩
end
end Go.Proofs.YtomhgoahhlnjpaaGreatDoor.Rf

/- The document's own disk, walked: Crash. -/
namespace Go.Proofs.YtomhgoahhlnjpaaGreatDoor.Rf
open Go.RowKit Go.Proofs.YtomhgoahhlnjpaaGreatDoorW.PrintWords Go.Proofs.YtomhgoahhlnjpaaGreatDoor.PRef Go.Proofs.YtomhgoahhlnjpaaGreatDoor.Dk
variable {own : Nat → Prop} {w w' : World} {m : Nat} {R : RS} {v0 v1 v2 v3 v4 : Value}
theorem crash_r (h : RAt own w m R v0 v1 v2 v3 v4) (n : Int) (l : List Int) {vb : Value} (hb : IntsAt w vb l)
    (hlen : ∀ i, (nth R.last R.opn i).length ≤ 1099511627776) (hon : R.opn.length ≤ 1099511627776)
    (hok : ∀ x ∈ nth R.last R.opn (max n 0).toNat, ∃ (j : Nat) (f : S83), x.f1 = (j : Int) ∧ R.files[j]? = some f ∧ 0 ≤ f.f1 ∧ f.f1 ≤ (f.f0.size : Int) ∧ f.f0.size ≤ 1099511627776) :
    Calls Tryz.prog 25 #[.pointer (some ⟨m, 0, none⟩), .agg #[.int .i64 n, vb]] w fun e w' => e = .returned (.tuple #[]) ∧ (∃ v0' v1' v2' v3' v4', RAt (Dk.more own w w') w' m (R.crashR n l) v0' v1' v2' v3' v4') ∧ Kept own w w' := by
  by_cases hl : l = []
  · exact crash_r0 h n l hb hl hlen hon hok
  · exact crash_r1 h n l hb hl hlen hon hok
end Go.Proofs.YtomhgoahhlnjpaaGreatDoor.Rf
