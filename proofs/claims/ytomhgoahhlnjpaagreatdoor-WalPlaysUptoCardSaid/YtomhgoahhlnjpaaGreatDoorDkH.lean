/- The disk's methods, walked: Write. -/
import Derived.Test.YtomhgoahhlnjpaaGreatDoorDks
namespace Go.Proofs.YtomhgoahhlnjpaaGreatDoor.Dk
open Go.RowKit Go.Maps Go.ChangeMaps Go.WideAt Go.WideMaps Go.Proofs.YtomhgoahhlnjpaaGreatDoorW.PrintWords

/-- bytes are laid behind a file, which is made if there is none -/
def DS.lay (T : DS) (name s : ByteArray) : DS :=
  match T.find name with
  | some i => T.setFile i ((T.fileAt i).1 ++ s, (T.fileAt i).2)
  | none => { T with D := T.D.put (keyL name) (refD (some T.fs.length)), puts := T.puts + 1, fs := T.fs ++ [((⟨#[]⟩ : ByteArray) ++ s, 0)], opn := T.opn ++ [⟨⟨#[]⟩, name, none, 0⟩] }
def cutS (s : ByteArray) (n : Int) : ByteArray := s.extract 0 (min n (s.size : Int)).toNat
def DS.write (S : DS) (name s : ByteArray) : DS × Int × Int :=
  if name.toList.isEmpty = true then (S, 0, 1)
  else if S.step.2.2 = 0 then (S.step.1.lay name s, s.size, 0)
  else if S.step.2.1.k = 2 then (S.step.1.lay name (cutS s S.step.2.1.n), ((cutS s S.step.2.1.n).size : Int), S.step.2.2)
  else (S.step.1, 0, S.step.2.2)
theorem step_n (S : DS) (h : ∀ f ∈ S.plan, 0 ≤ f.n) {T : DS} {f : Fault} {er : Int} (hS : S.step = (T, f, er)) (he : er ≠ 0) : 0 ≤ f.n := by
  unfold DS.step at hS
  split at hS
  · cases hS; exact absurd rfl he
  · rename_i g r e
    split at hS
    · cases hS
      exact h f ((List.dropWhile_suffix _).subset (by rw [e]; exact List.mem_cons_self ..))
    · cases hS; exact absurd rfl he
theorem write_nil (name s : ByteArray) (w : World) : Calls Tryz.prog 42 #[.pointer none, .string name, .string s] w fun e w' => e = .returned (.tuple #[.int .i64 0, .int .i64 1]) ∧ w' = w := by
  go_enter Tryz.func42, Tryz.ntmps42
  go_wp2
  go_ret2
  exact ⟨rfl, rfl⟩

set_option maxRecDepth 100000 in
set_option maxHeartbeats 4000000 in
theorem write_calls {own : Nat → Prop} {w : World} {d mb : Nat} {S : DS} {bs : List Nat} {vo vp : Value} (h : At own w d S mb bs vo vp) (name s : ByteArray) (hl : name.size ≤ maxLen) (h0 : 0 ≤ S.steps) (h1 : S.steps < 4611686018427387904) (hn : S.opn.length < 1099511627776) (hp : S.puts < maxLen)
    (hf : ∀ f ∈ S.fs, f.1.size + s.size ≤ maxLen) (hs : s.size ≤ maxLen) (hpl : ∀ f ∈ S.plan, 0 ≤ f.n) :
    Calls Tryz.prog 42 #[.pointer (some ⟨d, 0, none⟩), .string name, .string s] w fun e w' => e = .returned (.tuple #[.int .i64 (S.write name s).2.1, .int .i64 (S.write name s).2.2]) ∧ (∃ bs' vo' vp', At (more own w w') w' d (S.write name s).1 mb bs' vo' vp') ∧ Kept own w w' := by
  have H := Aside0.mk h
  have HL := Aside0.mk hl
  have H0 := Aside0.mk h0
  have H1 := Aside0.mk h1
  have HN := Aside0.mk hn
  have HP := Aside0.mk hp
  have HF := Aside0.mk hf
  have HSz := Aside0.mk hs
  have HPl := Aside0.mk hpl
  clear h hl h0 h1 hn hp hf hs hpl
  unfold DS.write
  cases ha : name.toList.isEmpty with
  | true =>
    simp only [if_true]
    go_enter Tryz.func42, Tryz.ntmps42
    go_wp2
    go_ret2
    exact ⟨rfl, ⟨_, _, _, H.out.more (Kept.refl _ _)⟩, Kept.refl _ _⟩
  | false =>
    simp only [Bool.false_eq_true, if_false]
    obtain ⟨T, f, er, hS⟩ : ∃ T f er, S.step = (T, f, er) := ⟨_, _, _, rfl⟩
    have HS := Aside0.mk hS
    rw [hS]
    have HN2 : Aside0 (T.opn.length < 1099511627776) := ⟨by have := step_opn S; rw [hS] at this; rw [this]; exact HN.out⟩
    have HP2 : Aside0 (T.puts < maxLen) := ⟨by have := step_puts S; rw [hS] at this; rw [this]; exact HP.out⟩
    have HF2 : Aside0 (∀ f ∈ T.fs, f.1.size + s.size ≤ maxLen) := ⟨by have := step_fs S; rw [hS] at this; rw [this]; exact HF.out⟩
    clear hS
    by_cases he : er = 0
    · subst he
      simp only [if_true]
      unfold DS.lay
      cases hfT : T.find name with
      | none =>
        have hv : Aside0 (fileV bs (T.find name) = .pointer none) := ⟨by rw [hfT]; rfl⟩
        clear hfT
        dsimp only
        go_enter Tryz.func42, Tryz.ntmps42
        go_wp2_with (first
          | (go_at_call 59; (with_reducible refine (step_told H.out H0.out H1.out HS.out).mono ?_); rintro e w1 ⟨rfl, ⟨vp1, hA⟩, hK⟩; have HA := Aside0.mk hA; have HK := Aside0.mk hK; clear hA hK)
          | ((with_reducible refine gate_dst (N := 8) rfl ?_); refine box_event ?hg (N := 8) ?hd (cs := #[.int .i64 0, .int .i64 0, .int .i64 0]) (t := 40) ?hr ?_; (case hd => rfl); (case hg => rfl); (case hr => first | (go_simp; done) | (go_simp; rfl)); intro g8 hg8 w2 hbox hb; have HA2 := Aside0.mk (HA.out.below hb); have HK2 := Aside0.mk (HK.out.trans (Kept.of_below (S := fun _ => False) hb) (fun _ h => h.elim)); have X2 := Aside0.mk hbox; have N2 : Aside0 (¬ own g8 ∧ w.heap.size ≤ g8) := ⟨⟨fun ho => (by have := HA.out.bnd _ ho; omega), (by have := HK.out.size; omega)⟩⟩; have a0 := blk_cell hbox 0; have a1 := blk_cell hbox 1; have a2 := blk_cell hbox 2; have af0 := blk_frozen hbox 0; have af1 := blk_frozen hbox 1; have af2 := blk_frozen hbox 2; clear hbox hb hg8)
          | ((with_reducible refine gate_store (t := 40) (p := 8) rfl ?_); refine store_event (t := 40) (p := 8) (v := .tmp 20) (w1 := ((w2.setCell ⟨g8, 0, none⟩ (.int .i64 f.s)).setCell ⟨g8, 1, none⟩ (.int .i64 f.k)).setCell ⟨g8, 2, none⟩ (.int .i64 f.n)) ?hg ?ho ?hn ?hr ?_; (case ho => rfl); (case hg => rfl); (case hn => rfl); (case hr => first | (go_simp; done) | (go_simp; rfl)); intro w3 hw3; have HA3 : Aside0 (At own w3 d T mb bs vo vp1) := ⟨(by rw [hw3]; exact ((HA2.out.setO N2.out.1 _ _).setO N2.out.1 _ _).setO N2.out.1 _ _)⟩; have HK3 : Aside0 (Kept own w w3) := ⟨(by rw [hw3]; exact ((HK2.out.setO (p := ⟨g8, 0, none⟩) N2.out.2 _).setO (p := ⟨g8, 1, none⟩) N2.out.2 _).setO (p := ⟨g8, 2, none⟩) N2.out.2 _)⟩; have X3 : Aside0 (w3.heap[g8]? = some (.cells #[.int .i64 f.s, .int .i64 f.k, .int .i64 f.n] 40 (0, 0))) := ⟨(by rw [hw3]; exact blk_put (blk_put (blk_put X2.out 0 _ rfl) 1 _ rfl) 2 _ rfl)⟩; obtain ⟨j0, j1, j2, j3⟩ := HA3.out.cells; have b1 := blk_cell X3.out 1; have b2 := blk_cell X3.out 2; clear hw3 a0 a1 a2 af0 af1 af2)
          | (at_lookup; refine wpList_lookup_dk _ rfl _ _ rfl HA3.out rfl name rfl HL.out _ hv.out ?_)
          | ((with_reducible refine gate_dst (N := 44) rfl ?_); refine box_event ?hg (N := 44) ?hd (cs := #[.string ⟨#[]⟩, .int .i64 0]) (t := 78) ?hr ?_; (case hd => rfl); (case hg => rfl); (case hr => first | (go_simp; done) | (go_simp; rfl)); intro gF hgF w4 hbox hb; have HA4 := Aside0.mk (HA3.out.newF hgF hb (⟨#[]⟩, 0) hbox); have HK4 := Aside0.mk (HK3.out.trans (Kept.of_below (S := fun _ => False) hb) (fun _ h => h.elim)); obtain ⟨l0, l1, l2, l3⟩ := HA4.out.cells; clear hbox hb hgF j0 j1 j2 j3)
          | (at_mapUpdate; refine wpList_store_dk rfl _ _ _ rfl HA4.out rfl name rfl HL.out HP2.out (some T.fs.length) (fun j hj => by cases hj; have := HA3.out.len; simp; omega) (.pointer (some ⟨gF, 0, none⟩)) rfl (by have := HA3.out.len; simp [fileV, ← this]) ?_; intro w5 hA5 hK5; have HA5 := Aside0.mk hA5; have HK5 := Aside0.mk (HK4.out.trans hK5 (more_in HK3.out.size)); obtain ⟨m0, m1, m2, m3⟩ := HA5.out.cells; have mf1 := HA5.out.frozen 1; have HD5 := Aside0.mk HA5.out.ne_opn; have HB5 := Aside0.mk HA5.out.blk; clear hA5 hK5 l0 l1 l2 l3)
          | (at_builtin; refine wpList_append_dk rfl (.tmp 55) (.tmp 58) rfl HA5.out [.string ⟨#[]⟩, .string name, .pointer none, .int .i64 0] ⟨⟨#[]⟩, name, none, 0⟩ rfl rfl rfl HN2.out ?_; intro A cc w6 hr hg hat; have z1 := (hg.cell m1 HD5.out); have zf1 := (frozen_grown (j := 1) hg HB5.out HD5.out); have HR := Aside0.mk hr; have HG := Aside0.mk hg; have HT := Aside0.mk hat; clear hr hg hat m0 m1 m2 m3 mf1)
          | ((with_reducible refine gate_store (t := 56) (p := 61) rfl ?_); refine store_event (t := 56) (p := 61) (v := .tmp 59) (w1 := w6.setCell ⟨d, 1, none⟩ (.slice A (T.opn.length + 1) cc)) ?hg ?ho ?hn ?hr ?_; (case ho => rfl); (case hg => rfl); (case hn => rfl); (case hr => first | (go_simp; done) | (go_simp; rfl)); intro w7 hw7; have HA7 : Aside0 (At (more (more own w3 w4) w5 w6) w7 d { T with D := T.D.put (keyL name) (refD (some T.fs.length)), puts := T.puts + 1, fs := T.fs ++ [(⟨#[]⟩, 0)], opn := T.opn ++ [⟨⟨#[]⟩, name, none, 0⟩] } mb (bs ++ [gF]) (.slice A (T.opn.length + 1) cc) vp1) := ⟨(by rw [hw7]; exact HA5.out.setOpn ⟨⟨#[]⟩, name, none, 0⟩ (fun j hj => by cases hj) HR.out HG.out HT.out)⟩; have HK7 : Aside0 (Kept own w w7) := ⟨(by rw [hw7]; exact (HK5.out.trans (Kept.of_grown (S := more own w3 w4) HG.out (fun k hk => HA5.out.owno k hk)) (more_in HK3.out.size)).trans (Kept.set (own := more own w3 w4) ⟨d, 1, none⟩ (.inl HA3.out.ownd) _) (more_in HK3.out.size))⟩; have hx := HA7.out.file T.fs.length gF (⟨#[]⟩, 0) (by rw [← HA3.out.len]; simp) (by simp); have x0 := blk_cell hx 0; have xf0 := blk_frozen hx 0; have xc : ¬ 9223372036854775807 < s.size := (by have := HSz.out; have h9 : maxLen = 9223372036854775807 := rfl; omega); clear hx hw7 z1 zf1)
          | go_in)
        go_ret2
        have hsz := HA7.out.setF (i := T.fs.length) (b := gF) (f := (⟨#[]⟩, 0)) (by rw [← HA3.out.len]; simp) (by simp) 0 (.string ((⟨#[]⟩ : ByteArray) ++ s)) ((⟨#[]⟩ : ByteArray) ++ s, 0) rfl
        have hfs : (T.fs ++ [((⟨#[]⟩ : ByteArray), (0 : Int))]).set T.fs.length ((⟨#[]⟩ : ByteArray) ++ s, 0) = T.fs ++ [((⟨#[]⟩ : ByteArray) ++ s, 0)] := by simp
        dsimp only at hsz
        rw [hfs] at hsz
        have hm : ∀ k, more (more own w3 w4) w5 w6 k → own k ∨ w.heap.size ≤ k := fun k hk => by
          rcases hk with hk | hk
          · exact more_in HK3.out.size k hk
          · have := HK5.out.size; exact .inr (by omega)
        have hK := HK7.out.trans (Kept.set (own := more (more own w3 w4) w5 w6) ⟨gF, 0, none⟩ (HA7.out.ownf gF (by simp)) (.string ((⟨#[]⟩ : ByteArray) ++ s))) hm
        exact ⟨rfl, ⟨_, _, _, hsz.lift hm (fun k hk => Nat.lt_of_lt_of_le (H.out.bnd k hk) hK.size)⟩, hK⟩
      | some i =>
        obtain ⟨fb, hfb⟩ : ∃ fb, fb = bs.getD i 0 := ⟨_, rfl⟩
        have hv : Aside0 (fileV bs (T.find name) = .pointer (some ⟨fb, 0, none⟩)) := ⟨by rw [hfT, hfb]; rfl⟩
        obtain ⟨fx, hfx⟩ : ∃ fx, fx = T.fileAt i := ⟨_, rfl⟩
        have HI : Aside0 (∀ {w1 : World} {vp1 : Value}, At own w1 d T mb bs vo vp1 → bs[i]? = some fb ∧ T.fs[i]? = some fx ∧ w1.heap[fb]? = some (.cells #[.string fx.1, .int .i64 fx.2] 78 (0, 0)) ∧ own fb) := ⟨fun hA => by rw [hfb, hfx]; exact hA.fileIn hfT⟩
        dsimp only
        rw [← hfx]
        clear hfb hfx hfT
        go_enter Tryz.func42, Tryz.ntmps42
        go_wp2_with (first
          | (go_at_call 59; (with_reducible refine (step_told H.out H0.out H1.out HS.out).mono ?_); rintro e w1 ⟨rfl, ⟨vp1, hA⟩, hK⟩; have HA := Aside0.mk hA; have HK := Aside0.mk hK; clear hA hK)
          | ((with_reducible refine gate_dst (N := 8) rfl ?_); refine box_event ?hg (N := 8) ?hd (cs := #[.int .i64 0, .int .i64 0, .int .i64 0]) (t := 40) ?hr ?_; (case hd => rfl); (case hg => rfl); (case hr => first | (go_simp; done) | (go_simp; rfl)); intro g8 hg8 w2 hbox hb; have HA2 := Aside0.mk (HA.out.below hb); have HK2 := Aside0.mk (HK.out.trans (Kept.of_below (S := fun _ => False) hb) (fun _ h => h.elim)); have X2 := Aside0.mk hbox; have N2 : Aside0 (¬ own g8 ∧ w.heap.size ≤ g8) := ⟨⟨fun ho => (by have := HA.out.bnd _ ho; omega), (by have := HK.out.size; omega)⟩⟩; have a0 := blk_cell hbox 0; have a1 := blk_cell hbox 1; have a2 := blk_cell hbox 2; have af0 := blk_frozen hbox 0; have af1 := blk_frozen hbox 1; have af2 := blk_frozen hbox 2; clear hbox hb hg8)
          | ((with_reducible refine gate_store (t := 40) (p := 8) rfl ?_); refine store_event (t := 40) (p := 8) (v := .tmp 20) (w1 := ((w2.setCell ⟨g8, 0, none⟩ (.int .i64 f.s)).setCell ⟨g8, 1, none⟩ (.int .i64 f.k)).setCell ⟨g8, 2, none⟩ (.int .i64 f.n)) ?hg ?ho ?hn ?hr ?_; (case ho => rfl); (case hg => rfl); (case hn => rfl); (case hr => first | (go_simp; done) | (go_simp; rfl)); intro w3 hw3; have HA3 : Aside0 (At own w3 d T mb bs vo vp1) := ⟨(by rw [hw3]; exact ((HA2.out.setO N2.out.1 _ _).setO N2.out.1 _ _).setO N2.out.1 _ _)⟩; have HK3 : Aside0 (Kept own w w3) := ⟨(by rw [hw3]; exact ((HK2.out.setO (p := ⟨g8, 0, none⟩) N2.out.2 _).setO (p := ⟨g8, 1, none⟩) N2.out.2 _).setO (p := ⟨g8, 2, none⟩) N2.out.2 _)⟩; have X3 : Aside0 (w3.heap[g8]? = some (.cells #[.int .i64 f.s, .int .i64 f.k, .int .i64 f.n] 40 (0, 0))) := ⟨(by rw [hw3]; exact blk_put (blk_put (blk_put X2.out 0 _ rfl) 1 _ rfl) 2 _ rfl)⟩; obtain ⟨j0, j1, j2, j3⟩ := HA3.out.cells; have b1 := blk_cell X3.out 1; have b2 := blk_cell X3.out 2; clear hw3 a0 a1 a2 af0 af1 af2)
          | (at_lookup; refine wpList_lookup_dk _ rfl _ _ rfl HA3.out rfl name rfl HL.out _ hv.out ?_; have hx := (HI.out HA3.out).2.2.1; have x0 := blk_cell hx 0; have xf0 := blk_frozen hx 0; clear hx; have xc : ¬ 9223372036854775807 < fx.1.size + s.size := (by have := HF2.out fx (List.mem_of_getElem? (HI.out HA3.out).2.1); have h9 : maxLen = 9223372036854775807 := rfl; omega))
          | go_in)
        go_ret2
        obtain ⟨h1, h2, h3, h4⟩ := HI.out HA3.out
        have hK := HK3.out.trans (Kept.set (own := own) ⟨fb, 0, none⟩ h4 (.string (fx.1 ++ s))) (fun _ hk => .inl hk)
        exact ⟨rfl, ⟨_, _, _, (HA3.out.setF h1 h2 0 _ (fx.1 ++ s, fx.2) rfl).more hK⟩, hK⟩
    · simp only [if_neg he]
      have hz : (er == 0) = false := by simpa using he
      have HFN : Aside0 (0 ≤ f.n) := ⟨step_n S HPl.out HS.out he⟩
      clear he
      by_cases hk : f.k = 2
      · have hk2 : (f.k == 2) = true := by simpa using hk
        simp only [if_pos hk]
        clear hk
        by_cases hle : f.n ≤ (s.size : Int)
        · have hsl : 0 ≤ f.n ∧ f.n ≤ (s.size : Int) := ⟨HFN.out, hle⟩
          have hct : cutS s f.n = s.extract 0 f.n.toNat := by unfold cutS; rw [Int.min_eq_left hle]
          rw [hct]
          clear hct
          obtain ⟨s2, hs2⟩ : ∃ s2, s.extract 0 f.n.toNat = s2 := ⟨_, rfl⟩
          have hs3 : s2.size ≤ s.size := by rw [← hs2]; simp; omega
          rw [hs2]
          unfold DS.lay
          cases hfT : T.find name with
          | none =>
            have hv : Aside0 (fileV bs (T.find name) = .pointer none) := ⟨by rw [hfT]; rfl⟩
            clear hfT
            dsimp only
            go_enter Tryz.func42, Tryz.ntmps42
            go_wp2_with (first
              | (go_at_call 59; (with_reducible refine (step_told H.out H0.out H1.out HS.out).mono ?_); rintro e w1 ⟨rfl, ⟨vp1, hA⟩, hK⟩; have HA := Aside0.mk hA; have HK := Aside0.mk hK; clear hA hK)
              | ((with_reducible refine gate_dst (N := 8) rfl ?_); refine box_event ?hg (N := 8) ?hd (cs := #[.int .i64 0, .int .i64 0, .int .i64 0]) (t := 40) ?hr ?_; (case hd => rfl); (case hg => rfl); (case hr => first | (go_simp; done) | (go_simp; rfl)); intro g8 hg8 w2 hbox hb; have HA2 := Aside0.mk (HA.out.below hb); have HK2 := Aside0.mk (HK.out.trans (Kept.of_below (S := fun _ => False) hb) (fun _ h => h.elim)); have X2 := Aside0.mk hbox; have N2 : Aside0 (¬ own g8 ∧ w.heap.size ≤ g8) := ⟨⟨fun ho => (by have := HA.out.bnd _ ho; omega), (by have := HK.out.size; omega)⟩⟩; have a0 := blk_cell hbox 0; have a1 := blk_cell hbox 1; have a2 := blk_cell hbox 2; have af0 := blk_frozen hbox 0; have af1 := blk_frozen hbox 1; have af2 := blk_frozen hbox 2; clear hbox hb hg8)
              | ((with_reducible refine gate_store (t := 40) (p := 8) rfl ?_); refine store_event (t := 40) (p := 8) (v := .tmp 20) (w1 := ((w2.setCell ⟨g8, 0, none⟩ (.int .i64 f.s)).setCell ⟨g8, 1, none⟩ (.int .i64 f.k)).setCell ⟨g8, 2, none⟩ (.int .i64 f.n)) ?hg ?ho ?hn ?hr ?_; (case ho => rfl); (case hg => rfl); (case hn => rfl); (case hr => first | (go_simp; done) | (go_simp; rfl)); intro w3 hw3; have HA3 : Aside0 (At own w3 d T mb bs vo vp1) := ⟨(by rw [hw3]; exact ((HA2.out.setO N2.out.1 _ _).setO N2.out.1 _ _).setO N2.out.1 _ _)⟩; have HK3 : Aside0 (Kept own w w3) := ⟨(by rw [hw3]; exact ((HK2.out.setO (p := ⟨g8, 0, none⟩) N2.out.2 _).setO (p := ⟨g8, 1, none⟩) N2.out.2 _).setO (p := ⟨g8, 2, none⟩) N2.out.2 _)⟩; have X3 : Aside0 (w3.heap[g8]? = some (.cells #[.int .i64 f.s, .int .i64 f.k, .int .i64 f.n] 40 (0, 0))) := ⟨(by rw [hw3]; exact blk_put (blk_put (blk_put X2.out 0 _ rfl) 1 _ rfl) 2 _ rfl)⟩; obtain ⟨j0, j1, j2, j3⟩ := HA3.out.cells; have b1 := blk_cell X3.out 1; have b2 := blk_cell X3.out 2; clear hw3 a0 a1 a2 af0 af1 af2)
              | (at_lookup; refine wpList_lookup_dk _ rfl _ _ rfl HA3.out rfl name rfl HL.out _ hv.out ?_)
              | ((with_reducible refine gate_dst (N := 44) rfl ?_); refine box_event ?hg (N := 44) ?hd (cs := #[.string ⟨#[]⟩, .int .i64 0]) (t := 78) ?hr ?_; (case hd => rfl); (case hg => rfl); (case hr => first | (go_simp; done) | (go_simp; rfl)); intro gF hgF w4 hbox hb; have HA4 := Aside0.mk (HA3.out.newF hgF hb (⟨#[]⟩, 0) hbox); have HK4 := Aside0.mk (HK3.out.trans (Kept.of_below (S := fun _ => False) hb) (fun _ h => h.elim)); obtain ⟨l0, l1, l2, l3⟩ := HA4.out.cells; clear hbox hb hgF j0 j1 j2 j3)
              | (at_mapUpdate; refine wpList_store_dk rfl _ _ _ rfl HA4.out rfl name rfl HL.out HP2.out (some T.fs.length) (fun j hj => by cases hj; have := HA3.out.len; simp; omega) (.pointer (some ⟨gF, 0, none⟩)) rfl (by have := HA3.out.len; simp [fileV, ← this]) ?_; intro w5 hA5 hK5; have HA5 := Aside0.mk hA5; have HK5 := Aside0.mk (HK4.out.trans hK5 (more_in HK3.out.size)); obtain ⟨m0, m1, m2, m3⟩ := HA5.out.cells; have mf1 := HA5.out.frozen 1; have HD5 := Aside0.mk HA5.out.ne_opn; have HB5 := Aside0.mk HA5.out.blk; clear hA5 hK5 l0 l1 l2 l3)
              | (at_builtin; refine wpList_append_dk rfl (.tmp 55) (.tmp 58) rfl HA5.out [.string ⟨#[]⟩, .string name, .pointer none, .int .i64 0] ⟨⟨#[]⟩, name, none, 0⟩ rfl rfl rfl HN2.out ?_; intro A cc w6 hr hg hat; have z1 := (hg.cell m1 HD5.out); have zf1 := (frozen_grown (j := 1) hg HB5.out HD5.out); have HR := Aside0.mk hr; have HG := Aside0.mk hg; have HT := Aside0.mk hat; clear hr hg hat m0 m1 m2 m3 mf1)
              | ((with_reducible refine gate_store (t := 56) (p := 61) rfl ?_); refine store_event (t := 56) (p := 61) (v := .tmp 59) (w1 := w6.setCell ⟨d, 1, none⟩ (.slice A (T.opn.length + 1) cc)) ?hg ?ho ?hn ?hr ?_; (case ho => rfl); (case hg => rfl); (case hn => rfl); (case hr => first | (go_simp; done) | (go_simp; rfl)); intro w7 hw7; have HA7 : Aside0 (At (more (more own w3 w4) w5 w6) w7 d { T with D := T.D.put (keyL name) (refD (some T.fs.length)), puts := T.puts + 1, fs := T.fs ++ [(⟨#[]⟩, 0)], opn := T.opn ++ [⟨⟨#[]⟩, name, none, 0⟩] } mb (bs ++ [gF]) (.slice A (T.opn.length + 1) cc) vp1) := ⟨(by rw [hw7]; exact HA5.out.setOpn ⟨⟨#[]⟩, name, none, 0⟩ (fun j hj => by cases hj) HR.out HG.out HT.out)⟩; have HK7 : Aside0 (Kept own w w7) := ⟨(by rw [hw7]; exact (HK5.out.trans (Kept.of_grown (S := more own w3 w4) HG.out (fun k hk => HA5.out.owno k hk)) (more_in HK3.out.size)).trans (Kept.set (own := more own w3 w4) ⟨d, 1, none⟩ (.inl HA3.out.ownd) _) (more_in HK3.out.size))⟩; have hx := HA7.out.file T.fs.length gF (⟨#[]⟩, 0) (by rw [← HA3.out.len]; simp) (by simp); have x0 := blk_cell hx 0; have xf0 := blk_frozen hx 0; have xc : ¬ 9223372036854775807 < s2.size := (by have := hs3; have := HSz.out; have h9 : maxLen = 9223372036854775807 := rfl; omega); clear hx hw7 z1 zf1)
              | go_in)
            go_ret2
            have hsz := HA7.out.setF (i := T.fs.length) (b := gF) (f := (⟨#[]⟩, 0)) (by rw [← HA3.out.len]; simp) (by simp) 0 (.string ((⟨#[]⟩ : ByteArray) ++ s2)) ((⟨#[]⟩ : ByteArray) ++ s2, 0) rfl
            have hfs : (T.fs ++ [((⟨#[]⟩ : ByteArray), (0 : Int))]).set T.fs.length ((⟨#[]⟩ : ByteArray) ++ s2, 0) = T.fs ++ [((⟨#[]⟩ : ByteArray) ++ s2, 0)] := by simp
            dsimp only at hsz
            rw [hfs] at hsz
            have hm : ∀ k, more (more own w3 w4) w5 w6 k → own k ∨ w.heap.size ≤ k := fun k hk => by
              rcases hk with hk | hk
              · exact more_in HK3.out.size k hk
              · have := HK5.out.size; exact .inr (by omega)
            have hK := HK7.out.trans (Kept.set (own := more (more own w3 w4) w5 w6) ⟨gF, 0, none⟩ (HA7.out.ownf gF (by simp)) (.string ((⟨#[]⟩ : ByteArray) ++ s2))) hm
            exact ⟨rfl, ⟨_, _, _, hsz.lift hm (fun k hk => Nat.lt_of_lt_of_le (H.out.bnd k hk) hK.size)⟩, hK⟩
          | some i =>
            obtain ⟨fb, hfb⟩ : ∃ fb, fb = bs.getD i 0 := ⟨_, rfl⟩
            have hv : Aside0 (fileV bs (T.find name) = .pointer (some ⟨fb, 0, none⟩)) := ⟨by rw [hfT, hfb]; rfl⟩
            obtain ⟨fx, hfx⟩ : ∃ fx, fx = T.fileAt i := ⟨_, rfl⟩
            have HI : Aside0 (∀ {w1 : World} {vp1 : Value}, At own w1 d T mb bs vo vp1 → bs[i]? = some fb ∧ T.fs[i]? = some fx ∧ w1.heap[fb]? = some (.cells #[.string fx.1, .int .i64 fx.2] 78 (0, 0)) ∧ own fb) := ⟨fun hA => by rw [hfb, hfx]; exact hA.fileIn hfT⟩
            dsimp only
            rw [← hfx]
            clear hfb hfx hfT
            go_enter Tryz.func42, Tryz.ntmps42
            go_wp2_with (first
              | (go_at_call 59; (with_reducible refine (step_told H.out H0.out H1.out HS.out).mono ?_); rintro e w1 ⟨rfl, ⟨vp1, hA⟩, hK⟩; have HA := Aside0.mk hA; have HK := Aside0.mk hK; clear hA hK)
              | ((with_reducible refine gate_dst (N := 8) rfl ?_); refine box_event ?hg (N := 8) ?hd (cs := #[.int .i64 0, .int .i64 0, .int .i64 0]) (t := 40) ?hr ?_; (case hd => rfl); (case hg => rfl); (case hr => first | (go_simp; done) | (go_simp; rfl)); intro g8 hg8 w2 hbox hb; have HA2 := Aside0.mk (HA.out.below hb); have HK2 := Aside0.mk (HK.out.trans (Kept.of_below (S := fun _ => False) hb) (fun _ h => h.elim)); have X2 := Aside0.mk hbox; have N2 : Aside0 (¬ own g8 ∧ w.heap.size ≤ g8) := ⟨⟨fun ho => (by have := HA.out.bnd _ ho; omega), (by have := HK.out.size; omega)⟩⟩; have a0 := blk_cell hbox 0; have a1 := blk_cell hbox 1; have a2 := blk_cell hbox 2; have af0 := blk_frozen hbox 0; have af1 := blk_frozen hbox 1; have af2 := blk_frozen hbox 2; clear hbox hb hg8)
              | ((with_reducible refine gate_store (t := 40) (p := 8) rfl ?_); refine store_event (t := 40) (p := 8) (v := .tmp 20) (w1 := ((w2.setCell ⟨g8, 0, none⟩ (.int .i64 f.s)).setCell ⟨g8, 1, none⟩ (.int .i64 f.k)).setCell ⟨g8, 2, none⟩ (.int .i64 f.n)) ?hg ?ho ?hn ?hr ?_; (case ho => rfl); (case hg => rfl); (case hn => rfl); (case hr => first | (go_simp; done) | (go_simp; rfl)); intro w3 hw3; have HA3 : Aside0 (At own w3 d T mb bs vo vp1) := ⟨(by rw [hw3]; exact ((HA2.out.setO N2.out.1 _ _).setO N2.out.1 _ _).setO N2.out.1 _ _)⟩; have HK3 : Aside0 (Kept own w w3) := ⟨(by rw [hw3]; exact ((HK2.out.setO (p := ⟨g8, 0, none⟩) N2.out.2 _).setO (p := ⟨g8, 1, none⟩) N2.out.2 _).setO (p := ⟨g8, 2, none⟩) N2.out.2 _)⟩; have X3 : Aside0 (w3.heap[g8]? = some (.cells #[.int .i64 f.s, .int .i64 f.k, .int .i64 f.n] 40 (0, 0))) := ⟨(by rw [hw3]; exact blk_put (blk_put (blk_put X2.out 0 _ rfl) 1 _ rfl) 2 _ rfl)⟩; obtain ⟨j0, j1, j2, j3⟩ := HA3.out.cells; have b1 := blk_cell X3.out 1; have b2 := blk_cell X3.out 2; clear hw3 a0 a1 a2 af0 af1 af2)
              | (at_lookup; refine wpList_lookup_dk _ rfl _ _ rfl HA3.out rfl name rfl HL.out _ hv.out ?_; have hx := (HI.out HA3.out).2.2.1; have x0 := blk_cell hx 0; have xf0 := blk_frozen hx 0; clear hx; have xc : ¬ 9223372036854775807 < fx.1.size + s2.size := (by have := hs3; have := HF2.out fx (List.mem_of_getElem? (HI.out HA3.out).2.1); have h9 : maxLen = 9223372036854775807 := rfl; omega))
              | go_in)
            go_ret2
            obtain ⟨h1, h2, h3, h4⟩ := HI.out HA3.out
            have hK := HK3.out.trans (Kept.set (own := own) ⟨fb, 0, none⟩ h4 (.string (fx.1 ++ s2))) (fun _ hk => .inl hk)
            exact ⟨rfl, ⟨_, _, _, (HA3.out.setF h1 h2 0 _ (fx.1 ++ s2, fx.2) rfl).more hK⟩, hK⟩
        · have hct : cutS s f.n = s := by unfold cutS; rw [Int.min_eq_right (by omega)]; simp
          rw [hct]
          clear hct
          unfold DS.lay
          cases hfT : T.find name with
          | none =>
            have hv : Aside0 (fileV bs (T.find name) = .pointer none) := ⟨by rw [hfT]; rfl⟩
            clear hfT
            dsimp only
            go_enter Tryz.func42, Tryz.ntmps42
            go_wp2_with (first
              | (go_at_call 59; (with_reducible refine (step_told H.out H0.out H1.out HS.out).mono ?_); rintro e w1 ⟨rfl, ⟨vp1, hA⟩, hK⟩; have HA := Aside0.mk hA; have HK := Aside0.mk hK; clear hA hK)
              | ((with_reducible refine gate_dst (N := 8) rfl ?_); refine box_event ?hg (N := 8) ?hd (cs := #[.int .i64 0, .int .i64 0, .int .i64 0]) (t := 40) ?hr ?_; (case hd => rfl); (case hg => rfl); (case hr => first | (go_simp; done) | (go_simp; rfl)); intro g8 hg8 w2 hbox hb; have HA2 := Aside0.mk (HA.out.below hb); have HK2 := Aside0.mk (HK.out.trans (Kept.of_below (S := fun _ => False) hb) (fun _ h => h.elim)); have X2 := Aside0.mk hbox; have N2 : Aside0 (¬ own g8 ∧ w.heap.size ≤ g8) := ⟨⟨fun ho => (by have := HA.out.bnd _ ho; omega), (by have := HK.out.size; omega)⟩⟩; have a0 := blk_cell hbox 0; have a1 := blk_cell hbox 1; have a2 := blk_cell hbox 2; have af0 := blk_frozen hbox 0; have af1 := blk_frozen hbox 1; have af2 := blk_frozen hbox 2; clear hbox hb hg8)
              | ((with_reducible refine gate_store (t := 40) (p := 8) rfl ?_); refine store_event (t := 40) (p := 8) (v := .tmp 20) (w1 := ((w2.setCell ⟨g8, 0, none⟩ (.int .i64 f.s)).setCell ⟨g8, 1, none⟩ (.int .i64 f.k)).setCell ⟨g8, 2, none⟩ (.int .i64 f.n)) ?hg ?ho ?hn ?hr ?_; (case ho => rfl); (case hg => rfl); (case hn => rfl); (case hr => first | (go_simp; done) | (go_simp; rfl)); intro w3 hw3; have HA3 : Aside0 (At own w3 d T mb bs vo vp1) := ⟨(by rw [hw3]; exact ((HA2.out.setO N2.out.1 _ _).setO N2.out.1 _ _).setO N2.out.1 _ _)⟩; have HK3 : Aside0 (Kept own w w3) := ⟨(by rw [hw3]; exact ((HK2.out.setO (p := ⟨g8, 0, none⟩) N2.out.2 _).setO (p := ⟨g8, 1, none⟩) N2.out.2 _).setO (p := ⟨g8, 2, none⟩) N2.out.2 _)⟩; have X3 : Aside0 (w3.heap[g8]? = some (.cells #[.int .i64 f.s, .int .i64 f.k, .int .i64 f.n] 40 (0, 0))) := ⟨(by rw [hw3]; exact blk_put (blk_put (blk_put X2.out 0 _ rfl) 1 _ rfl) 2 _ rfl)⟩; obtain ⟨j0, j1, j2, j3⟩ := HA3.out.cells; have b1 := blk_cell X3.out 1; have b2 := blk_cell X3.out 2; clear hw3 a0 a1 a2 af0 af1 af2)
              | (at_lookup; refine wpList_lookup_dk _ rfl _ _ rfl HA3.out rfl name rfl HL.out _ hv.out ?_)
              | ((with_reducible refine gate_dst (N := 44) rfl ?_); refine box_event ?hg (N := 44) ?hd (cs := #[.string ⟨#[]⟩, .int .i64 0]) (t := 78) ?hr ?_; (case hd => rfl); (case hg => rfl); (case hr => first | (go_simp; done) | (go_simp; rfl)); intro gF hgF w4 hbox hb; have HA4 := Aside0.mk (HA3.out.newF hgF hb (⟨#[]⟩, 0) hbox); have HK4 := Aside0.mk (HK3.out.trans (Kept.of_below (S := fun _ => False) hb) (fun _ h => h.elim)); obtain ⟨l0, l1, l2, l3⟩ := HA4.out.cells; clear hbox hb hgF j0 j1 j2 j3)
              | (at_mapUpdate; refine wpList_store_dk rfl _ _ _ rfl HA4.out rfl name rfl HL.out HP2.out (some T.fs.length) (fun j hj => by cases hj; have := HA3.out.len; simp; omega) (.pointer (some ⟨gF, 0, none⟩)) rfl (by have := HA3.out.len; simp [fileV, ← this]) ?_; intro w5 hA5 hK5; have HA5 := Aside0.mk hA5; have HK5 := Aside0.mk (HK4.out.trans hK5 (more_in HK3.out.size)); obtain ⟨m0, m1, m2, m3⟩ := HA5.out.cells; have mf1 := HA5.out.frozen 1; have HD5 := Aside0.mk HA5.out.ne_opn; have HB5 := Aside0.mk HA5.out.blk; clear hA5 hK5 l0 l1 l2 l3)
              | (at_builtin; refine wpList_append_dk rfl (.tmp 55) (.tmp 58) rfl HA5.out [.string ⟨#[]⟩, .string name, .pointer none, .int .i64 0] ⟨⟨#[]⟩, name, none, 0⟩ rfl rfl rfl HN2.out ?_; intro A cc w6 hr hg hat; have z1 := (hg.cell m1 HD5.out); have zf1 := (frozen_grown (j := 1) hg HB5.out HD5.out); have HR := Aside0.mk hr; have HG := Aside0.mk hg; have HT := Aside0.mk hat; clear hr hg hat m0 m1 m2 m3 mf1)
              | ((with_reducible refine gate_store (t := 56) (p := 61) rfl ?_); refine store_event (t := 56) (p := 61) (v := .tmp 59) (w1 := w6.setCell ⟨d, 1, none⟩ (.slice A (T.opn.length + 1) cc)) ?hg ?ho ?hn ?hr ?_; (case ho => rfl); (case hg => rfl); (case hn => rfl); (case hr => first | (go_simp; done) | (go_simp; rfl)); intro w7 hw7; have HA7 : Aside0 (At (more (more own w3 w4) w5 w6) w7 d { T with D := T.D.put (keyL name) (refD (some T.fs.length)), puts := T.puts + 1, fs := T.fs ++ [(⟨#[]⟩, 0)], opn := T.opn ++ [⟨⟨#[]⟩, name, none, 0⟩] } mb (bs ++ [gF]) (.slice A (T.opn.length + 1) cc) vp1) := ⟨(by rw [hw7]; exact HA5.out.setOpn ⟨⟨#[]⟩, name, none, 0⟩ (fun j hj => by cases hj) HR.out HG.out HT.out)⟩; have HK7 : Aside0 (Kept own w w7) := ⟨(by rw [hw7]; exact (HK5.out.trans (Kept.of_grown (S := more own w3 w4) HG.out (fun k hk => HA5.out.owno k hk)) (more_in HK3.out.size)).trans (Kept.set (own := more own w3 w4) ⟨d, 1, none⟩ (.inl HA3.out.ownd) _) (more_in HK3.out.size))⟩; have hx := HA7.out.file T.fs.length gF (⟨#[]⟩, 0) (by rw [← HA3.out.len]; simp) (by simp); have x0 := blk_cell hx 0; have xf0 := blk_frozen hx 0; have xc : ¬ 9223372036854775807 < s.size := (by have := HSz.out; have h9 : maxLen = 9223372036854775807 := rfl; omega); clear hx hw7 z1 zf1)
              | go_in)
            go_ret2
            have hsz := HA7.out.setF (i := T.fs.length) (b := gF) (f := (⟨#[]⟩, 0)) (by rw [← HA3.out.len]; simp) (by simp) 0 (.string ((⟨#[]⟩ : ByteArray) ++ s)) ((⟨#[]⟩ : ByteArray) ++ s, 0) rfl
            have hfs : (T.fs ++ [((⟨#[]⟩ : ByteArray), (0 : Int))]).set T.fs.length ((⟨#[]⟩ : ByteArray) ++ s, 0) = T.fs ++ [((⟨#[]⟩ : ByteArray) ++ s, 0)] := by simp
            dsimp only at hsz
            rw [hfs] at hsz
            have hm : ∀ k, more (more own w3 w4) w5 w6 k → own k ∨ w.heap.size ≤ k := fun k hk => by
              rcases hk with hk | hk
              · exact more_in HK3.out.size k hk
              · have := HK5.out.size; exact .inr (by omega)
            have hK := HK7.out.trans (Kept.set (own := more (more own w3 w4) w5 w6) ⟨gF, 0, none⟩ (HA7.out.ownf gF (by simp)) (.string ((⟨#[]⟩ : ByteArray) ++ s))) hm
            exact ⟨rfl, ⟨_, _, _, hsz.lift hm (fun k hk => Nat.lt_of_lt_of_le (H.out.bnd k hk) hK.size)⟩, hK⟩
          | some i =>
            obtain ⟨fb, hfb⟩ : ∃ fb, fb = bs.getD i 0 := ⟨_, rfl⟩
            have hv : Aside0 (fileV bs (T.find name) = .pointer (some ⟨fb, 0, none⟩)) := ⟨by rw [hfT, hfb]; rfl⟩
            obtain ⟨fx, hfx⟩ : ∃ fx, fx = T.fileAt i := ⟨_, rfl⟩
            have HI : Aside0 (∀ {w1 : World} {vp1 : Value}, At own w1 d T mb bs vo vp1 → bs[i]? = some fb ∧ T.fs[i]? = some fx ∧ w1.heap[fb]? = some (.cells #[.string fx.1, .int .i64 fx.2] 78 (0, 0)) ∧ own fb) := ⟨fun hA => by rw [hfb, hfx]; exact hA.fileIn hfT⟩
            dsimp only
            rw [← hfx]
            clear hfb hfx hfT
            go_enter Tryz.func42, Tryz.ntmps42
            go_wp2_with (first
              | (go_at_call 59; (with_reducible refine (step_told H.out H0.out H1.out HS.out).mono ?_); rintro e w1 ⟨rfl, ⟨vp1, hA⟩, hK⟩; have HA := Aside0.mk hA; have HK := Aside0.mk hK; clear hA hK)
              | ((with_reducible refine gate_dst (N := 8) rfl ?_); refine box_event ?hg (N := 8) ?hd (cs := #[.int .i64 0, .int .i64 0, .int .i64 0]) (t := 40) ?hr ?_; (case hd => rfl); (case hg => rfl); (case hr => first | (go_simp; done) | (go_simp; rfl)); intro g8 hg8 w2 hbox hb; have HA2 := Aside0.mk (HA.out.below hb); have HK2 := Aside0.mk (HK.out.trans (Kept.of_below (S := fun _ => False) hb) (fun _ h => h.elim)); have X2 := Aside0.mk hbox; have N2 : Aside0 (¬ own g8 ∧ w.heap.size ≤ g8) := ⟨⟨fun ho => (by have := HA.out.bnd _ ho; omega), (by have := HK.out.size; omega)⟩⟩; have a0 := blk_cell hbox 0; have a1 := blk_cell hbox 1; have a2 := blk_cell hbox 2; have af0 := blk_frozen hbox 0; have af1 := blk_frozen hbox 1; have af2 := blk_frozen hbox 2; clear hbox hb hg8)
              | ((with_reducible refine gate_store (t := 40) (p := 8) rfl ?_); refine store_event (t := 40) (p := 8) (v := .tmp 20) (w1 := ((w2.setCell ⟨g8, 0, none⟩ (.int .i64 f.s)).setCell ⟨g8, 1, none⟩ (.int .i64 f.k)).setCell ⟨g8, 2, none⟩ (.int .i64 f.n)) ?hg ?ho ?hn ?hr ?_; (case ho => rfl); (case hg => rfl); (case hn => rfl); (case hr => first | (go_simp; done) | (go_simp; rfl)); intro w3 hw3; have HA3 : Aside0 (At own w3 d T mb bs vo vp1) := ⟨(by rw [hw3]; exact ((HA2.out.setO N2.out.1 _ _).setO N2.out.1 _ _).setO N2.out.1 _ _)⟩; have HK3 : Aside0 (Kept own w w3) := ⟨(by rw [hw3]; exact ((HK2.out.setO (p := ⟨g8, 0, none⟩) N2.out.2 _).setO (p := ⟨g8, 1, none⟩) N2.out.2 _).setO (p := ⟨g8, 2, none⟩) N2.out.2 _)⟩; have X3 : Aside0 (w3.heap[g8]? = some (.cells #[.int .i64 f.s, .int .i64 f.k, .int .i64 f.n] 40 (0, 0))) := ⟨(by rw [hw3]; exact blk_put (blk_put (blk_put X2.out 0 _ rfl) 1 _ rfl) 2 _ rfl)⟩; obtain ⟨j0, j1, j2, j3⟩ := HA3.out.cells; have b1 := blk_cell X3.out 1; have b2 := blk_cell X3.out 2; clear hw3 a0 a1 a2 af0 af1 af2)
              | (at_lookup; refine wpList_lookup_dk _ rfl _ _ rfl HA3.out rfl name rfl HL.out _ hv.out ?_; have hx := (HI.out HA3.out).2.2.1; have x0 := blk_cell hx 0; have xf0 := blk_frozen hx 0; clear hx; have xc : ¬ 9223372036854775807 < fx.1.size + s.size := (by have := HF2.out fx (List.mem_of_getElem? (HI.out HA3.out).2.1); have h9 : maxLen = 9223372036854775807 := rfl; omega))
              | go_in)
            go_ret2
            obtain ⟨h1, h2, h3, h4⟩ := HI.out HA3.out
            have hK := HK3.out.trans (Kept.set (own := own) ⟨fb, 0, none⟩ h4 (.string (fx.1 ++ s))) (fun _ hk => .inl hk)
            exact ⟨rfl, ⟨_, _, _, (HA3.out.setF h1 h2 0 _ (fx.1 ++ s, fx.2) rfl).more hK⟩, hK⟩
      · have hk2 : (f.k == 2) = false := by simpa using hk
        simp only [if_neg hk]
        clear hk
        go_enter Tryz.func42, Tryz.ntmps42
        go_wp2_with (first
          | (go_at_call 59; (with_reducible refine (step_told H.out H0.out H1.out HS.out).mono ?_); rintro e w1 ⟨rfl, ⟨vp1, hA⟩, hK⟩; have HA := Aside0.mk hA; have HK := Aside0.mk hK; clear hA hK)
          | ((with_reducible refine gate_dst (N := 8) rfl ?_); refine box_event ?hg (N := 8) ?hd (cs := #[.int .i64 0, .int .i64 0, .int .i64 0]) (t := 40) ?hr ?_; (case hd => rfl); (case hg => rfl); (case hr => first | (go_simp; done) | (go_simp; rfl)); intro g8 hg8 w2 hbox hb; have HA2 := Aside0.mk (HA.out.below hb); have HK2 := Aside0.mk (HK.out.trans (Kept.of_below (S := fun _ => False) hb) (fun _ h => h.elim)); have X2 := Aside0.mk hbox; have N2 : Aside0 (¬ own g8 ∧ w.heap.size ≤ g8) := ⟨⟨fun ho => (by have := HA.out.bnd _ ho; omega), (by have := HK.out.size; omega)⟩⟩; have a0 := blk_cell hbox 0; have a1 := blk_cell hbox 1; have a2 := blk_cell hbox 2; have af0 := blk_frozen hbox 0; have af1 := blk_frozen hbox 1; have af2 := blk_frozen hbox 2; clear hbox hb hg8)
          | ((with_reducible refine gate_store (t := 40) (p := 8) rfl ?_); refine store_event (t := 40) (p := 8) (v := .tmp 20) (w1 := ((w2.setCell ⟨g8, 0, none⟩ (.int .i64 f.s)).setCell ⟨g8, 1, none⟩ (.int .i64 f.k)).setCell ⟨g8, 2, none⟩ (.int .i64 f.n)) ?hg ?ho ?hn ?hr ?_; (case ho => rfl); (case hg => rfl); (case hn => rfl); (case hr => first | (go_simp; done) | (go_simp; rfl)); intro w3 hw3; have HA3 : Aside0 (At own w3 d T mb bs vo vp1) := ⟨(by rw [hw3]; exact ((HA2.out.setO N2.out.1 _ _).setO N2.out.1 _ _).setO N2.out.1 _ _)⟩; have HK3 : Aside0 (Kept own w w3) := ⟨(by rw [hw3]; exact ((HK2.out.setO (p := ⟨g8, 0, none⟩) N2.out.2 _).setO (p := ⟨g8, 1, none⟩) N2.out.2 _).setO (p := ⟨g8, 2, none⟩) N2.out.2 _)⟩; have X3 : Aside0 (w3.heap[g8]? = some (.cells #[.int .i64 f.s, .int .i64 f.k, .int .i64 f.n] 40 (0, 0))) := ⟨(by rw [hw3]; exact blk_put (blk_put (blk_put X2.out 0 _ rfl) 1 _ rfl) 2 _ rfl)⟩; obtain ⟨j0, j1, j2, j3⟩ := HA3.out.cells; have b1 := blk_cell X3.out 1; have b2 := blk_cell X3.out 2; clear hw3 a0 a1 a2 af0 af1 af2)
          | go_in)
        go_ret2
        exact ⟨rfl, ⟨_, _, _, HA3.out.more HK3.out⟩, HK3.out⟩

end Go.Proofs.YtomhgoahhlnjpaaGreatDoor.Dk
