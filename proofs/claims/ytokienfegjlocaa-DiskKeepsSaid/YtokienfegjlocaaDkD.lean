/- The disk's methods, walked: refused, Read, Sync, SyncNames. -/
import Derived.Test.YtokienfegjlocaaDkC
namespace Go.Proofs.Ytokienfegjlocaa.Dk
open Go.RowKit Go.Maps Go.ChangeMaps Go.WideAt Go.WideMaps Go.Proofs.YtokienfegjlocaaW.PrintWords

theorem step_told {own : Nat → Prop} {w : World} {d mb : Nat} {S T : DS} {bs : List Nat} {vo vp : Value} {f : Fault} {er : Int} (h : At own w d S mb bs vo vp) (h0 : 0 ≤ S.steps) (h1 : S.steps < 4611686018427387904) (hS : S.step = (T, f, er)) :
    Calls Try.prog 23 #[.pointer (some ⟨d, 0, none⟩)] w fun e w' => e = .returned (.tuple #[.agg #[.int .i64 f.s, .int .i64 f.k, .int .i64 f.n], .int .i64 er]) ∧ (∃ vp', At own w' d T mb bs vo vp') ∧ Kept own w w' := by
  refine (step_calls h h0 h1).mono fun e w' ⟨he, vp', hA, hK⟩ => ?_
  rw [hS] at he hA
  exact ⟨he, ⟨vp', hA⟩, hK⟩

set_option maxHeartbeats 1000000 in
theorem refused_calls {own : Nat → Prop} {w : World} {d mb : Nat} {S T : DS} {bs : List Nat} {vo vp : Value} {f : Fault} {er : Int} (h : At own w d S mb bs vo vp) (h0 : 0 ≤ S.steps) (h1 : S.steps < 4611686018427387904) (hS : S.step = (T, f, er)) :
    Calls Try.prog 25 #[.pointer (some ⟨d, 0, none⟩)] w fun e w' => e = .returned (.int .i64 er) ∧ (∃ vp', At own w' d T mb bs vo vp') ∧ Kept own w w' := by
  have H := Aside0.mk h
  have H0 := Aside0.mk h0
  have H1 := Aside0.mk h1
  have HS := Aside0.mk hS
  clear h h0 h1 hS
  go_enter Try.func25, Try.ntmps25
  go_wp2_with (first
    | (go_at_call 23; (with_reducible refine (step_told H.out H0.out H1.out HS.out).mono ?_); rintro e w1 ⟨rfl, hA, hK⟩; have HA := Aside0.mk hA; have HK := Aside0.mk hK; clear hA hK)
    | ((with_reducible refine gate_dst (N := 3) rfl ?_); refine box_event ?hg (N := 3) ?hd (cs := #[.int .i64 0, .int .i64 0, .int .i64 0]) (t := 41) ?hr ?_; (case hd => rfl); (case hg => rfl); (case hr => first | (go_simp; done) | (go_simp; rfl)); intro g3 hg3 w3 hbox hb; have HB := Aside0.mk hb; have HG := Aside0.mk hg3; have g0 := blk_cell hbox 0; have g1 := blk_cell hbox 1; have g2 := blk_cell hbox 2; have gf0 := blk_frozen hbox 0; have gf1 := blk_frozen hbox 1; have gf2 := blk_frozen hbox 2; clear hbox hb hg3)
    | go_in)
  go_ret
  obtain ⟨vp', hA⟩ := HA.out
  have hn : ¬ own g3 := fun ho => by have := hA.bnd _ ho; have := HG.out; omega
  have hw : w.heap.size ≤ g3 := by have := HK.out.size; have := HG.out; omega
  refine ⟨rfl, ⟨vp', (((hA.below HB.out).setO hn _ _).setO hn _ _).setO hn _ _⟩, ?_⟩
  exact (((HK.out.trans (Kept.of_below (S := fun _ => False) HB.out) (fun _ h => h.elim)).setO (p := ⟨g3, 0, none⟩) hw _).setO (p := ⟨g3, 1, none⟩) hw _).setO (p := ⟨g3, 2, none⟩) hw _

def DS.read (S : DS) (name : ByteArray) : ByteArray × Int := if S.known name = 0 then ((match S.find name with | some i => (S.fs.getD i (⟨#[]⟩, 0)).1 | none => ⟨#[]⟩), 0) else (⟨#[]⟩, S.known name)
theorem At.fileCells {own : Nat → Prop} {w : World} {d mb : Nat} {S : DS} {bs : List Nat} {vo vp : Value} (h : At own w d S mb bs vo vp) {name : ByteArray} {i : Nat} (hi : S.find name = some i) :
    i < bs.length ∧ bs[i]? = some (bs.getD i 0) ∧ S.fs[i]? = some (S.fs.getD i (⟨#[]⟩, 0)) ∧ w.heap[bs.getD i 0]? = some (.cells #[.string (S.fs.getD i (⟨#[]⟩, 0)).1, .int .i64 (S.fs.getD i (⟨#[]⟩, 0)).2] 70 (0, 0)) := by
  have hlt : i < bs.length := by
    by_cases hl : name.size ≤ maxLen
    · obtain ⟨v1, ps, _, hv1⟩ := h.mp.lookup law9 Try.underlying62 (zero68 w) (rdF_nil bs) (keyOf_string_mk Try.underlying9 hl)
      exact (rdF_inv hv1).2.2 i hi
    · exfalso
      obtain ⟨es, hD, hk⟩ := h.mp.keysOf
      unfold DS.find keyL at hi
      rw [hD] at hi
      have : ∀ z, (DataW.map es : DataW Unit).atKey (.string name.data.toList) z = z := by
        refine fun z => Maps.atKey_of_not_has ?_ z
        rw [has_eq, List.any_eq_false]
        intro p hp hs
        obtain ⟨v, hv⟩ := hk p hp
        obtain ⟨x, _, hx, hxl⟩ := Maps.keyOf_str Try.underlying9 hv
        rw [hx] at hs
        have : x = name.data.toList := by simpa [Lit.sameKey] using hs
        rw [this, Array.length_toList] at hxl
        exact hl hxl
      rw [this] at hi
      cases hi
  have hf : i < S.fs.length := by rw [← h.len]; exact hlt
  have hb : bs[i]? = some (bs.getD i 0) := by simp [List.getD, List.getElem?_eq_getElem hlt]
  have hg : S.fs[i]? = some (S.fs.getD i (⟨#[]⟩, 0)) := by simp [List.getD, List.getElem?_eq_getElem hf]
  exact ⟨hlt, hb, hg, h.file i _ _ hb hg⟩

theorem read_nil (name : ByteArray) (w : World) : Calls Try.prog 14 #[.pointer none, .string name] w fun e w' => e = .returned (.tuple #[.string ⟨#[]⟩, .int .i64 1]) ∧ w' = w := by
  go_enter Try.func14, Try.ntmps14
  go_wp2_with (first | (go_at_call 24; (with_reducible refine (known_nil name _).mono ?_); rintro e w1 ⟨rfl, rfl⟩) | go_in)
  go_ret2
  exact ⟨rfl, rfl⟩

theorem known_zero {S : DS} {name : ByteArray} (h : S.known name = 0) : ∃ i, S.find name = some i := by
  unfold DS.known at h
  split at h
  · cases h
  · cases hf : S.find name with
    | none => rw [hf] at h; cases h
    | some i => exact ⟨i, rfl⟩

set_option maxHeartbeats 1000000 in
theorem read_calls {own : Nat → Prop} {w : World} {d mb : Nat} {S : DS} {bs : List Nat} {vo vp : Value} (h : At own w d S mb bs vo vp) (name : ByteArray) (hl : name.size ≤ maxLen) :
    Calls Try.prog 14 #[.pointer (some ⟨d, 0, none⟩), .string name] w fun e w' => e = .returned (.tuple #[.string (S.read name).1, .int .i64 (S.read name).2]) ∧ w' = w := by
  obtain ⟨c0, c1, c2, c3⟩ := h.cells
  have H := Aside0.mk h
  have HL := Aside0.mk hl
  clear h hl
  unfold DS.read
  by_cases hk : S.known name = 0
  · obtain ⟨i, hf⟩ := known_zero hk
    obtain ⟨hlt, hb, hg, hc⟩ := H.out.fileCells hf
    have hv : Aside0 (fileV bs (S.find name) = .pointer (some ⟨bs.getD i 0, 0, none⟩)) := ⟨by rw [hf]; rfl⟩
    have x0 := blk_cell hc 0
    have x1 := blk_cell hc 1
    rw [if_pos hk, hf]
    have HKn := Aside0.mk hk
    clear hf hb hg hc hk hlt
    generalize bs.getD i 0 = fb at x0 x1 hv
    go_enter Try.func14, Try.ntmps14
    go_wp2_with (first
      | (go_at_call 24; (with_reducible refine (known_calls H.out name HL.out).mono ?_); rintro e w1 ⟨rfl, rfl⟩; rw [HKn.out])
      | (at_lookup; refine wpList_lookup_dk _ rfl _ _ rfl H.out rfl name rfl HL.out _ hv.out ?_)
      | go_in)
    go_ret2
    exact ⟨rfl, rfl⟩
  · rw [if_neg hk]
    generalize hkn : S.known name = kn at hk
    have HKn := Aside0.mk hkn
    clear hkn
    have hz : (kn == 0) = false := by simpa using hk
    go_enter Try.func14, Try.ntmps14
    go_wp2_with (first
      | (go_at_call 24; (with_reducible refine (known_calls H.out name HL.out).mono ?_); rintro e w1 ⟨rfl, rfl⟩; rw [HKn.out])
      | go_in)
    go_ret2
    exact ⟨rfl, rfl⟩

end Go.Proofs.Ytokienfegjlocaa.Dk
