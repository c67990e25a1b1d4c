/- The disk's methods, walked: Plan. -/
import Derived.Test.YtomhgoahhlnjpaaGreatDoorDks
import Derived.ArgAppend
namespace Go.Proofs.YtomhgoahhlnjpaaGreatDoor.Dk
open Go.RowKit Go.Maps Go.ChangeMaps Go.WideAt Go.WideMaps Go.Proofs.YtomhgoahhlnjpaaGreatDoorW.PrintWords

def faultBad (last : Int) (f : Fault) : Bool := decide (f.s ≤ last) || decide (f.k < 1) || decide (3 < f.k) || decide (f.n < 0) || (decide (0 < f.n) && !decide (f.k = 2))
def planOk : Int → List Fault → Bool
  | _, [] => true
  | last, f :: r => !faultBad last f && planOk f.s r
def DS.planned (S : DS) (l : List Fault) : DS × Int := if 4096 < l.length then (S, 1) else if planOk S.steps l = true then ({ S with plan := l }, 0) else (S, 1)

theorem plan_nil (v : Value) (w : World) : Calls Tryz.prog 22 #[.pointer none, v] w fun e w' => e = .returned (.int .i64 1) ∧ w' = w := by
  go_enter Tryz.func22, Tryz.ntmps22
  go_wp2
  go_ret
  exact ⟨rfl, rfl⟩

theorem faults_get : ∀ (l : List Fault) (j : Nat) (u : Value), (l.flatMap faultV)[j]? = some u → ∃ f, l[j / 3]? = some f ∧ (faultV f)[j % 3]? = some u
  | [], j, u, h => by simp at h
  | f :: l, j, u, h => by
    simp only [List.flatMap_cons] at h
    by_cases hj : j < 3
    · rw [List.getElem?_append_left (by simpa [faultV] using hj)] at h
      refine ⟨f, ?_, ?_⟩
      · rw [Nat.div_eq_of_lt hj]; rfl
      · rw [Nat.mod_eq_of_lt hj]; exact h
    · rw [List.getElem?_append_right (by simp [faultV]; omega)] at h
      have hl : (faultV f).length = 3 := rfl
      rw [hl] at h
      obtain ⟨g, h1, h2⟩ := faults_get l (j - 3) u h
      refine ⟨g, ?_, ?_⟩
      · rw [show j / 3 = (j - 3) / 3 + 1 by omega]; exact h1
      · rw [show j % 3 = (j - 3) % 3 by omega]; exact h2
theorem faults_at : ∀ (l : List Fault) (i j : Nat) (f : Fault) (u : Value), l[i]? = some f → (faultV f)[j]? = some u → (l.flatMap faultV)[3 * i + j]? = some u
  | [], i, j, f, u, h, _ => by simp at h
  | g :: l, i, j, f, u, h, hu => by
    simp only [List.flatMap_cons]
    have hl : (faultV g).length = 3 := rfl
    have hj : j < 3 := (List.getElem?_eq_some_iff.1 hu).1
    cases i with
    | zero =>
      simp at h
      subst h
      rw [List.getElem?_append_left (by rw [hl]; omega)]
      simpa using hu
    | succ i =>
      rw [List.getElem?_append_right (by rw [hl]; omega), hl, show 3 * (i + 1) + j - 3 = 3 * i + j by omega]
      exact faults_at l i j f u (by simpa using h) hu
theorem faults_len (l : List Fault) : (l.flatMap faultV).length = l.length * 3 := by
  induction l with
  | nil => rfl
  | cons f l ih => simp only [List.flatMap_cons, List.length_append, ih, List.length_cons]; have : (faultV f).length = 3 := rfl; omega
theorem faults_one (l : List Fault) : ∀ u ∈ l.flatMap faultV, u.oneCell' = true := by
  intro u hu
  obtain ⟨f, _, hf⟩ := List.mem_flatMap.1 hu
  simp only [faultV, List.mem_cons, List.not_mem_nil, or_false] at hf
  rcases hf with rfl | rfl | rfl <;> rfl
/-- a row of faults that is one's own -/
theorem plan_own {w : World} {base n : Nat} {v : Value} {l : List Fault} (h : w.ownsRow base 40 3 v n (l.flatMap faultV)) (hn : n = l.length) : PlanAt w v l ∧ ∀ k, v.ownBlock = some k → base ≤ k ∧ k < w.heap.size ∧ ∃ cs, w.heap[k]? = some (.cells cs 40 (0, 0)) := by
  subst hn
  rcases h with ⟨_, ⟨rfl, h0⟩ | ⟨g, cap, cur, rfl, hb, hg, hc, _, _, ht⟩⟩
  · refine ⟨⟨none, 0, by rw [h0], by omega, fun i f hf => ?_⟩, fun k hk => by cases hk⟩
    rw [List.length_eq_zero_iff.1 h0] at hf
    simp at hf
  · refine ⟨⟨_, cap, rfl, hc, fun i f hf => ⟨g, 0, rfl, fun j u hu => ?_⟩⟩, fun k hk => by cases hk; exact ⟨hb, blk_lt hg, _, hg⟩⟩
    have h1 := faults_at l i j f u hf hu
    rw [← ht] at h1
    have h2 : cur[3 * i + j]? = some u := by
      rw [List.getElem?_take] at h1
      split at h1
      · simpa using h1
      · cases h1
    rw [Nat.zero_add]
    exact (blk_cell hg _).trans h2
theorem plan_cells {w : World} {ad : Addr} {n c : Nat} {l : List Fault} (h : PlanAt w (.slice (some ad) n c) l) : ∀ j u, (l.flatMap faultV)[j]? = some u → w.cell? (ad.add j) = some u := by
  obtain ⟨A, c', he, hl, hcell⟩ := h
  intro j u hu
  cases he
  obtain ⟨f, h1, h2⟩ := faults_get l j u hu
  obtain ⟨b, o, hb, hj⟩ := hcell _ f h1
  cases hb
  have := hj _ u h2
  rw [Addr.add_lit, show o + j = o + 3 * (j / 3) + j % 3 by omega]
  exact this

theorem PlanAt.below {w w' : World} {v : Value} {l : List Fault} (h : PlanAt w v l) (hb : Below w.heap.size w w') : PlanAt w' v l := by
  obtain ⟨A, c, rfl, hc, hcell⟩ := h
  refine ⟨A, c, rfl, hc, fun i f hf => ?_⟩
  obtain ⟨b, o, rfl, hj⟩ := hcell i f hf
  refine ⟨b, o, rfl, fun j u hu => ?_⟩
  have h1 := hj j u hu
  exact (hb.cell (p := ⟨b, o + 3 * i + j, none⟩) (World.block_lt_of_cell? w _ h1)).trans h1

theorem info41x : ∃ i, Tryz.prog.info? 40 = some i ∧ i.zero = some (.agg #[.int .i64 0, .int .i64 0, .int .i64 0]) ∧ i.size = 3 ∧ i.bytes = 24 := by
  have h : (Tryz.prog.info? 40).map (fun i => (i.zero, i.size, i.bytes)) = some (some (.agg #[.int .i64 0, .int .i64 0, .int .i64 0]), 3, 24) := by kernel_rfl
  obtain ⟨i, hi, hs⟩ := Option.map_eq_some_iff.1 h
  simp only [Prod.mk.injEq] at hs
  exact ⟨i, hi, hs.1, hs.2.1, hs.2.2⟩

set_option maxHeartbeats 4000000 in
theorem plan_calls {own : Nat → Prop} {w : World} {d mb : Nat} {S : DS} {bs : List Nat} {vo vp : Value} (h : At own w d S mb bs vo vp) {v : Value} {l : List Fault} (hv : PlanAt w v l) (hne : l ≠ []) :
    Calls Tryz.prog 22 #[.pointer (some ⟨d, 0, none⟩), v] w fun e w' => e = .returned (.int .i64 (S.planned l).2) ∧ (∃ vp', At (more own w w') w' d (S.planned l).1 mb bs vo vp') ∧ Kept own w w' := by
  obtain ⟨c0, c1, c2, c3⟩ := h.cells
  have H := Aside0.mk h
  obtain ⟨A, c, rfl, hc, hcell⟩ := id hv
  obtain ⟨b, o, rfl, _⟩ : ∃ b o, A = some ⟨b, o, none⟩ ∧ True := by
    cases l with
    | nil => exact absurd rfl hne
    | cons f r => obtain ⟨b, o, hA, _⟩ := hcell 0 f rfl; exact ⟨b, o, hA, trivial⟩
  have HV := Aside0.mk hv
  have HC := Aside0.mk hcell
  clear h hv hcell
  unfold DS.planned
  by_cases hbig : 4096 < l.length
  · rw [if_pos hbig]
    have hd : decide ((4096 : Int) < (l.length : Int)) = true := by simp; omega
    go_enter Tryz.func22, Tryz.ntmps22
    go_wp2
    go_ret
    exact ⟨rfl, ⟨_, H.out.more (Kept.refl _ _)⟩, Kept.refl _ _⟩
  · rw [if_neg hbig]
    have hd : decide ((4096 : Int) < (l.length : Int)) = false := by simp; omega
    obtain ⟨R, hR⟩ : ∃ R, (if planOk S.steps l = true then (({ S with plan := l } : DS), (0 : Int)) else (S, 1)) = R := ⟨_, rfl⟩
    rw [hR]
    have HR := Aside0.mk hR
    clear hR
    go_enter Tryz.func22, Tryz.ntmps22
    go_wp2
    go_loopw [5, 21] (fun vl vi wr => ∃ (k : Nat) (L : Int), k ≤ l.length ∧ vi = .int .i64 k ∧ vl = .int .i64 L ∧ Aside0 (planOk L (l.drop k) = planOk S.steps l) ∧ Aside0 (Below w.heap.size w wr)) (fun _ vi _ => l.length - (intOf vi).toNat)
    case atStart => exact ⟨0, S.steps, Nat.zero_le _, rfl, rfl, ⟨rfl⟩, ⟨Below.refl _ _⟩⟩
    case round =>
      obtain ⟨k, L, hk, rfl, rfl, hok, hb⟩ := hrel
      rcases Nat.lt_or_ge k l.length with hlt | hge
      · obtain ⟨f, hf⟩ : ∃ f, l[k]? = some f := ⟨_, List.getElem?_eq_getElem hlt⟩
        obtain ⟨b', o', he, hj⟩ := HC.out k f hf
        cases he
        have ee : ∀ j u, (faultV f)[j]? = some u → wr.cell? ⟨b, o + k * 3 + j, none⟩ = some u := fun j u hu => by
          have h1 := hj j u hu
          rw [Nat.mul_comm 3 k] at h1
          exact ((hb.out.cell (p := ⟨b, o + k * 3 + j, none⟩) (World.block_lt_of_cell? w _ h1)).trans h1)
        have e0 : wr.cell? ⟨b, o + k * 3, none⟩ = some (.int .i64 f.s) := ee 0 _ rfl
        have e1 : wr.cell? ⟨b, o + k * 3 + 1, none⟩ = some (.int .i64 f.k) := ee 1 _ rfl
        have e2 : wr.cell? ⟨b, o + k * 3 + 2, none⟩ = some (.int .i64 f.n) := ee 2 _ rfl
        clear ee
        have hdr : Aside0 (l.drop k = f :: l.drop (k + 1)) := ⟨by rw [List.drop_eq_getElem_cons hlt]; rw [List.getElem?_eq_getElem hlt] at hf; rw [Option.some.inj hf]⟩
        have HFk := Aside0.mk hf
        have HK := Aside0.mk hk
        clear hj hf hk
        have hd2 : decide ((k : Int) < (l.length : Int)) = true := by simp; omega
        go_wp2_with (first
          | ((with_reducible refine gate_dst (N := 7) rfl ?_); refine box_event ?hg (N := 7) ?hd (cs := #[.int .i64 0, .int .i64 0, .int .i64 0]) (t := 40) ?hr ?_; (case hd => rfl); (case hg => rfl); (case hr => first | (go_simp; done) | (go_simp; rfl)); intro g7 hg7 w2 hbox hb2; have HB2 := Aside0.mk (hb.out.trans hb2 hb.out.size); have X2 := Aside0.mk hbox; have a0 := blk_cell hbox 0; have a1 := blk_cell hbox 1; have a2 := blk_cell hbox 2; have af0 := blk_frozen hbox 0; have af1 := blk_frozen hbox 1; have af2 := blk_frozen hbox 2; clear hbox hb2 hg7)
          | go_in)
        all_goals first
          | (go_ret
             have hbad : faultBad L f = true := by unfold faultBad; first | (simp; omega) | (simp_all; omega) | simp_all
             have hRR : R = (S, 1) := by
               rw [← HR.out, if_neg]
               rw [← hok.out, hdr.out]
               simp [planOk, hbad]
             have hB := hb.out.alloc hb.out.size (.cells #[.int .i64 f.s, .int .i64 f.k, .int .i64 f.n] 40)
             rw [hRR]
             exact ⟨rfl, ⟨_, (H.out.below hB).more (Kept.of_below hB)⟩, Kept.of_below hB⟩)
          | (have hgood : faultBad L f = false := by unfold faultBad; first | (simp; omega) | (simp_all; omega) | simp_all
             have hB := hb.out.alloc hb.out.size (.cells #[.int .i64 f.s, .int .i64 f.k, .int .i64 f.n] 40)
             refine ⟨⟨k + 1, f.s, hlt, by simp, rfl, ⟨?_⟩, ⟨hB⟩⟩, ?_⟩
             · rw [← hok.out, hdr.out]
               simp [planOk, hgood]
             · simp [intOf]
               omega)
      · obtain rfl : k = l.length := by omega
        have hRR : R = ({ S with plan := l }, 0) := by
          rw [← HR.out, if_pos]
          rw [← hok.out]
          simp [planOk]
        have HRR := Aside0.mk hRR
        clear hok hRR HR
        have hd2 : decide ((l.length : Int) < (l.length : Int)) = false := by simp
        have HA := Aside0.mk (H.out.below hb.out)
        obtain ⟨k0, k1, k2, k3⟩ := HA.out.cells
        have HV2 := Aside0.mk (HV.out.below hb.out)
        obtain ⟨i41, q1, q2, q3, q4⟩ := info41x
        have Q1 := Aside0.mk q1
        have Q2 := Aside0.mk q2
        have Q3 := Aside0.mk q3
        have Q4 := Aside0.mk q4
        clear q1 q2 q3 q4
        have hl0 : Aside0 (0 < l.length) := ⟨List.length_pos_iff.2 hne⟩
        go_wp2_with (first
          | (at_builtin; refine wpList_append_grows _ rfl _ _ 30 rfl 40 i41 _ 3 24 Tryz.underlying30 Q1.out Q2.out Q3.out Q4.out rfl (by decide) none 0 0 [] rfl (fun _ => ⟨rfl, rfl⟩) rfl (fun b hb => by cases hb) ⟨b, o, none⟩ l.length c (l.flatMap faultV) rfl (faults_len l) (plan_cells HV2.out) (faults_one l) (by have := hl0.out; omega) (by have h9 : maxLen = 9223372036854775807 := rfl; omega) (by omega) ?_; intro v' w2 hr hg; obtain ⟨A2, cc, rfl⟩ := own_slice hr; have HR2 := Aside0.mk hr; have HG := Aside0.mk hg; have HA2 := Aside0.mk (HA.out.below ⟨hg.os, hg.tape, hg.output, hg.size, fun k hk => hg.block k hk (by simp)⟩); obtain ⟨m0, m1, m2, m3⟩ := HA2.out.cells; have mf3 := HA2.out.frozen 3; clear hr hg k0 k1 k2 k3)
          | go_in)
        go_ret
        obtain ⟨hp, hpk⟩ := plan_own HR2.out (Nat.zero_add _)
        have hB : Below w.heap.size w w2 := hb.out.trans ⟨HG.out.os, HG.out.tape, HG.out.output, HG.out.size, fun k hk => HG.out.block k (by have := hb.out.size; omega) (by simp)⟩
        have hmore : ∀ k, Dk.more own w w2 k → k < w2.heap.size := fun k hk => by
          rcases hk with hk | hk
          · exact HA2.out.bnd k hk
          · exact hk.2
        have h2 := (HA2.out.wider (own' := Dk.more own w w2) (fun k hk => .inl hk) hmore).setD 3 (.slice A2 (0 + l.length) cc) (n' := S.steps) (vo' := vo) (vp' := .slice A2 (0 + l.length) cc) (opn' := S.opn) (plan' := l) rfl HA2.out.opn HA2.out.old hp (fun k hk => (hpk k hk).2.2) (fun k hk => .inl (HA2.out.owno k hk)) (fun k hk => .inr ⟨by have := (hpk k hk).1; have := hb.out.size; omega, (hpk k hk).2.1⟩)
        rw [HRR.out]
        rw [Nat.zero_add] at h2
        have hK := (Kept.of_below (S := own) hB).trans (Kept.set (own := own) ⟨d, 3, none⟩ HA2.out.ownd (.slice A2 l.length cc)) (fun _ hk => .inl hk)
        exact ⟨rfl, ⟨_, h2.wider (fun k hk => by
          rcases hk with hk | hk
          · exact .inl hk
          · exact .inr ⟨hk.1, by rw [size_set]; exact hk.2⟩) (fun k hk => by
          rw [size_set] at *
          rcases hk with hk | hk
          · exact HA2.out.bnd k hk
          · have := hk.2; rw [size_set] at this; exact this)⟩, hK⟩

end Go.Proofs.YtomhgoahhlnjpaaGreatDoor.Dk
