/- The two disks side by side in memory; a deed; what each call does to both. -/
import Derived.Test.YtomhgoahhlnjpaaGreatDoorRfST
import Derived.Test.YtomhgoahhlnjpaaGreatDoorRfHQ
import Derived.Test.YtomhgoahhlnjpaaGreatDoorRfI
import Derived.Test.YtomhgoahhlnjpaaGreatDoorRfKK
import Derived.Test.YtomhgoahhlnjpaaGreatDoorRfR
namespace Go.Proofs.YtomhgoahhlnjpaaGreatDoor.Rf
open Go.RowKit Go.Maps Go.Sort Go.Proofs.YtomhgoahhlnjpaaGreatDoorW.PrintWords Go.Proofs.YtomhgoahhlnjpaaGreatDoor.PRef Go.Proofs.YtomhgoahhlnjpaaGreatDoor.Dk

/-- both disks, in blocks from B on, none of the one the other's -/
def Two (X : List (Nat × Obj)) (B : Nat) (w : World) (d m : Nat) (S : DS) (R : RS) : Prop :=
  ∃ own mb bs vo vp rown v0 v1 v2 v3 v4, At own w d S mb bs vo vp ∧ RAt rown w m R v0 v1 v2 v3 v4 ∧ (∀ k, own k → ¬ rown k) ∧ (∀ k, own k → B ≤ k) ∧ (∀ k, rown k → B ≤ k) ∧ ∀ p ∈ X, w.heap[p.1]? = some p.2 ∧ ¬ own p.1 ∧ ¬ rown p.1
variable {X : List (Nat × Obj)} {B : Nat} {w w' : World} {d m : Nat} {S S' : DS} {R R' : RS}
theorem Two.size (h : Two X B w d m S R) : B ≤ w.heap.size := by
  obtain ⟨own, mb, bs, vo, vp, rown, v0, v1, v2, v3, v4, hA, hR, hd, ho, hr, hx⟩ := h
  exact Nat.le_trans (hr m hR.ownm) (Nat.le_of_lt hR.lt)
theorem Two.below (h : Two X B w d m S R) (hb : Below w.heap.size w w') : Two X B w' d m S R := by
  obtain ⟨own, mb, bs, vo, vp, rown, v0, v1, v2, v3, v4, hA, hR, hd, ho, hr, hx⟩ := h
  exact ⟨own, mb, bs, vo, vp, rown, v0, v1, v2, v3, v4, hA.below hb, hR.below hb, hd, ho, hr, fun p hp => ⟨(hb.block p.1 (blk_lt (hx p hp).1)).trans (hx p hp).1, (hx p hp).2⟩⟩
theorem Two.drewN (h : Two X B w d m S R) (n : Nat) : Two X B (w.drewN n) d m S R := h.below (pw_below_drewN (Below.refl _ _) n)
theorem Two.drew (h : Two X B w d m S R) : Two X B w.drew d m S R := h.below (below_drew1 (Below.refl _ _))
theorem Two.new (h : Two X B w d m S R) (hb : Below w.heap.size w w') {g : Nat} {o : Obj} (hg : w.heap.size ≤ g) (ho' : w'.heap[g]? = some o) : Two ((g, o) :: X) B w' d m S R := by
  obtain ⟨own, mb, bs, vo, vp, rown, v0, v1, v2, v3, v4, hA, hR, hd, ho, hr, hx⟩ := h
  exact ⟨own, mb, bs, vo, vp, rown, v0, v1, v2, v3, v4, hA.below hb, hR.below hb, hd, ho, hr, fun p hp => by
    rcases List.mem_cons.1 hp with rfl | hp
    · exact ⟨ho', fun q => by have := hA.bnd g q; omega, fun q => by have := hR.bnd g q; omega⟩
    · exact ⟨(hb.block p.1 (blk_lt (hx p hp).1)).trans (hx p hp).1, (hx p hp).2⟩⟩
theorem Two.less {Y : List (Nat × Obj)} (h : Two X B w d m S R) (hY : ∀ p ∈ Y, p ∈ X) : Two Y B w d m S R := by
  obtain ⟨own, mb, bs, vo, vp, rown, v0, v1, v2, v3, v4, hA, hR, hd, ho, hr, hx⟩ := h
  exact ⟨own, mb, bs, vo, vp, rown, v0, v1, v2, v3, v4, hA, hR, hd, ho, hr, fun p hp => hx p (hY p hp)⟩
theorem Two.at (h : Two X B w d m S R) {g : Nat} {o : Obj} (hp : (g, o) ∈ X) : w.heap[g]? = some o := by
  obtain ⟨own, mb, bs, vo, vp, rown, v0, v1, v2, v3, v4, hA, hR, hd, ho, hr, hx⟩ := h
  exact (hx _ hp).1
/-- a call of the program's disk -/
theorem two_d (h : Two X B w d m S R) {f : Nat} {args : Array Value} {Q : Ending → Prop}
    (hc : ∀ {own mb bs vo vp}, At own w d S mb bs vo vp → (∀ k, own k → B ≤ k) → Calls Tryz.prog f args w fun e w' => Q e ∧ (∃ mb' bs' vo' vp', At (Dk.more own w w') w' d S' mb' bs' vo' vp') ∧ Dk.Kept own w w') :
    Calls Tryz.prog f args w fun e w' => Q e ∧ Two X B w' d m S' R ∧ Below B w w' := by
  have hB := h.size
  obtain ⟨own, mb, bs, vo, vp, rown, v0, v1, v2, v3, v4, hA, hR, hd, ho, hr, hx⟩ := h
  refine (hc hA ho).mono ?_
  rintro e w' ⟨hq, ⟨mb', bs', vo', vp', hA'⟩, hK⟩
  refine ⟨hq, ⟨_, mb', bs', vo', vp', rown, v0, v1, v2, v3, v4, hA', hR.kept hK (fun k hk hk2 => hd k hk2 hk), fun k hk hk2 => ?_, more_le hB ho, hr, fun p hp => ⟨(hK.block p.1 (blk_lt (hx p hp).1) (hx p hp).2.1).trans (hx p hp).1, fun hq => hq.elim (hx p hp).2.1 (fun q => by have := blk_lt (hx p hp).1; omega), (hx p hp).2.2⟩⟩, hK.below hB ho⟩
  rcases hk with hk | hk
  · exact hd k hk hk2
  · have := hR.bnd k hk2
    omega
/-- a call of the document's disk -/
theorem two_r (h : Two X B w d m S R) {f : Nat} {args : Array Value} {Q : Ending → Prop}
    (hc : ∀ {own v0 v1 v2 v3 v4}, RAt own w m R v0 v1 v2 v3 v4 → (∀ k, own k → B ≤ k) → Calls Tryz.prog f args w fun e w' => Q e ∧ (∃ v0' v1' v2' v3' v4', RAt (Dk.more own w w') w' m R' v0' v1' v2' v3' v4') ∧ Dk.Kept own w w') :
    Calls Tryz.prog f args w fun e w' => Q e ∧ Two X B w' d m S R' ∧ Below B w w' := by
  have hB := h.size
  obtain ⟨own, mb, bs, vo, vp, rown, v0, v1, v2, v3, v4, hA, hR, hd, ho, hr, hx⟩ := h
  refine (hc hR hr).mono ?_
  rintro e w' ⟨hq, ⟨v0', v1', v2', v3', v4', hR'⟩, hK⟩
  refine ⟨hq, ⟨own, mb, bs, vo, vp, _, v0', v1', v2', v3', v4', hA.kept hK hd, hR', fun k hk hk2 => ?_, ho, more_le hB hr, fun p hp => ⟨(hK.block p.1 (blk_lt (hx p hp).1) (hx p hp).2.2).trans (hx p hp).1, (hx p hp).2.1, fun hq => hq.elim (hx p hp).2.2 (fun q => by have := blk_lt (hx p hp).1; omega)⟩⟩, hK.below hB hr⟩
  rcases hk2 with hk2 | hk2
  · exact hd k hk hk2
  · have := hA.bnd k hk
    omega

/-! ### the calls -/
structure Fit (S : DS) (R : RS) (φ : List Nat) (n : Nat) : Prop where
  sim : Sim S R φ
  s : SmallS S n
  r : SmallR R n
  le : n ≤ 8388608
variable {φ : List Nat} {n : Nat}
theorem Fit.steps0 (h : Fit S R φ n) : 0 ≤ S.steps := by rw [h.sim.made]; exact h.sim.pos
theorem Fit.steps1 (h : Fit S R φ n) : S.steps < 4611686018427387904 := by have := h.s.steps; have := h.le; omega
theorem Fit.made1 (h : Fit S R φ n) : R.made < 4611686018427387904 := by rw [← h.sim.made]; exact h.steps1
theorem Fit.faults (h : Fit S R φ n) : R.faults.length ≤ 1099511627776 := by have := h.r.faults; have := h.le; omega
theorem Fit.files (h : Fit S R φ n) : R.files.length ≤ 8388608 := Nat.le_trans h.r.files h.le
theorem Fit.now (h : Fit S R φ n) : R.now.length ≤ 1099511627776 := by have := h.sim.nowOk.length; have := h.files; omega
theorem Fit.opn (h : Fit S R φ n) : R.opn.length < 1099511627776 := by rw [← h.sim.olen]; have := h.s.opn; have := h.le; omega
theorem Fit.sopn (h : Fit S R φ n) : S.opn.length < 1099511627776 := by have := h.s.opn; have := h.le; omega
theorem Fit.puts (h : Fit S R φ n) : S.puts + 2 * S.opn.length ≤ 25165824 := by have := h.s.puts; have := h.le; omega
theorem Fit.ok (h : Fit S R φ n) : R.ok := fun x hx => by
  have := h.sim.nowOk.idx x hx
  exact ⟨x.f1.toNat, by omega, this.2⟩
theorem maxLen_eq : maxLen = 9223372036854775807 := rfl
theorem write_two (h : Two X B w d m S R) {R2 : RS} (hF : Fit S R2 φ n) (name s : ByteArray) (h1 : name.size ≤ 8388608) (h2 : s.size ≤ 8388608) :
    Calls Tryz.prog 42 #[.pointer (some ⟨d, 0, none⟩), .string name, .string s] w fun e w' => e = .returned (.tuple #[.int .i64 (S.write name s).2.1, .int .i64 (S.write name s).2.2]) ∧ Two X B w' d m (S.write name s).1 R ∧ Below B w w' :=
  two_d h fun hA _ => by
    have hle := hF.le
    have hp := hF.puts
    refine (write_calls hA name s (by rw [maxLen_eq]; omega) hF.steps0 hF.steps1 hF.sopn (by rw [maxLen_eq]; omega) (fun f hf => by have := hF.s.files f hf; rw [maxLen_eq]; omega) (by rw [maxLen_eq]; omega) (fun f hf => by
      rw [hF.sim.plan] at hf
      obtain ⟨x, hx, rfl⟩ := List.mem_map.1 hf
      exact (hF.sim.good.fit x (List.mem_filter.1 hx).1).2.2)).mono ?_
    rintro e w' ⟨he, ⟨bs', vo', vp', hA'⟩, hK⟩
    exact ⟨he, ⟨_, _, _, _, hA'⟩, hK⟩
theorem write_twoR (hF : Fit S R φ n) {S0 : DS} (h0 : Two X B w d m S0 R) (name s : ByteArray) (h2 : s.size ≤ 8388608) :
    Calls Tryz.prog 37 #[.pointer (some ⟨m, 0, none⟩), .string name, .string s] w fun e w' => e = .returned (.tuple #[.int .i64 (R.writeR name s).2.1, .int .i64 (R.writeR name s).2.2]) ∧ Two X B w' d m S0 (R.writeR name s).1 ∧ Below B w w' :=
  two_r h0 fun hA _ => write_r hA hF.ok name s hF.sim.pos hF.made1 hF.faults hF.now hF.opn (by have := hF.files; omega) (fun f hf => by have := hF.r.sizes f hf; have := hF.le; omega) (by omega)
theorem cut_two (h : Two X B w d m S R) {R2 : RS} (hF : Fit S R2 φ n) (name : ByteArray) (sz : Int) (h1 : name.size ≤ 8388608) :
    Calls Tryz.prog 34 #[.pointer (some ⟨d, 0, none⟩), .string name, .int .i64 sz] w fun e w' => e = .returned (.int .i64 (S.cut name sz).2) ∧ Two X B w' d m (S.cut name sz).1 R ∧ Below B w w' :=
  two_d h fun hA _ => by
    refine (cut_calls hA name sz (by rw [maxLen_eq]; omega) hF.steps0 hF.steps1).mono ?_
    rintro e w' ⟨he, ⟨vp', hA'⟩, hK⟩
    exact ⟨he, ⟨_, _, _, _, hA'.more hK⟩, hK⟩
theorem cut_twoR (hF : Fit S R φ n) {S0 : DS} (h0 : Two X B w d m S0 R) (name : ByteArray) (sz : Int) :
    Calls Tryz.prog 40 #[.pointer (some ⟨m, 0, none⟩), .string name, .int .i64 sz] w fun e w' => e = .returned (.int .i64 (R.cutR name sz).2) ∧ Two X B w' d m S0 (R.cutR name sz).1 ∧ Below B w w' :=
  two_r h0 fun hA _ => cut_r hA hF.ok name sz hF.sim.pos hF.made1 hF.faults hF.now
theorem sync_two (h : Two X B w d m S R) {R2 : RS} (hF : Fit S R2 φ n) (name : ByteArray) (h1 : name.size ≤ 8388608) :
    Calls Tryz.prog 35 #[.pointer (some ⟨d, 0, none⟩), .string name] w fun e w' => e = .returned (.int .i64 (S.sync name).2) ∧ Two X B w' d m (S.sync name).1 R ∧ Below B w w' :=
  two_d h fun hA _ => by
    refine (sync_calls hA name (by rw [maxLen_eq]; omega) hF.steps0 hF.steps1).mono ?_
    rintro e w' ⟨he, ⟨vp', hA'⟩, hK⟩
    exact ⟨he, ⟨_, _, _, _, hA'.more hK⟩, hK⟩
theorem sync_twoR (hF : Fit S R φ n) {S0 : DS} (h0 : Two X B w d m S0 R) (name : ByteArray) :
    Calls Tryz.prog 41 #[.pointer (some ⟨m, 0, none⟩), .string name] w fun e w' => e = .returned (.int .i64 (R.syncR name).2) ∧ Two X B w' d m S0 (R.syncR name).1 ∧ Below B w w' :=
  two_r h0 fun hA _ => sync_r hA hF.ok name hF.sim.pos hF.made1 hF.faults hF.now
theorem syncNames_two (h : Two X B w d m S R) {R2 : RS} (hF : Fit S R2 φ n) :
    Calls Tryz.prog 52 #[.pointer (some ⟨d, 0, none⟩)] w fun e w' => e = .returned (.int .i64 S.syncNames.2) ∧ Two X B w' d m S.syncNames.1 R ∧ Below B w w' :=
  two_d h fun hA _ => by
    refine (syncNames_calls hA hF.steps0 hF.steps1).mono ?_
    rintro e w' ⟨he, ⟨vo', vp', hA'⟩, hK⟩
    exact ⟨he, ⟨_, _, _, _, hA'.more hK⟩, hK⟩
theorem syncNames_twoR (hF : Fit S R φ n) {S0 : DS} (h0 : Two X B w d m S0 R) :
    Calls Tryz.prog 38 #[.pointer (some ⟨m, 0, none⟩)] w fun e w' => e = .returned (.int .i64 R.syncNamesR.2) ∧ Two X B w' d m S0 R.syncNamesR.1 ∧ Below B w w' :=
  two_r h0 fun hA _ => syncNames_r hA hF.sim.pos hF.made1 hF.faults
theorem plan_two (h : Two X B w d m S R) {base : Nat} {ok : Nat → Prop} {v : Value} {l : List S40} (hV : Kd.R k40 40 w base ok v l) :
    Calls Tryz.prog 22 #[.pointer (some ⟨d, 0, none⟩), v] w fun e w' => e = .returned (.int .i64 (S.planned (l.map toF)).2) ∧ Two X B w' d m (S.planned (l.map toF)).1 R ∧ Below B w w' :=
  two_d h fun hA _ => by
    refine (plan_any hA hV).mono ?_
    rintro e w' ⟨he, ⟨vp', hA'⟩, hK⟩
    exact ⟨he, ⟨_, _, _, _, hA'⟩, hK⟩
theorem plan_twoR {S0 : DS} (h0 : Two X B w d m S0 R) {base : Nat} {ok : Nat → Prop} {v : Value} {l : List S40} (hV : Kd.R k40 40 w base ok v l) :
    Calls Tryz.prog 23 #[.pointer (some ⟨m, 0, none⟩), v] w fun e w' => e = .returned (.int .i64 (R.planR l).2) ∧ Two X B w' d m S0 (R.planR l).1 ∧ Below B w w' :=
  two_r h0 fun hA _ => by
    refine (plan_r hA hV).mono ?_
    rintro e w' ⟨he, ⟨v4', hA'⟩, hK⟩
    exact ⟨he, ⟨_, _, _, _, _, hA'⟩, hK⟩
theorem crash_two (h : Two X B w d m S R) {R2 : RS} (hF : Fit S R2 φ n) (c : Int) (l : List Int) {vb : Value} (hb : IntsAt w vb l) (hbo : l ≠ [] → ∀ k, vb.ownBlock = some k → k < B) (hc : S.crash c l = some S') :
    Calls Tryz.prog 24 #[.pointer (some ⟨d, 0, none⟩), .agg #[.int .i64 c, vb]] w fun e w' => e = .returned (.tuple #[]) ∧ Two X B w' d m S' R ∧ Below B w w' :=
  two_d h fun hA ho => by
    have hp := hF.puts
    have hle := hF.le
    refine (crash_calls hA c l hb (fun hne k hk hq => by have := hbo hne k hk; have := ho k hq; omega) (by omega) (fun x hx => by have := hF.s.names x hx; rw [maxLen_eq]; omega) (fun f hf => by have := hF.s.files f hf; rw [maxLen_eq]; omega) hc).mono ?_
    rintro e w' ⟨he, ⟨vo', vp', hA'⟩, hK⟩
    exact ⟨he, ⟨_, _, _, _, hA'.more hK⟩, hK⟩
theorem crash_twoR (hF : Fit S R φ n) {S0 : DS} (h0 : Two X B w d m S0 R) (c : Int) (l : List Int) {vb : Value} (hb : IntsAt w vb l) :
    Calls Tryz.prog 25 #[.pointer (some ⟨m, 0, none⟩), .agg #[.int .i64 c, vb]] w fun e w' => e = .returned (.tuple #[]) ∧ Two X B w' d m S0 (R.crashR c l) ∧ Below B w w' :=
  two_r h0 fun hA _ => crash_r hA c l hb (fun i => by have := (hF.sim.nok i).length; have := hF.files; omega) (Nat.le_of_lt hF.opn) (fun x hx => by
    have h1 := (hF.sim.nok _).idx x hx
    have hf : R.files[x.f1.toNat]? = some R.files[x.f1.toNat] := List.getElem?_eq_getElem h1.2
    have h2 := hF.sim.fok _ (List.getElem_mem h1.2)
    have h3 := hF.r.sizes _ (List.getElem_mem h1.2)
    exact ⟨x.f1.toNat, _, by omega, hf, h2.1, h2.2, by have := hF.le; omega⟩)
theorem read_two (h : Two X B w d m S R) (name : ByteArray) (h1 : name.size ≤ 8388608) :
    Calls Tryz.prog 8 #[.pointer (some ⟨d, 0, none⟩), .string name] w fun e w' => e = .returned (.tuple #[.string (S.read name).1, .int .i64 (S.read name).2]) ∧ w' = w := by
  obtain ⟨own, mb, bs, vo, vp, rown, v0, v1, v2, v3, v4, hA, hR, hd, ho, hr, hx⟩ := h
  exact read_calls hA name (by rw [maxLen_eq]; omega)
theorem read_twoR (hF : Fit S R φ n) (h : Two X B w d m S R) (name : ByteArray) :
    Calls Tryz.prog 9 #[.pointer (some ⟨m, 0, none⟩), .string name] w fun e w' => e = .returned (.tuple #[.string (R.readR name).1, .int .i64 (R.readR name).2]) ∧ Drawn0 w w' := by
  obtain ⟨own, mb, bs, vo, vp, rown, v0, v1, v2, v3, v4, hA, hR, hd, ho, hr, hx⟩ := h
  exact read_r hR hF.ok name hF.now
theorem steps_two (h : Two X B w d m S R) : Calls Tryz.prog 21 #[.pointer (some ⟨d, 0, none⟩)] w fun e w' => e = .returned (.int .i64 S.steps) ∧ w' = w := by
  obtain ⟨own, mb, bs, vo, vp, rown, v0, v1, v2, v3, v4, hA, hR, hd, ho, hr, hx⟩ := h
  exact steps_calls hA
theorem Two.madeCell (h : Two X B w d m S R) : w.cell? ⟨m, 5, none⟩ = some (.int .i64 R.made) := by
  obtain ⟨own, mb, bs, vo, vp, rown, v0, v1, v2, v3, v4, hA, hR, hd, ho, hr, hx⟩ := h
  exact hR.cells.2.2.2.2.2
end Go.Proofs.YtomhgoahhlnjpaaGreatDoor.Rf
