/- The disk's methods, as one calls them: where the disk lies in memory is hidden. -/
import Derived.Test.YtomhgoahhlnjpaaGreatDoorDkH
import Derived.Test.YtomhgoahhlnjpaaGreatDoorDkI
import Derived.Test.YtomhgoahhlnjpaaGreatDoorDkJ
import Derived.Test.YtomhgoahhlnjpaaGreatDoorDkN
namespace Go.Proofs.YtomhgoahhlnjpaaGreatDoor.Dk
open Go.RowKit Go.Maps Go.ChangeMaps Go.WideAt Go.WideMaps Go.Sort Go.Proofs.YtomhgoahhlnjpaaGreatDoorW.PrintWords

/-- a disk lies at d, in blocks from B on -/
def Live (B : Nat) (w : World) (d : Nat) (S : DS) : Prop := ∃ own mb bs vo vp, At own w d S mb bs vo vp ∧ ∀ k, own k → B ≤ k
theorem Live.lt {B : Nat} {w : World} {d : Nat} {S : DS} (h : Live B w d S) : d < w.heap.size := by
  obtain ⟨own, mb, bs, vo, vp, hA, _⟩ := h
  exact blk_lt hA.blk
theorem Live.below {B : Nat} {w w' : World} {d : Nat} {S : DS} (h : Live B w d S) (hb : Below w.heap.size w w') : Live B w' d S := by
  obtain ⟨own, mb, bs, vo, vp, hA, ho⟩ := h
  exact ⟨own, mb, bs, vo, vp, hA.below hb, ho⟩
theorem more_le {own : Nat → Prop} {B : Nat} {w w' : World} (hB : B ≤ w.heap.size) (ho : ∀ k, own k → B ≤ k) : ∀ k, more own w w' k → B ≤ k := fun k hk => by
  rcases hk with hk | hk
  · exact ho k hk
  · omega

section
variable {B : Nat} {w : World} {d : Nat} {S : DS}
theorem new_live (hB : B ≤ w.heap.size) : Calls Tryz.prog 4 #[] w fun e w' => ∃ d, e = .returned (.pointer (some ⟨d, 0, none⟩)) ∧ Live B w' d DS.new ∧ Below B w w' := by
  refine (new_calls w).mono ?_
  rintro e w' ⟨d, mb, rfl, hb, hA⟩
  exact ⟨d, rfl, ⟨_, _, _, _, _, hA, fun k hk => by have := hk.1; omega⟩, hb.mono hB⟩
theorem write_live (h : Live B w d S) (hB : B ≤ w.heap.size) (name s : ByteArray) (hl : name.size ≤ maxLen) (h0 : 0 ≤ S.steps) (h1 : S.steps < 4611686018427387904) (hn : S.opn.length < 1099511627776) (hp : S.puts < maxLen)
    (hf : ∀ f ∈ S.fs, f.1.size + s.size ≤ maxLen) (hs : s.size ≤ maxLen) (hpl : ∀ f ∈ S.plan, 0 ≤ f.n) :
    Calls Tryz.prog 42 #[.pointer (some ⟨d, 0, none⟩), .string name, .string s] w fun e w' => e = .returned (.tuple #[.int .i64 (S.write name s).2.1, .int .i64 (S.write name s).2.2]) ∧ Live B w' d (S.write name s).1 ∧ Below B w w' := by
  obtain ⟨own, mb, bs, vo, vp, hA, ho⟩ := h
  refine (write_calls hA name s hl h0 h1 hn hp hf hs hpl).mono ?_
  rintro e w' ⟨rfl, ⟨bs', vo', vp', hA'⟩, hK⟩
  exact ⟨rfl, ⟨_, _, _, _, _, hA', more_le hB ho⟩, hK.below hB ho⟩
theorem cut_live (h : Live B w d S) (hB : B ≤ w.heap.size) (name : ByteArray) (sz : Int) (hl : name.size ≤ maxLen) (h0 : 0 ≤ S.steps) (h1 : S.steps < 4611686018427387904) :
    Calls Tryz.prog 34 #[.pointer (some ⟨d, 0, none⟩), .string name, .int .i64 sz] w fun e w' => e = .returned (.int .i64 (S.cut name sz).2) ∧ Live B w' d (S.cut name sz).1 ∧ Below B w w' := by
  obtain ⟨own, mb, bs, vo, vp, hA, ho⟩ := h
  refine (cut_calls hA name sz hl h0 h1).mono ?_
  rintro e w' ⟨rfl, ⟨vp', hA'⟩, hK⟩
  exact ⟨rfl, ⟨_, _, _, _, _, hA', ho⟩, hK.below hB ho⟩
theorem sync_live (h : Live B w d S) (hB : B ≤ w.heap.size) (name : ByteArray) (hl : name.size ≤ maxLen) (h0 : 0 ≤ S.steps) (h1 : S.steps < 4611686018427387904) :
    Calls Tryz.prog 35 #[.pointer (some ⟨d, 0, none⟩), .string name] w fun e w' => e = .returned (.int .i64 (S.sync name).2) ∧ Live B w' d (S.sync name).1 ∧ Below B w w' := by
  obtain ⟨own, mb, bs, vo, vp, hA, ho⟩ := h
  refine (sync_calls hA name hl h0 h1).mono ?_
  rintro e w' ⟨rfl, ⟨vp', hA'⟩, hK⟩
  exact ⟨rfl, ⟨_, _, _, _, _, hA', ho⟩, hK.below hB ho⟩
theorem syncNames_live (h : Live B w d S) (hB : B ≤ w.heap.size) (h0 : 0 ≤ S.steps) (h1 : S.steps < 4611686018427387904) :
    Calls Tryz.prog 52 #[.pointer (some ⟨d, 0, none⟩)] w fun e w' => e = .returned (.int .i64 S.syncNames.2) ∧ Live B w' d S.syncNames.1 ∧ Below B w w' := by
  obtain ⟨own, mb, bs, vo, vp, hA, ho⟩ := h
  refine (syncNames_calls hA h0 h1).mono ?_
  rintro e w' ⟨rfl, ⟨vo', vp', hA'⟩, hK⟩
  exact ⟨rfl, ⟨_, _, _, _, _, hA', ho⟩, hK.below hB ho⟩
theorem plan_live (h : Live B w d S) (hB : B ≤ w.heap.size) {v : Value} {l : List Fault} (hv : PlanAt w v l) (hne : l ≠ []) :
    Calls Tryz.prog 22 #[.pointer (some ⟨d, 0, none⟩), v] w fun e w' => e = .returned (.int .i64 (S.planned l).2) ∧ Live B w' d (S.planned l).1 ∧ Below B w w' := by
  obtain ⟨own, mb, bs, vo, vp, hA, ho⟩ := h
  refine (plan_calls hA hv hne).mono ?_
  rintro e w' ⟨rfl, ⟨vp', hA'⟩, hK⟩
  exact ⟨rfl, ⟨_, _, _, _, _, hA', more_le hB ho⟩, hK.below hB ho⟩
theorem read_live (h : Live B w d S) (name : ByteArray) (hl : name.size ≤ maxLen) :
    Calls Tryz.prog 8 #[.pointer (some ⟨d, 0, none⟩), .string name] w fun e w' => e = .returned (.tuple #[.string (S.read name).1, .int .i64 (S.read name).2]) ∧ w' = w := by
  obtain ⟨own, mb, bs, vo, vp, hA, ho⟩ := h
  exact read_calls hA name hl
theorem steps_live (h : Live B w d S) : Calls Tryz.prog 21 #[.pointer (some ⟨d, 0, none⟩)] w fun e w' => e = .returned (.int .i64 S.steps) ∧ w' = w := by
  obtain ⟨own, mb, bs, vo, vp, hA, ho⟩ := h
  exact steps_calls hA
theorem names_live (h : Live B w d S) (hB : B ≤ w.heap.size) (hp : S.puts ≤ 8796093022208) :
    Calls Tryz.prog 46 #[.pointer (some ⟨d, 0, none⟩)] w fun e w' => ∃ A c, e = .returned (.slice A S.names.length c) ∧ w'.ownsRow w.heap.size 9 1 (.slice A S.names.length c) S.names.length (S.names.map encStr) ∧ Live B w' d S ∧ Below B w w' := by
  have h' := h
  obtain ⟨own, mb, bs, vo, vp, hA, ho⟩ := h
  refine (names_calls hA hp).mono ?_
  rintro e w' ⟨v, rfl, hr, hb⟩
  obtain ⟨A, c, rfl⟩ := own_slice hr
  exact ⟨A, c, rfl, hr, h'.below hb, hb.mono hB⟩
theorem crash_live {w0 : World} (h : Live B w0 d S) (h0 : Below w0.heap.size w0 w) (hB : B ≤ w0.heap.size) (n : Int) (l : List Int) {vb : Value} (hb : IntsAt w vb l) (hbo : l ≠ [] → ∀ k, vb.ownBlock = some k → k < B ∨ w0.heap.size ≤ k)
    (hp : S.puts + 2 * S.opn.length ≤ 8796093022208) (hsz : ∀ c ∈ S.opn, c.a.size ≤ maxLen ∧ c.b.size ≤ maxLen) (hz : ∀ f ∈ S.fs, f.1.size ≤ maxLen) {R : DS} (hc : S.crash n l = some R) :
    Calls Tryz.prog 24 #[.pointer (some ⟨d, 0, none⟩), .agg #[.int .i64 n, vb]] w fun e w' => e = .returned (.tuple #[]) ∧ Live B w' d R ∧ Below B w w' := by
  obtain ⟨own, mb, bs, vo, vp, hA, ho⟩ := h
  refine (crash_calls (hA.below h0) n l hb (fun hne k hk hq => by
    have h1 := ho k hq
    have h2 := hA.bnd k hq
    rcases hbo hne k hk with h3 | h3 <;> omega) hp hsz hz hc).mono ?_
  rintro e w' ⟨rfl, ⟨vo', vp', hA'⟩, hK⟩
  exact ⟨rfl, ⟨_, _, _, _, _, hA', ho⟩, hK.below (Nat.le_trans hB h0.size) ho⟩
end

end Go.Proofs.YtomhgoahhlnjpaaGreatDoor.Dk
