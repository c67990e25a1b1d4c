/- The disk's methods, walked: undo. -/
import Derived.Test.YtomhgoahhlnjpaaGreatDoorDks
namespace Go.Proofs.YtomhgoahhlnjpaaGreatDoor.Dk
open Go.RowKit Go.Maps Go.ChangeMaps Go.WideAt Go.WideMaps Go.Proofs.YtomhgoahhlnjpaaGreatDoorW.PrintWords

def DS.undo1 (S : DS) (c : Chg) : DS := if c.kind = 1 then { S with D := S.D.put (keyL c.a) (refD (S.find c.b)), puts := S.puts + 1 } else S
def DS.undo2 (T : DS) (c : Chg) : DS := match c.old with
  | none => { T with D := T.D.del (keyL c.b) }
  | some i => { T with D := T.D.put (keyL c.b) (refD (some i)), puts := T.puts + 1 }
def DS.undo (S : DS) (c : Chg) : DS := (S.undo1 c).undo2 c

set_option maxHeartbeats 4000000 in
theorem undo_calls {own : Nat → Prop} {w : World} {d mb : Nat} {S : DS} {bs : List Nat} {vo vp : Value} (h : At own w d S mb bs vo vp) (c : Chg) (hold : ∀ i, c.old = some i → i < bs.length) (hla : c.a.size ≤ maxLen) (hlb : c.b.size ≤ maxLen) (hp : S.puts + 1 < maxLen) :
    Calls Tryz.prog 45 #[.pointer (some ⟨d, 0, none⟩), .agg #[.string c.a, .string c.b, fileV bs c.old, .int .i64 c.kind]] w fun e w' => e = .returned (.tuple #[]) ∧ At own w' d (S.undo c) mb bs vo vp ∧ Kept own w w' := by
  obtain ⟨c0, c1, c2, c3⟩ := h.cells
  have H := Aside0.mk h
  have HO := Aside0.mk hold
  have HLa := Aside0.mk hla
  have HLb := Aside0.mk hlb
  have HP := Aside0.mk hp
  have hdlt := blk_lt h.blk
  clear h hold hla hlb hp
  unfold DS.undo
  obtain ⟨a, b, old, kind⟩ := c
  cases old with
  | none =>
    generalize hc : (⟨a, b, none, kind⟩ : Chg) = c at *
    have hu : fileV bs c.old = .pointer none := by rw [← hc]; rfl
    have HU2 : Aside0 (∀ T : DS, T.undo2 c = { T with D := T.D.del (keyL c.b) }) := ⟨fun T => by rw [← hc]; rfl⟩
    rw [hu, HU2.out]
    clear hc hu HU2
    by_cases hk : c.kind = 1
    · have hk2 : (c.kind == 1) = true := by simpa using hk
      have HU1 : Aside0 (S.undo1 c = { S with D := S.D.put (keyL c.a) (refD (S.find c.b)), puts := S.puts + 1 }) := ⟨by unfold DS.undo1; rw [if_pos hk]⟩
      rw [HU1.out]
      clear hk HU1
      go_enter Tryz.func45, Tryz.ntmps45
      go_wp2
      have HA1 := Aside0.mk (H.out.below ((Below.refl w.heap.size w).alloc (Nat.le_refl _) (.cells #[.string c.a, .string c.b, .pointer none, .int .i64 c.kind] 109)))
      have X1 : Aside0 ((w.alloc (.cells #[.string c.a, .string c.b, .pointer none, .int .i64 c.kind] 109)).heap[w.heap.size]? = some (.cells #[.string c.a, .string c.b, .pointer none, .int .i64 c.kind] 109 (0, 0)) ∧ ¬ own w.heap.size) := ⟨heap_alloc_new w _, fun ho => absurd (H.out.bnd _ ho) (Nat.lt_irrefl _)⟩
      have HK1 : Aside0 (Kept own w (w.alloc (.cells #[.string c.a, .string c.b, .pointer none, .int .i64 c.kind] 109))) := ⟨Kept.of_below ((Below.refl w.heap.size w).alloc (Nat.le_refl _) (.cells #[.string c.a, .string c.b, .pointer none, .int .i64 c.kind] 109))⟩
      generalize w.alloc (.cells #[.string c.a, .string c.b, .pointer none, .int .i64 c.kind] 109) = w1 at HA1 X1 HK1 ⊢
      generalize w.heap.size = g at X1 ⊢
      have hlt1 := blk_lt HA1.out.blk
      have hgt1 := blk_lt X1.out.1
      obtain ⟨k0, k1, k2, k3⟩ := HA1.out.cells
      have x0 := blk_cell X1.out.1 0
      have x1 := blk_cell X1.out.1 1
      have x2 := blk_cell X1.out.1 2
      obtain ⟨ub, hub⟩ := (show ∃ ub, fileV bs (S.find c.b) = .pointer ub by cases S.find c.b <;> exact ⟨_, rfl⟩)
      have hlk := HA1.out.drew.lookEq c.b HLb.out _ hub
      obtain ⟨w4, hst, hA4, hK4⟩ := HA1.out.drew.storeEq c.a HLa.out (by have := HP.out; show S.puts < maxLen; omega) (S.find c.b) (fun j hj => HA1.out.find_lt c.b j hj) (.pointer ub) hub
      have HA4 := Aside0.mk hA4
      have HK4 := Aside0.mk ((HK1.out.drew.trans hK4 (fun _ hk => .inl hk)))
      have X4 := Aside0.mk ((hK4.block g (blk_lt X1.out.1) X1.out.2).trans X1.out.1)
      clear hA4 hK4 hub
      go_region
      clear k0 k1 k2 k3 x0 x1 x2 hlk hst
      obtain ⟨k0, k1, k2, k3⟩ := HA4.out.cells
      have x0 := blk_cell X4.out 0
      have x1 := blk_cell X4.out 1
      have x2 := blk_cell X4.out 2
      have hlt4 := blk_lt HA4.out.blk
      have hgt4 := blk_lt X4.out
      go_wp2
      go_region_law (refine delete_step_dk (by rfl) (.tmp 27) (.tmp 29) rfl HA4.out.drew rfl c.b rfl HLb.out ?_; intro w5 hA5 hK5; have HA5 := Aside0.mk hA5; have HK5 := Aside0.mk hK5; clear hA5 hK5)
      all_goals
        go_end0
        exact ⟨rfl, HA5.out, HK4.out.drew.trans HK5.out (fun _ hk => .inl hk)⟩

    · have hk2 : (c.kind == 1) = false := by simpa using hk
      have HU1 : Aside0 (S.undo1 c = S) := ⟨by unfold DS.undo1; rw [if_neg hk]⟩
      rw [HU1.out]
      clear hk HU1
      go_enter Tryz.func45, Tryz.ntmps45
      have HA4 := Aside0.mk (H.out.below ((Below.refl w.heap.size w).alloc (Nat.le_refl _) (.cells #[.string c.a, .string c.b, .pointer none, .int .i64 c.kind] 109)))
      go_wp2
      have X4 : Aside0 ((w.alloc (.cells #[.string c.a, .string c.b, .pointer none, .int .i64 c.kind] 109)).heap[w.heap.size]? = some (.cells #[.string c.a, .string c.b, .pointer none, .int .i64 c.kind] 109 (0, 0))) := ⟨heap_alloc_new w _⟩
      have HK4 : Aside0 (Kept own w (w.alloc (.cells #[.string c.a, .string c.b, .pointer none, .int .i64 c.kind] 109))) := ⟨Kept.of_below ((Below.refl w.heap.size w).alloc (Nat.le_refl _) (.cells #[.string c.a, .string c.b, .pointer none, .int .i64 c.kind] 109))⟩
      generalize w.alloc (.cells #[.string c.a, .string c.b, .pointer none, .int .i64 c.kind] 109) = w4 at HA4 X4 HK4 ⊢
      generalize w.heap.size = g at X4 ⊢
      have hlt4 := blk_lt HA4.out.blk
      have hgt4 := blk_lt X4.out
      obtain ⟨k0, k1, k2, k3⟩ := HA4.out.cells
      have x0 := blk_cell X4.out 0
      have x1 := blk_cell X4.out 1
      have x2 := blk_cell X4.out 2
      go_region_law (refine delete_step_dk (by rfl) (.tmp 27) (.tmp 29) rfl HA4.out.drew rfl c.b rfl HLb.out ?_; intro w5 hA5 hK5; have HA5 := Aside0.mk hA5; have HK5 := Aside0.mk hK5; clear hA5 hK5)
      all_goals
        go_end0
        exact ⟨rfl, HA5.out, HK4.out.drew.trans HK5.out (fun _ hk => .inl hk)⟩

  | some i =>
    obtain ⟨fb, hfb⟩ : ∃ fb, bs.getD i 0 = fb := ⟨_, rfl⟩
    have HI : Aside0 (i < bs.length) := ⟨HO.out i rfl⟩
    generalize hc : (⟨a, b, some i, kind⟩ : Chg) = c at *
    have hu : fileV bs c.old = .pointer (some ⟨fb, 0, none⟩) := by rw [← hc, ← hfb]; rfl
    have HV : Aside0 (fileV bs (some i) = .pointer (some ⟨fb, 0, none⟩)) := ⟨by rw [← hfb]; rfl⟩
    have HU2 : Aside0 (∀ T : DS, T.undo2 c = { T with D := T.D.put (keyL c.b) (refD (some i)), puts := T.puts + 1 }) := ⟨fun T => by rw [← hc]; rfl⟩
    rw [hu, HU2.out]
    clear hc hu HU2 hfb
    by_cases hk : c.kind = 1
    · have hk2 : (c.kind == 1) = true := by simpa using hk
      have HU1 : Aside0 (S.undo1 c = { S with D := S.D.put (keyL c.a) (refD (S.find c.b)), puts := S.puts + 1 }) := ⟨by unfold DS.undo1; rw [if_pos hk]⟩
      rw [HU1.out]
      clear hk HU1
      go_enter Tryz.func45, Tryz.ntmps45
      go_wp2
      have HA1 := Aside0.mk (H.out.below ((Below.refl w.heap.size w).alloc (Nat.le_refl _) (.cells #[.string c.a, .string c.b, .pointer (some ⟨fb, 0, none⟩), .int .i64 c.kind] 109)))
      have X1 : Aside0 ((w.alloc (.cells #[.string c.a, .string c.b, .pointer (some ⟨fb, 0, none⟩), .int .i64 c.kind] 109)).heap[w.heap.size]? = some (.cells #[.string c.a, .string c.b, .pointer (some ⟨fb, 0, none⟩), .int .i64 c.kind] 109 (0, 0)) ∧ ¬ own w.heap.size) := ⟨heap_alloc_new w _, fun ho => absurd (H.out.bnd _ ho) (Nat.lt_irrefl _)⟩
      have HK1 : Aside0 (Kept own w (w.alloc (.cells #[.string c.a, .string c.b, .pointer (some ⟨fb, 0, none⟩), .int .i64 c.kind] 109))) := ⟨Kept.of_below ((Below.refl w.heap.size w).alloc (Nat.le_refl _) (.cells #[.string c.a, .string c.b, .pointer (some ⟨fb, 0, none⟩), .int .i64 c.kind] 109))⟩
      generalize w.alloc (.cells #[.string c.a, .string c.b, .pointer (some ⟨fb, 0, none⟩), .int .i64 c.kind] 109) = w1 at HA1 X1 HK1 ⊢
      generalize w.heap.size = g at X1 ⊢
      have hlt1 := blk_lt HA1.out.blk
      have hgt1 := blk_lt X1.out.1
      obtain ⟨k0, k1, k2, k3⟩ := HA1.out.cells
      have x0 := blk_cell X1.out.1 0
      have x1 := blk_cell X1.out.1 1
      have x2 := blk_cell X1.out.1 2
      obtain ⟨ub, hub⟩ := (show ∃ ub, fileV bs (S.find c.b) = .pointer ub by cases S.find c.b <;> exact ⟨_, rfl⟩)
      have hlk := HA1.out.drew.lookEq c.b HLb.out _ hub
      obtain ⟨w4, hst, hA4, hK4⟩ := HA1.out.drew.storeEq c.a HLa.out (by have := HP.out; show S.puts < maxLen; omega) (S.find c.b) (fun j hj => HA1.out.find_lt c.b j hj) (.pointer ub) hub
      have HA4 := Aside0.mk hA4
      have HK4 := Aside0.mk ((HK1.out.drew.trans hK4 (fun _ hk => .inl hk)))
      have X4 := Aside0.mk ((hK4.block g (blk_lt X1.out.1) X1.out.2).trans X1.out.1)
      clear hA4 hK4 hub
      go_region
      clear k0 k1 k2 k3 x0 x1 x2 hlk hst
      obtain ⟨k0, k1, k2, k3⟩ := HA4.out.cells
      have x0 := blk_cell X4.out 0
      have x1 := blk_cell X4.out 1
      have x2 := blk_cell X4.out 2
      have hlt4 := blk_lt HA4.out.blk
      have hgt4 := blk_lt X4.out
      go_wp2
      obtain ⟨w5, hst, hA5, hK5⟩ := HA4.out.drew.storeEq c.b HLb.out (by have := HP.out; show S.puts + 1 < maxLen; omega) (some i) (fun j hj => by cases hj; exact HI.out) (.pointer (some ⟨fb, 0, none⟩)) HV.out
      have HA5 := Aside0.mk hA5
      have HK5 := Aside0.mk hK5
      clear hA5 hK5
      go_region
      go_end0
      exact ⟨rfl, HA5.out, HK4.out.drew.trans HK5.out (fun _ hk => .inl hk)⟩

    · have hk2 : (c.kind == 1) = false := by simpa using hk
      have HU1 : Aside0 (S.undo1 c = S) := ⟨by unfold DS.undo1; rw [if_neg hk]⟩
      rw [HU1.out]
      clear hk HU1
      go_enter Tryz.func45, Tryz.ntmps45
      have HA4 := Aside0.mk (H.out.below ((Below.refl w.heap.size w).alloc (Nat.le_refl _) (.cells #[.string c.a, .string c.b, .pointer (some ⟨fb, 0, none⟩), .int .i64 c.kind] 109)))
      go_wp2
      have X4 : Aside0 ((w.alloc (.cells #[.string c.a, .string c.b, .pointer (some ⟨fb, 0, none⟩), .int .i64 c.kind] 109)).heap[w.heap.size]? = some (.cells #[.string c.a, .string c.b, .pointer (some ⟨fb, 0, none⟩), .int .i64 c.kind] 109 (0, 0))) := ⟨heap_alloc_new w _⟩
      have HK4 : Aside0 (Kept own w (w.alloc (.cells #[.string c.a, .string c.b, .pointer (some ⟨fb, 0, none⟩), .int .i64 c.kind] 109))) := ⟨Kept.of_below ((Below.refl w.heap.size w).alloc (Nat.le_refl _) (.cells #[.string c.a, .string c.b, .pointer (some ⟨fb, 0, none⟩), .int .i64 c.kind] 109))⟩
      generalize w.alloc (.cells #[.string c.a, .string c.b, .pointer (some ⟨fb, 0, none⟩), .int .i64 c.kind] 109) = w4 at HA4 X4 HK4 ⊢
      generalize w.heap.size = g at X4 ⊢
      have hlt4 := blk_lt HA4.out.blk
      have hgt4 := blk_lt X4.out
      obtain ⟨k0, k1, k2, k3⟩ := HA4.out.cells
      have x0 := blk_cell X4.out 0
      have x1 := blk_cell X4.out 1
      have x2 := blk_cell X4.out 2
      obtain ⟨w5, hst, hA5, hK5⟩ := HA4.out.drew.storeEq c.b HLb.out (by have := HP.out; show S.puts < maxLen; omega) (some i) (fun j hj => by cases hj; exact HI.out) (.pointer (some ⟨fb, 0, none⟩)) HV.out
      have HA5 := Aside0.mk hA5
      have HK5 := Aside0.mk hK5
      clear hA5 hK5
      go_region
      go_end0
      exact ⟨rfl, HA5.out, HK4.out.drew.trans HK5.out (fun _ hk => .inl hk)⟩


end Go.Proofs.YtomhgoahhlnjpaaGreatDoor.Dk
