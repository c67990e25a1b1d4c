/- The log, walked: Open. -/
import Derived.Test.YtdnfflfofgeokaaDoorWlB
namespace Go.Proofs.YtdnfflfofgeokaaDoor.WalL
open Go.RowKit Go.Extern.Stop Go.Stop Go.Extern Go.Proofs.YtdnfflfofgeokaaDoorW.PrintWords Go.Proofs.YtdnfflfofgeokaaDoor.WalN Go.Proofs.YtdnfflfofgeokaaDoor.Dk Go.Proofs.YtdnfflfofgeokaaDoor.PWal Go.Proofs.YtdnfflfofgeokaaDoor.WalB

theorem c23_move {w w' : World} {A : Option Addr} {n : Nat} {l : List S23} (h : Kd.C k23 w A n l) (hb : ∀ ad, A = some ad → w'.heap[ad.block]? = w.heap[ad.block]?) : Kd.C k23 w' A n l := by
  refine ⟨h.1, h.2.1, fun hn => ?_⟩
  obtain ⟨ad, hA, hc⟩ := h.2.2 hn
  refine ⟨ad, hA, fun j x hx => ?_⟩
  obtain ⟨c, h1, h2, h3⟩ := hc j x hx
  refine ⟨c, h1, ?_, fun i u hu => ?_⟩
  · obtain ⟨a, b, e1, e2, e3⟩ := h2
    exact ⟨a, b, e1, e2, e3⟩
  · have h4 := h3 i u hu
    rw [← h4]
    refine World.cell?_of_block ?_
    have hbk : (ad.add (j * k23.sz + i)).block = ad.block := by unfold Addr.add; split <;> rfl
    rw [hbk]
    exact hb ad hA
/-- the last record's number -/
theorem last_cell {w : World} {A : Option Addr} {l : List S23} {m : Nat} (h : Kd.C k23 w A l.length l) (hm : l.length = m + 1) : ∃ b o, A = some ⟨b, o, none⟩ ∧ w.cell? ⟨b, o + m * 2, none⟩ = some (.int .i64 (lastOf l)) := by
  obtain ⟨ad, hA, hc⟩ := h.2.2 (by omega)
  obtain ⟨x, hx⟩ : ∃ x, l[m]? = some x := ⟨_, List.getElem?_eq_getElem (by omega)⟩
  obtain ⟨c, _, h2, h3⟩ := hc m x hx
  have hc2 := k23_open h2
  have h4 := h3 0 (.int .i64 x.f0) (by rw [hc2]; rfl)
  obtain ⟨x0, hx0⟩ : ∃ x, l[0]? = some x := ⟨_, List.getElem?_eq_getElem (by omega)⟩
  obtain ⟨c0, _, h20, h30⟩ := hc 0 x0 hx0
  have hc0 := k23_open h20
  have h5 := h30 0 (.int .i64 x0.f0) (by rw [hc0]; rfl)
  have hsp : ad.spot = none := by
    have e : ad.add (0 * k23.sz + 0) = ad := by rw [Nat.zero_mul]; simp [Addr.add]
    rw [e] at h5
    cases hs : ad.spot with
    | none => rfl
    | some q =>
      unfold World.cell? at h5
      split at h5
      · rw [hs] at h5; simp at h5
      · cases h5
  obtain ⟨b, o, s⟩ := ad
  simp only at hsp
  subst hsp
  refine ⟨b, o, hA, ?_⟩
  have e2 : (⟨b, o, none⟩ : Addr).add (m * k23.sz + 0) = ⟨b, o + m * 2, none⟩ := by
    rw [Addr.add_lit]
    rfl
  rw [e2] at h4
  have hl : lastOf l = x.f0 := by
    unfold lastOf
    rw [List.getLast?_eq_getElem?, hm, Nat.add_sub_cancel, hx]
  rw [hl]
  exact h4

theorem rows_of {w : World} {base q c : Nat} {A : Option Addr} {l : List S23} (h : Kd.R k23 23 w base (fun _ => True) (.slice A l.length c) l) (hq : l.length = q + 1) : ∃ g cs, A = some ⟨g, 0, none⟩ ∧ base ≤ g ∧ w.heap[g]? = some (.cells cs 23 (0, 0)) := by
  obtain ⟨_, inner, ho, _⟩ := h
  rcases ho.2 with ⟨_, h0⟩ | ⟨g, cap, cur, hv, hb, hg, _⟩
  · omega
  · cases hv
    exact ⟨g, cur, rfl, hb, hg⟩
theorem last_cell' {w : World} {g q : Nat} {l : List S23} (h : Kd.C k23 w (some ⟨g, 0, none⟩) l.length l) (hm : l.length = q + 1) : w.cell? ⟨g, q * 2, none⟩ = some (.int .i64 (lastOf l)) := by
  obtain ⟨b, o, he, hc⟩ := last_cell h hm
  cases he
  rw [Nat.zero_add] at hc
  exact hc

section
variable {B : Nat} {w : World} {d : Nat} {X : List (Nat × Obj)} {p : Addr}
set_option maxRecDepth 100000 in
set_option maxHeartbeats 4000000 in
theorem open_calls {z : ByteArray} {m k : Int} {l : List S23} {n e : Int} (hB : B ≤ w.heap.size) (hG : Gl (.pointer (some p)) w) (h1 : 1 < B)
    (hbg : Calls Tryd.prog 14 #[.pointer (some ⟨d, 0, none⟩), .string nLog] w fun e w' => e = .returned (.tuple #[.string z, .iface 149 (.pointer (some p))]) ∧ LiveX B w' d (lg z m [] k) X ∧ Below B w w')
    (hs : SCAN z = (l, n, e)) (hz : z.size ≤ 1099511627776) (he : e = 0 ∨ e = 91) (hn0 : 0 ≤ n) (hn1 : n ≤ (z.size : Int)) (hk0 : 0 ≤ k) (hk1 : k < 1000000) :
    Calls Tryd.prog 5 #[.pointer (some ⟨d, 0, none⟩), .string nLog] w fun ev w' => ∃ (A : Option Addr) (c g : Nat) (k' : Int) (Y : List (Nat × Obj)), ev = .returned (.tuple #[.pointer (some ⟨g, 0, none⟩), .slice A l.length c, .int .i64 0]) ∧ l.length ≤ c ∧ Kd.C k23 w' A l.length l ∧
      LiveX B w' d (lg (left z (l, n, e)) (left z (l, n, e)).size [] k') ((g, logO d n (lastOf l) false) :: (Y ++ X)) ∧ (∀ y ∈ Y, ∃ cs, y.2 = .cells cs 23 (0, 0)) ∧ (∀ ad, A = some ad → 0 < l.length → ∃ y ∈ Y, y.1 = ad.block) ∧ Below B w w' ∧ k ≤ k' ∧ k' ≤ k + 2 ∧ B ≤ g := by
  /-OPEN-/
  have HB := Aside0.mk hB
  have HG := Aside0.mk hG
  have H1 := Aside0.mk h1
  have HBg := Aside0.mk hbg
  have hsz : z.size ≤ 1099511627776 := hz
  have HN := Aside0.mk (And.intro hn0 hn1)
  have HK := Aside0.mk (And.intro hk0 hk1)
  have HZ := Aside0.mk hz
  have HS := Aside0.mk hs
  rcases he with rfl | rfl
  · have hlz : left z (l, n, 0) = z := by unfold left; simp
    rw [hlz]
    have HSc : Aside0 (wal_Scan.f (2 * z.size + 40) z = some (l, n, 0)) := ⟨by rw [walScan z _ hz (Nat.le_refl _), hs]⟩
    have HSync : Aside0 (∀ (w1 : World) (X' : List (Nat × Obj)), LiveX B w1 d (lg z m [] k) X' → B ≤ w1.heap.size → Calls Tryd.prog 19 #[.pointer (some ⟨d, 0, none⟩), .string nLog] w1 fun e w' => e = .returned (.int .i64 0) ∧ LiveX B w' d (lg z z.size [] (k + 1)) X' ∧ Below B w1 w') := ⟨fun w1 X' hl hb => by
      have h2 := sync_x hl hb nLog (by decide) (by show 0 ≤ k; omega) (by show k < 4611686018427387904; omega)
      rw [lg_sync] at h2
      exact h2⟩
    clear hB hG h1 hbg hn0 hn1 hk0 hk1 hz hs hsz hlz
    by_cases hl0 : l.length = 0
    · have hd : decide ((0 : Int) < (l.length : Int)) = false := by rw [hl0]; rfl
      go_enter Tryd.func5, Tryd.ntmps5
      go_wp2_with (first
        | (go_at_call 14; (with_reducible refine (HBg.out).mono ?_); rintro e w1 ⟨rfl, hl, hb⟩; have L1 := Aside0.mk (And.intro hl (And.intro (Nat.le_trans HB.out hb.size) hb)); clear hl hb)
        | (go_at_call 15; (with_reducible refine (code_fine (Gl.low HG.out L1.out.2.2 H1.out)).mono ?_); rintro e wL2 ⟨rfl, hb⟩; have L2 := Aside0.mk (And.intro (L1.out.1.below hb) (And.intro (Nat.le_trans L1.out.2.1 hb.size) (L1.out.2.2.trans (hb.mono L1.out.2.1)))); clear hb)
        | (go_at_call 16; (with_reducible refine (wal_Scan.calls _ z l n 0 _ HSc.out).mono ?_); rintro e w3 ⟨v0, rfl, hR, hb⟩; obtain ⟨A, c, rfl, hlc, hC⟩ := Kd.R_reads hR; have HR := Aside0.mk hR; have HC3 := Aside0.mk hC; have HLC := Aside0.mk hlc; have L3 := Aside0.mk (And.intro (L2.out.1.below hb) (And.intro (Nat.le_trans L2.out.2.1 hb.size) (L2.out.2.2.trans (hb.mono L2.out.2.1)))); clear hR hlc hC hb)
        | (go_at_call 19; (with_reducible refine (HSync.out _ _ L3.out.1 L3.out.2.1).mono ?_); rintro e w6 ⟨rfl, hl, hb⟩; have L6 := Aside0.mk (And.intro hl (And.intro (Nat.le_trans L3.out.2.1 hb.size) (L3.out.2.2.trans hb))); clear hl hb)
        | (go_at_call 17; (with_reducible refine (asked_ok (Gl.low HG.out L6.out.2.2 H1.out)).mono ?_); rintro e wx ⟨rfl, rfl⟩)
        | (go_at_call 15; (with_reducible refine (code_fine (Gl.low HG.out L6.out.2.2 H1.out)).mono ?_); rintro e wL7 ⟨rfl, hb⟩; have L7 := Aside0.mk (And.intro (L6.out.1.below hb) (And.intro (Nat.le_trans L6.out.2.1 hb.size) (L6.out.2.2.trans (hb.mono L6.out.2.1)))); clear hb)
        | go_in)
      go_ret3
      have hle : l = [] := List.eq_nil_of_length_eq_zero hl0
      have hlast : lastOf l = 0 := by rw [hle]; rfl
      have hb8 := (Below.refl wL7.heap.size wL7).alloc (Nat.le_refl _) (logO d n (lastOf l) false)
      have L8 := L7.out.1.add hb8 (Nat.le_refl _) (heap_alloc_new wL7 (logO d n (lastOf l) false))
      have hbe := L7.out.2.2.trans (hb8.mono L7.out.2.1)
      have hw : wL7.alloc (.cells #[.pointer (some ⟨d, 0, none⟩), .string nLog, .int .i64 n, .int .i64 0, .bool false] 54) = wL7.alloc (logO d n (lastOf l) false) := by rw [hlast]; rfl
      rw [hw]
      exact ⟨A, c, wL7.heap.size, k + 1, [], (by rw [hl0]; rfl), HLC.out, ⟨rfl, (by rw [hl0]; omega), fun h => (by omega)⟩, L8, (fun y hy => by cases hy), (fun ad _ h => by omega), hbe, (by have := HK.out; omega), (by omega), L7.out.2.1⟩
    · obtain ⟨q, hq⟩ : ∃ q, l.length = q + 1 := ⟨l.length - 1, by omega⟩
      have hd : decide ((0 : Int) < (l.length : Int)) = true := by simp; omega
      have HQ := Aside0.mk hq
      have hq2 : q ≤ 1099511627776 := by have := SCAN_length z; rw [HS.out] at this; simp only at this; have := HZ.out; omega
      go_enter Tryd.func5, Tryd.ntmps5
      go_wp2_with (first
        | (go_at_call 14; (with_reducible refine (HBg.out).mono ?_); rintro e w1 ⟨rfl, hl, hb⟩; have L1 := Aside0.mk (And.intro hl (And.intro (Nat.le_trans HB.out hb.size) hb)); clear hl hb)
        | (go_at_call 15; (with_reducible refine (code_fine (Gl.low HG.out L1.out.2.2 H1.out)).mono ?_); rintro e wL2 ⟨rfl, hb⟩; have L2 := Aside0.mk (And.intro (L1.out.1.below hb) (And.intro (Nat.le_trans L1.out.2.1 hb.size) (L1.out.2.2.trans (hb.mono L1.out.2.1)))); clear hb)
        | (go_at_call 16; (with_reducible refine (wal_Scan.calls _ z l n 0 _ HSc.out).mono ?_); rintro e w3 ⟨v0, rfl, hR, hb⟩; obtain ⟨A, c, rfl, hlc, hC⟩ := Kd.R_reads hR; have HR := Aside0.mk hR; have HC3 := Aside0.mk hC; have HLC := Aside0.mk hlc; obtain ⟨gr, cs, rfl, hgr, hrow⟩ := rows_of hR HQ.out; have L3 := Aside0.mk (And.intro (L2.out.1.add hb hgr hrow) (And.intro (Nat.le_trans L2.out.2.1 hb.size) (L2.out.2.2.trans (hb.mono L2.out.2.1)))); clear hR hlc hC hb)
        | (go_at_call 19; (with_reducible refine (HSync.out _ _ L3.out.1 L3.out.2.1).mono ?_); rintro e w6 ⟨rfl, hl, hb⟩; have L6 := Aside0.mk (And.intro hl (And.intro (Nat.le_trans L3.out.2.1 hb.size) (L3.out.2.2.trans hb))); clear hl hb)
        | (go_at_call 17; (with_reducible refine (asked_ok (Gl.low HG.out L6.out.2.2 H1.out)).mono ?_); rintro e wx ⟨rfl, rfl⟩)
        | (go_at_call 15; (with_reducible refine (code_fine (Gl.low HG.out L6.out.2.2 H1.out)).mono ?_); rintro e wL7 ⟨rfl, hb⟩; have L7 := Aside0.mk (And.intro (L6.out.1.below hb) (And.intro (Nat.le_trans L6.out.2.1 hb.size) (L6.out.2.2.trans (hb.mono L6.out.2.1)))); have hx3 := L3.out.1.get (List.mem_cons_self ..); have hx7 := L7.out.1.get (List.mem_cons_self ..); have HC7 := Aside0.mk (c23_move HC3.out (fun ad hA => by cases hA; exact hx7.trans hx3.symm)); have x0 := (last_cell' HC7.out HQ.out); have hgl := blk_lt hx7; clear hx3 hx7; clear hb)
        | go_in)
      go_ret3
      have hb8 := (Below.refl wL7.heap.size wL7).alloc (Nat.le_refl _) (logO d n (lastOf l) false)
      have L8 := L7.out.1.add hb8 (Nat.le_refl _) (heap_alloc_new wL7 (logO d n (lastOf l) false))
      have hbe := L7.out.2.2.trans (hb8.mono L7.out.2.1)
      have HC8 := c23_move HC7.out (w' := wL7.alloc (logO d n (lastOf l) false)) (fun ad hA => by cases hA; exact hb8.block gr hgl)
      exact ⟨some ⟨gr, 0, none⟩, c, wL7.heap.size, k + 1, [(gr, .cells cs 23 (0, 0))], (by rw [HQ.out]; rfl), HLC.out, HC8, L8, (fun y hy => by rw [List.mem_singleton.1 hy]; exact ⟨cs, rfl⟩), (fun ad hA _ => ⟨_, List.mem_cons_self .., by cases hA; rfl⟩), hbe, (by have := HK.out; omega), (by omega), L7.out.2.1⟩

  · have hlz : left z (l, n, 91) = (z.extract 0 n.toNat) := by unfold left; simp
    rw [hlz]
    have HSc : Aside0 (wal_Scan.f (2 * z.size + 40) z = some (l, n, 91)) := ⟨by rw [walScan z _ hz (Nat.le_refl _), hs]⟩
    have HSync : Aside0 (∀ (w1 : World) (X' : List (Nat × Obj)), LiveX B w1 d (lg (z.extract 0 n.toNat) (min m n) [] (k + 1)) X' → B ≤ w1.heap.size → Calls Tryd.prog 19 #[.pointer (some ⟨d, 0, none⟩), .string nLog] w1 fun e w' => e = .returned (.int .i64 0) ∧ LiveX B w' d (lg (z.extract 0 n.toNat) (z.extract 0 n.toNat).size [] ((k + 1) + 1)) X' ∧ Below B w1 w') := ⟨fun w1 X' hl hb => by
      have h2 := sync_x hl hb nLog (by decide) (by show 0 ≤ (k + 1); omega) (by show (k + 1) < 4611686018427387904; omega)
      rw [lg_sync] at h2
      exact h2⟩
    have HCut : Aside0 (∀ (w1 : World) (X' : List (Nat × Obj)), LiveX B w1 d (lg z m [] k) X' → B ≤ w1.heap.size → Calls Tryd.prog 18 #[.pointer (some ⟨d, 0, none⟩), .string nLog, .int .i64 n] w1 fun e w' => e = .returned (.int .i64 0) ∧ LiveX B w' d (lg (z.extract 0 n.toNat) (min m n) [] (k + 1)) X' ∧ Below B w1 w') := ⟨fun w1 X' hl hb => by
      have h2 := cut_x hl hb nLog n (by decide) (by show 0 ≤ k; omega) (by show k < 4611686018427387904; omega)
      rw [lg_cut _ _ _ _ hn0 hn1] at h2
      exact h2⟩
    clear hB hG h1 hbg hn0 hn1 hk0 hk1 hz hs hsz hlz
    by_cases hl0 : l.length = 0
    · have hd : decide ((0 : Int) < (l.length : Int)) = false := by rw [hl0]; rfl
      go_enter Tryd.func5, Tryd.ntmps5
      go_wp2_with (first
        | (go_at_call 14; (with_reducible refine (HBg.out).mono ?_); rintro e w1 ⟨rfl, hl, hb⟩; have L1 := Aside0.mk (And.intro hl (And.intro (Nat.le_trans HB.out hb.size) hb)); clear hl hb)
        | (go_at_call 15; (with_reducible refine (code_fine (Gl.low HG.out L1.out.2.2 H1.out)).mono ?_); rintro e wL2 ⟨rfl, hb⟩; have L2 := Aside0.mk (And.intro (L1.out.1.below hb) (And.intro (Nat.le_trans L1.out.2.1 hb.size) (L1.out.2.2.trans (hb.mono L1.out.2.1)))); clear hb)
        | (go_at_call 16; (with_reducible refine (wal_Scan.calls _ z l n 91 _ HSc.out).mono ?_); rintro e w3 ⟨v0, rfl, hR, hb⟩; obtain ⟨A, c, rfl, hlc, hC⟩ := Kd.R_reads hR; have HR := Aside0.mk hR; have HC3 := Aside0.mk hC; have HLC := Aside0.mk hlc; have L3 := Aside0.mk (And.intro (L2.out.1.below hb) (And.intro (Nat.le_trans L2.out.2.1 hb.size) (L2.out.2.2.trans (hb.mono L2.out.2.1)))); clear hR hlc hC hb)
        | (go_at_call 18; (with_reducible refine (HCut.out _ _ L3.out.1 L3.out.2.1).mono ?_); rintro e w4 ⟨rfl, hl, hb⟩; have L4 := Aside0.mk (And.intro hl (And.intro (Nat.le_trans L3.out.2.1 hb.size) (L3.out.2.2.trans hb))); clear hl hb)
        | (go_at_call 17; (with_reducible refine (asked_ok (Gl.low HG.out L4.out.2.2 H1.out)).mono ?_); rintro e wx ⟨rfl, rfl⟩)
        | (go_at_call 15; (with_reducible refine (code_fine (Gl.low HG.out L4.out.2.2 H1.out)).mono ?_); rintro e wL5 ⟨rfl, hb⟩; have L5 := Aside0.mk (And.intro (L4.out.1.below hb) (And.intro (Nat.le_trans L4.out.2.1 hb.size) (L4.out.2.2.trans (hb.mono L4.out.2.1)))); clear hb)
        | (go_at_call 19; (with_reducible refine (HSync.out _ _ L5.out.1 L5.out.2.1).mono ?_); rintro e w6 ⟨rfl, hl, hb⟩; have L6 := Aside0.mk (And.intro hl (And.intro (Nat.le_trans L5.out.2.1 hb.size) (L5.out.2.2.trans hb))); clear hl hb)
        | (go_at_call 17; (with_reducible refine (asked_ok (Gl.low HG.out L6.out.2.2 H1.out)).mono ?_); rintro e wx ⟨rfl, rfl⟩)
        | (go_at_call 15; (with_reducible refine (code_fine (Gl.low HG.out L6.out.2.2 H1.out)).mono ?_); rintro e wL7 ⟨rfl, hb⟩; have L7 := Aside0.mk (And.intro (L6.out.1.below hb) (And.intro (Nat.le_trans L6.out.2.1 hb.size) (L6.out.2.2.trans (hb.mono L6.out.2.1)))); clear hb)
        | go_in)
      go_ret3
      have hle : l = [] := List.eq_nil_of_length_eq_zero hl0
      have hlast : lastOf l = 0 := by rw [hle]; rfl
      have hb8 := (Below.refl wL7.heap.size wL7).alloc (Nat.le_refl _) (logO d n (lastOf l) false)
      have L8 := L7.out.1.add hb8 (Nat.le_refl _) (heap_alloc_new wL7 (logO d n (lastOf l) false))
      have hbe := L7.out.2.2.trans (hb8.mono L7.out.2.1)
      have hw : wL7.alloc (.cells #[.pointer (some ⟨d, 0, none⟩), .string nLog, .int .i64 n, .int .i64 0, .bool false] 54) = wL7.alloc (logO d n (lastOf l) false) := by rw [hlast]; rfl
      rw [hw]
      exact ⟨A, c, wL7.heap.size, (k + 1) + 1, [], (by rw [hl0]; rfl), HLC.out, ⟨rfl, (by rw [hl0]; omega), fun h => (by omega)⟩, L8, (fun y hy => by cases hy), (fun ad _ h => by omega), hbe, (by have := HK.out; omega), (by omega), L7.out.2.1⟩
    · obtain ⟨q, hq⟩ : ∃ q, l.length = q + 1 := ⟨l.length - 1, by omega⟩
      have hd : decide ((0 : Int) < (l.length : Int)) = true := by simp; omega
      have HQ := Aside0.mk hq
      have hq2 : q ≤ 1099511627776 := by have := SCAN_length z; rw [HS.out] at this; simp only at this; have := HZ.out; omega
      go_enter Tryd.func5, Tryd.ntmps5
      go_wp2_with (first
        | (go_at_call 14; (with_reducible refine (HBg.out).mono ?_); rintro e w1 ⟨rfl, hl, hb⟩; have L1 := Aside0.mk (And.intro hl (And.intro (Nat.le_trans HB.out hb.size) hb)); clear hl hb)
        | (go_at_call 15; (with_reducible refine (code_fine (Gl.low HG.out L1.out.2.2 H1.out)).mono ?_); rintro e wL2 ⟨rfl, hb⟩; have L2 := Aside0.mk (And.intro (L1.out.1.below hb) (And.intro (Nat.le_trans L1.out.2.1 hb.size) (L1.out.2.2.trans (hb.mono L1.out.2.1)))); clear hb)
        | (go_at_call 16; (with_reducible refine (wal_Scan.calls _ z l n 91 _ HSc.out).mono ?_); rintro e w3 ⟨v0, rfl, hR, hb⟩; obtain ⟨A, c, rfl, hlc, hC⟩ := Kd.R_reads hR; have HR := Aside0.mk hR; have HC3 := Aside0.mk hC; have HLC := Aside0.mk hlc; obtain ⟨gr, cs, rfl, hgr, hrow⟩ := rows_of hR HQ.out; have L3 := Aside0.mk (And.intro (L2.out.1.add hb hgr hrow) (And.intro (Nat.le_trans L2.out.2.1 hb.size) (L2.out.2.2.trans (hb.mono L2.out.2.1)))); clear hR hlc hC hb)
        | (go_at_call 18; (with_reducible refine (HCut.out _ _ L3.out.1 L3.out.2.1).mono ?_); rintro e w4 ⟨rfl, hl, hb⟩; have L4 := Aside0.mk (And.intro hl (And.intro (Nat.le_trans L3.out.2.1 hb.size) (L3.out.2.2.trans hb))); clear hl hb)
        | (go_at_call 17; (with_reducible refine (asked_ok (Gl.low HG.out L4.out.2.2 H1.out)).mono ?_); rintro e wx ⟨rfl, rfl⟩)
        | (go_at_call 15; (with_reducible refine (code_fine (Gl.low HG.out L4.out.2.2 H1.out)).mono ?_); rintro e wL5 ⟨rfl, hb⟩; have L5 := Aside0.mk (And.intro (L4.out.1.below hb) (And.intro (Nat.le_trans L4.out.2.1 hb.size) (L4.out.2.2.trans (hb.mono L4.out.2.1)))); clear hb)
        | (go_at_call 19; (with_reducible refine (HSync.out _ _ L5.out.1 L5.out.2.1).mono ?_); rintro e w6 ⟨rfl, hl, hb⟩; have L6 := Aside0.mk (And.intro hl (And.intro (Nat.le_trans L5.out.2.1 hb.size) (L5.out.2.2.trans hb))); clear hl hb)
        | (go_at_call 17; (with_reducible refine (asked_ok (Gl.low HG.out L6.out.2.2 H1.out)).mono ?_); rintro e wx ⟨rfl, rfl⟩)
        | (go_at_call 15; (with_reducible refine (code_fine (Gl.low HG.out L6.out.2.2 H1.out)).mono ?_); rintro e wL7 ⟨rfl, hb⟩; have L7 := Aside0.mk (And.intro (L6.out.1.below hb) (And.intro (Nat.le_trans L6.out.2.1 hb.size) (L6.out.2.2.trans (hb.mono L6.out.2.1)))); have hx3 := L3.out.1.get (List.mem_cons_self ..); have hx7 := L7.out.1.get (List.mem_cons_self ..); have HC7 := Aside0.mk (c23_move HC3.out (fun ad hA => by cases hA; exact hx7.trans hx3.symm)); have x0 := (last_cell' HC7.out HQ.out); have hgl := blk_lt hx7; clear hx3 hx7; clear hb)
        | go_in)
      go_ret3
      have hb8 := (Below.refl wL7.heap.size wL7).alloc (Nat.le_refl _) (logO d n (lastOf l) false)
      have L8 := L7.out.1.add hb8 (Nat.le_refl _) (heap_alloc_new wL7 (logO d n (lastOf l) false))
      have hbe := L7.out.2.2.trans (hb8.mono L7.out.2.1)
      have HC8 := c23_move HC7.out (w' := wL7.alloc (logO d n (lastOf l) false)) (fun ad hA => by cases hA; exact hb8.block gr hgl)
      exact ⟨some ⟨gr, 0, none⟩, c, wL7.heap.size, (k + 1) + 1, [(gr, .cells cs 23 (0, 0))], (by rw [HQ.out]; rfl), HLC.out, HC8, L8, (fun y hy => by rw [List.mem_singleton.1 hy]; exact ⟨cs, rfl⟩), (fun ad hA _ => ⟨_, List.mem_cons_self .., by cases hA; rfl⟩), hbe, (by have := HK.out; omega), (by omega), L7.out.2.1⟩

end
end Go.Proofs.YtdnfflfofgeokaaDoor.WalL
