/- The log, walked: broke, Append, Sync. -/
import Derived.Test.YtdnfflfofgeokaaDoorWlC
import Derived.Deep.RegionWith
namespace Go.Proofs.YtdnfflfofgeokaaDoor.WalL
open Go.RowKit Go.Extern.Stop Go.Stop Go.Extern Go.Proofs.YtdnfflfofgeokaaDoorW.PrintWords Go.Proofs.YtdnfflfofgeokaaDoor.WalN Go.Proofs.YtdnfflfofgeokaaDoor.Dk Go.Proofs.YtdnfflfofgeokaaDoor.PWal Go.Proofs.YtdnfflfofgeokaaDoor.WalB

section
variable {B : Nat} {w : World} {d g : Nat} {X : List (Nat × Obj)} {p : Addr} {S : DS}
set_option maxHeartbeats 1000000 in
theorem broke_ok {s l : Int} (h : LiveX B w d S ((g, logO d s l false) :: X)) (hX : ∀ x ∈ X, x.1 ≠ g) (hB : B ≤ w.heap.size) (hgB : B ≤ g) (hG : Gl (.pointer (some p)) w) (h1 : 1 < B) :
    Calls Tryd.prog 22 #[.pointer (some ⟨g, 0, none⟩), .int .i64 0] w fun e w' => e = .returned (.int .i64 0) ∧ LiveX B w' d S ((g, logO d s l false) :: X) ∧ Below B w w' := by
  have hb := h.get (List.mem_cons_self ..)
  have x4 := blk_cell hb 4
  have f4 := blk_frozen hb 4
  have h0 := hG.fine
  have hp := h.put 4 (.bool false) (cs' := #[.pointer (some ⟨d, 0, none⟩), .string nLog, .int .i64 s, .int .i64 l, .bool false]) rfl hX
  have hset : Below B w (w.setCell ⟨g, 4, none⟩ (.bool false)) := (Below.refl B w).setCell hgB _
  have HP := Aside0.mk hp
  have HS := Aside0.mk hset
  have HG := Aside0.mk hG
  have H1 := Aside0.mk h1
  have HB := Aside0.mk hB
  clear h hX hB hgB hG h1 hb hp hset
  go_enter Tryd.func22, Tryd.ntmps22
  go_wp2_with (first
    | (go_at_call 17; (with_reducible refine (asked_ok HG.out).mono ?_); rintro e w1 ⟨rfl, rfl⟩)
    | (go_at_call 27; (with_reducible refine (is_fine p _).mono ?_); rintro e w1 ⟨rfl, rfl⟩)
    | (go_at_call 15; (with_reducible refine (code_fine (Gl.low HG.out HS.out H1.out)).mono ?_); rintro e w2 ⟨rfl, hb⟩; have L2 := Aside0.mk (And.intro (HP.out.below hb) (HS.out.trans (hb.mono (Nat.le_trans HB.out HS.out.size)))); clear hb)
    | go_in)
  go_ret
  exact ⟨rfl, L2.out.1, L2.out.2⟩
theorem Below.drewN {B : Nat} {a w : World} (h : Below B a w) (n : Nat) : Below B a (w.drewN n) := ⟨h.os, h.tape, h.output, h.size, h.block⟩
set_option maxRecDepth 100000 in
set_option maxHeartbeats 4000000 in
theorem append_calls {z b : ByteArray} {m k : Int} {s last : Nat} (h : LiveX B w d (lg z m [] k) ((g, logO d s last false) :: X)) (hX : ∀ x ∈ X, x.1 ≠ g) (hB : B ≤ w.heap.size) (hgB : B ≤ g) (hG : Gl (.pointer (some p)) w) (h1 : 1 < B)
    (hok : OkRec ((last : Int) + 1) b) (hz : z.size ≤ 1099511627776) (hs : s ≤ 1099511627776) (hk0 : 0 ≤ k) (hk1 : k < 1000000) :
    Calls Tryd.prog 7 #[.pointer (some ⟨g, 0, none⟩), .agg #[.int .i64 ((last : Int) + 1), .string b]] w fun e w' => e = .returned (.int .i64 0) ∧ LiveX B w' d (lg (z ++ FRAME (last + 1) b) m [] (k + 1)) ((g, logO d ((s + (FRAME (last + 1) b).size : Nat) : Int) ((last : Int) + 1) false) :: X) ∧ Below B w w' := by
  obtain ⟨fr, hfr⟩ : ∃ fr, fr = FRAME (last + 1) b := ⟨_, rfl⟩
  rw [← hfr]
  have hfs : fr.size = 20 + b.size := by rw [hfr]; exact FRAME_size _ b
  have hbs := hok.2.2
  have hlast : (last : Int) + 1 ≤ 4503599627370496 := hok.2.1
  have HF : Aside0 (wal_Frame.f 20 ((last : Int) + 1) b = some (fr, 0)) := ⟨by rw [walFrame _ _ _ (Nat.le_refl _)]; unfold FRAMES; rw [if_pos hok, hfr]; rfl⟩
  obtain ⟨rb, hrb⟩ : ∃ rb, rb = w.heap.size := ⟨_, rfl⟩
  obtain ⟨X', hX'⟩ : ∃ X', X' = (rb, Obj.cells #[.int .i64 ((last : Int) + 1), .string b] 23 (0, 0)) :: X := ⟨_, rfl⟩
  have HW : Aside0 (∀ (w1 : World), LiveX B w1 d (lg z m [] k) ((g, logO d s last false) :: X') → B ≤ w1.heap.size → Calls Tryd.prog 21 #[.pointer (some ⟨d, 0, none⟩), .string nLog, .string fr] w1 fun e w' => e = .returned (.tuple #[.int .i64 (fr.size : Int), .int .i64 0]) ∧ LiveX B w' d (lg (z ++ fr) m [] (k + 1)) ((g, logO d s last false) :: X') ∧ Below B w1 w') := ⟨fun w1 hl hb => by
    have h9 : maxLen = 9223372036854775807 := rfl
    have h2 := write_x hl hb nLog fr (by decide) (by show 0 ≤ k; omega) (by show k < 4611686018427387904; omega) (of_decide_eq_true rfl) (of_decide_eq_true rfl) (fun f hf => by simp [lg] at hf; subst hf; show z.size + fr.size ≤ maxLen; omega) (by omega) (fun f hf => by cases hf)
    rw [lg_write] at h2
    exact h2⟩
  have hglt : g < w.heap.size := blk_lt (h.get (List.mem_cons_self ..))
  have hXg : Aside0 (∀ x ∈ X', x.1 ≠ g) := ⟨fun x hx => by
    rw [hX'] at hx
    rcases List.mem_cons.1 hx with rfl | hx
    · show rb ≠ g; omega
    · exact hX x hx⟩
  have hB0 := (Below.refl w.heap.size w).alloc (Nat.le_refl _) (.cells #[.int .i64 ((last : Int) + 1), .string b] 23)
  have L0 : Aside0 (LiveX B (w.alloc (.cells #[.int .i64 ((last : Int) + 1), .string b] 23)) d (lg z m [] k) ((g, logO d s last false) :: X') ∧ B ≤ (w.alloc (.cells #[.int .i64 ((last : Int) + 1), .string b] 23)).heap.size ∧ Below B w (w.alloc (.cells #[.int .i64 ((last : Int) + 1), .string b] 23))) :=
    ⟨(h.add hB0 (Nat.le_of_eq hrb.symm) (by rw [hrb]; exact heap_alloc_new w _)).sub (fun x hx => by
      rw [hX'] at hx
      rcases List.mem_cons.1 hx with rfl | hx
      · exact List.mem_cons_of_mem _ (List.mem_cons_self ..)
      · rcases List.mem_cons.1 hx with rfl | hx
        · exact List.mem_cons_self ..
        · exact List.mem_cons_of_mem _ (List.mem_cons_of_mem _ hx)), Nat.le_trans hB hB0.size, hB0.mono hB⟩
  have hmem : Aside0 ((rb, Obj.cells #[.int .i64 ((last : Int) + 1), .string b] 23 (0, 0)) ∈ (g, logO d s last false) :: X') := ⟨by rw [hX']; exact List.mem_cons_of_mem _ (List.mem_cons_self ..)⟩
  have hsub : Aside0 (∀ (o : Obj), ∀ x ∈ (g, o) :: X, x ∈ (g, o) :: X') := ⟨fun o x hx => by
    rw [hX']
    rcases List.mem_cons.1 hx with rfl | hx
    · exact List.mem_cons_self ..
    · exact List.mem_cons_of_mem _ (List.mem_cons_of_mem _ hx)⟩
  have HG := Aside0.mk hG
  have H1 := Aside0.mk h1
  have HgB := Aside0.mk hgB
  have x4 : (w.alloc (.cells #[.int .i64 ((last : Int) + 1), .string b] 23)).cell? ⟨g, 4, none⟩ = some (.bool false) := blk_cell (L0.out.1.get (List.mem_cons_self ..)) 4
  have hRb := Aside0.mk hrb
  have hs2 : (s : Int) ≤ 1099511627776 := by omega
  have hf2 : (fr.size : Int) ≤ 1099511627776 := by omega
  have hs0 : (0 : Int) ≤ (s : Int) := by omega
  clear h hX hB hgB hG h1 hok hz hk0 hk1 hfr hB0 hX' hs hbs hfs hrb
  by_cases hl0 : 0 < last
  · have hd : decide ((0 : Int) < (last : Int)) = true := by simp; omega
    go_enter Tryd.func7, Tryd.ntmps7
    go_wp2_with (first
      | (go_at_call 20; (with_reducible refine (wal_Frame.calls 20 ((last : Int) + 1) b fr 0 _ HF.out).mono ?_); rintro e w1 ⟨rfl, hb⟩; have L1 := Aside0.mk (And.intro (L0.out.1.below hb) (And.intro (Nat.le_trans L0.out.2.1 hb.size) (L0.out.2.2.trans (hb.mono L0.out.2.1)))); have hlg := L1.out.1.get (List.mem_cons_self ..); have y0 := blk_cell hlg 0; have y1 := blk_cell hlg 1; have y3 := blk_cell hlg 3; have hrc := L1.out.1.get hmem.out; have r0 : w1.cell? ⟨w.heap.size, 0, none⟩ = some (.int .i64 ((last : Int) + 1)) := (by have hr0 := blk_cell hrc 0; rw [hRb.out] at hr0; exact hr0); have hgl1 := blk_lt hlg; clear x4 hb hlg hrc)
      | go_in)
    go_quiet (fail)
    go_wp2
    have hbd := Below.drewN (Below.refl w1.heap.size w1) nq
    have L1d := Aside0.mk (And.intro (L1.out.1.below hbd) (And.intro (show B ≤ (w1.drewN nq).heap.size from L1.out.2.1) (L1.out.2.2.trans (hbd.mono L1.out.2.1))))
    clear hbd y0 y1 y3 r0 hgl1
    generalize w1.drewN nq = w2 at L1d ⊢
    have hlg2 := L1d.out.1.get (List.mem_cons_self ..)
    have y0 := blk_cell hlg2 0
    have y1 := blk_cell hlg2 1
    have hgl2 := blk_lt hlg2
    clear hlg2
    have HWd := Aside0.mk (HW.out w2.drew (L1d.out.1.below (Below.refl w2.heap.size w2).drew) (show B ≤ w2.drew.heap.size from L1d.out.2.1))
    go_region_with (go_at_call 21; (with_reducible refine HWd.out.mono ?_); rintro e w3 ⟨rfl, hl, hb⟩; have L3 := Aside0.mk (And.intro hl (And.intro (Nat.le_trans L1d.out.2.1 hb.size) (L1d.out.2.2.trans ((Below.refl B w2).drew.trans hb)))); clear hl hb)
    all_goals
      go_wp2_with (first
        | (go_at_call 22; (with_reducible refine (broke_ok L3.out.1 hXg.out L3.out.2.1 HgB.out (Gl.low HG.out L3.out.2.2 H1.out) H1.out).mono ?_); rintro e w4 ⟨rfl, hl, hb⟩; have L4 := Aside0.mk (And.intro hl (And.intro (Nat.le_trans L3.out.2.1 hb.size) (L3.out.2.2.trans hb))); have hlg := hl.get (List.mem_cons_self ..); have u2 := blk_cell hlg 2; have u3 := blk_cell hlg 3; have v2 := blk_frozen hlg 2; have v3 := blk_frozen hlg 3; have r1 : w4.cell? ⟨w.heap.size, 0, none⟩ = some (.int .i64 ((last : Int) + 1)) := (by have hr0 := blk_cell (hl.get hmem.out) 0; rw [hRb.out] at hr0; exact hr0); have hgl4 := blk_lt hlg; clear hl hb hlg)
        | go_in)
      go_ret
      have p1 := L4.out.1.put 2 (.int .i64 ((s : Int) + (fr.size : Int))) (cs' := #[.pointer (some ⟨d, 0, none⟩), .string nLog, .int .i64 ((s : Int) + (fr.size : Int)), .int .i64 (last : Int), .bool false]) rfl hXg.out
      have p2 := p1.put 3 (.int .i64 ((last : Int) + 1)) (cs' := #[.pointer (some ⟨d, 0, none⟩), .string nLog, .int .i64 ((s : Int) + (fr.size : Int)), .int .i64 ((last : Int) + 1), .bool false]) rfl hXg.out
      have hcast : ((s + fr.size : Nat) : Int) = (s : Int) + (fr.size : Int) := by omega
      rw [hcast]
      exact ⟨rfl, p2.sub (hsub.out _), (L4.out.2.2.setCell HgB.out _).setCell HgB.out _⟩
  · have hd : decide ((0 : Int) < (last : Int)) = false := by simp; omega
    go_enter Tryd.func7, Tryd.ntmps7
    go_wp2_with (first
      | (go_at_call 20; (with_reducible refine (wal_Frame.calls 20 ((last : Int) + 1) b fr 0 _ HF.out).mono ?_); rintro e w1 ⟨rfl, hb⟩; have L1 := Aside0.mk (And.intro (L0.out.1.below hb) (And.intro (Nat.le_trans L0.out.2.1 hb.size) (L0.out.2.2.trans (hb.mono L0.out.2.1)))); have hlg := L1.out.1.get (List.mem_cons_self ..); have y0 := blk_cell hlg 0; have y1 := blk_cell hlg 1; have y3 := blk_cell hlg 3; have hrc := L1.out.1.get hmem.out; have r0 : w1.cell? ⟨w.heap.size, 0, none⟩ = some (.int .i64 ((last : Int) + 1)) := (by have hr0 := blk_cell hrc 0; rw [hRb.out] at hr0; exact hr0); have hgl1 := blk_lt hlg; clear x4 hb hlg hrc)
      | go_in)
    go_quiet (fail)
    go_wp2
    have hbd := Below.drewN (Below.refl w1.heap.size w1) nq
    have L1d := Aside0.mk (And.intro (L1.out.1.below hbd) (And.intro (show B ≤ (w1.drewN nq).heap.size from L1.out.2.1) (L1.out.2.2.trans (hbd.mono L1.out.2.1))))
    clear hbd y0 y1 y3 r0 hgl1
    generalize w1.drewN nq = w2 at L1d ⊢
    have hlg2 := L1d.out.1.get (List.mem_cons_self ..)
    have y0 := blk_cell hlg2 0
    have y1 := blk_cell hlg2 1
    have hgl2 := blk_lt hlg2
    clear hlg2
    have HWd := Aside0.mk (HW.out w2.drew (L1d.out.1.below (Below.refl w2.heap.size w2).drew) (show B ≤ w2.drew.heap.size from L1d.out.2.1))
    go_region_with (go_at_call 21; (with_reducible refine HWd.out.mono ?_); rintro e w3 ⟨rfl, hl, hb⟩; have L3 := Aside0.mk (And.intro hl (And.intro (Nat.le_trans L1d.out.2.1 hb.size) (L1d.out.2.2.trans ((Below.refl B w2).drew.trans hb)))); clear hl hb)
    all_goals
      go_wp2_with (first
        | (go_at_call 22; (with_reducible refine (broke_ok L3.out.1 hXg.out L3.out.2.1 HgB.out (Gl.low HG.out L3.out.2.2 H1.out) H1.out).mono ?_); rintro e w4 ⟨rfl, hl, hb⟩; have L4 := Aside0.mk (And.intro hl (And.intro (Nat.le_trans L3.out.2.1 hb.size) (L3.out.2.2.trans hb))); have hlg := hl.get (List.mem_cons_self ..); have u2 := blk_cell hlg 2; have u3 := blk_cell hlg 3; have v2 := blk_frozen hlg 2; have v3 := blk_frozen hlg 3; have r1 : w4.cell? ⟨w.heap.size, 0, none⟩ = some (.int .i64 ((last : Int) + 1)) := (by have hr0 := blk_cell (hl.get hmem.out) 0; rw [hRb.out] at hr0; exact hr0); have hgl4 := blk_lt hlg; clear hl hb hlg)
        | go_in)
      go_ret
      have p1 := L4.out.1.put 2 (.int .i64 ((s : Int) + (fr.size : Int))) (cs' := #[.pointer (some ⟨d, 0, none⟩), .string nLog, .int .i64 ((s : Int) + (fr.size : Int)), .int .i64 (last : Int), .bool false]) rfl hXg.out
      have p2 := p1.put 3 (.int .i64 ((last : Int) + 1)) (cs' := #[.pointer (some ⟨d, 0, none⟩), .string nLog, .int .i64 ((s : Int) + (fr.size : Int)), .int .i64 ((last : Int) + 1), .bool false]) rfl hXg.out
      have hcast : ((s + fr.size : Nat) : Int) = (s : Int) + (fr.size : Int) := by omega
      rw [hcast]
      exact ⟨rfl, p2.sub (hsub.out _), (L4.out.2.2.setCell HgB.out _).setCell HgB.out _⟩
set_option maxHeartbeats 1000000 in
theorem sync_calls {z : ByteArray} {m k s l : Int} (h : LiveX B w d (lg z m [] k) ((g, logO d s l false) :: X)) (hX : ∀ x ∈ X, x.1 ≠ g) (hB : B ≤ w.heap.size) (hgB : B ≤ g) (hG : Gl (.pointer (some p)) w) (h1 : 1 < B) (hk0 : 0 ≤ k) (hk1 : k < 1000000) :
    Calls Tryd.prog 8 #[.pointer (some ⟨g, 0, none⟩)] w fun e w' => e = .returned (.int .i64 0) ∧ LiveX B w' d (lg z z.size [] (k + 1)) ((g, logO d s l false) :: X) ∧ Below B w w' := by
  have hb := h.get (List.mem_cons_self ..)
  have x0 := blk_cell hb 0
  have x1 := blk_cell hb 1
  have x4 := blk_cell hb 4
  have HS := sync_x (w := w.drew) (h.below (Below.refl w.heap.size w).drew) (show B ≤ w.drew.heap.size from hB) nLog (by decide) (by show 0 ≤ k; omega) (by show k < 4611686018427387904; omega)
  rw [lg_sync] at HS
  have HSy := Aside0.mk HS
  have HG := Aside0.mk hG
  have H1 := Aside0.mk h1
  have HB := Aside0.mk hB
  have HgB := Aside0.mk hgB
  have HX := Aside0.mk hX
  have hgl := blk_lt hb
  clear h hX hB hgB hG h1 hb HS hk0 hk1
  go_enter Tryd.func8, Tryd.ntmps8
  go_wp2
  go_region_with (first
    | (go_at_call 19; (with_reducible refine HSy.out.mono ?_); rintro e w1 ⟨rfl, hl, hb⟩; have L1 := Aside0.mk (And.intro hl (And.intro (Nat.le_trans HB.out hb.size) ((Below.refl B w).drew.trans hb))); clear hl hb)
    | (go_at_call 22; (with_reducible refine (broke_ok L1.out.1 HX.out L1.out.2.1 HgB.out (Gl.low HG.out L1.out.2.2 H1.out) H1.out).mono ?_); rintro e w2 ⟨rfl, hl, hb⟩; have L2 := Aside0.mk (And.intro hl (L1.out.2.2.trans hb)); clear hl hb))
  all_goals
    go_wp2
    go_ret
    exact ⟨rfl, L2.out.1, L2.out.2⟩
end
end Go.Proofs.YtdnfflfofgeokaaDoor.WalL
