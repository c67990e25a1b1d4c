/- Several texts in one. -/
import Derived.Test.YtomhgoahhlnjpaaGreatDoorPlF
import Derived.Deep.RegionWith
import Derived.BigQuiet
/- The log's Append on any disk, walked. -/
namespace Go.Proofs.YtomhgoahhlnjpaaGreatDoor.Pl
open Go.RowKit Go.Maps Go.Sort Go.Proofs.YtomhgoahhlnjpaaGreatDoorW.PrintWords Go.Proofs.YtomhgoahhlnjpaaGreatDoor.PRef Go.Proofs.YtomhgoahhlnjpaaGreatDoor.Dk Go.Proofs.YtomhgoahhlnjpaaGreatDoor.Rf Go.Proofs.YtomhgoahhlnjpaaGreatDoor.WalN Go.Proofs.YtomhgoahhlnjpaaGreatDoor.PWal Go.Proofs.YtomhgoahhlnjpaaGreatDoor.WalB

section
variable {X : List (Nat × Obj)} {B : Nat} {w : World} {d m g : Nat} {S : DS} {R R2 : RS} {φ : List Nat} {n : Nat} {p : Addr}
set_option maxRecDepth 100000 in
set_option maxHeartbeats 8000000 in
theorem append_two (l : Lg) (q : Int) (b : ByteArray) (h : Two ((g, logO d l.sz l.last l.br) :: X) B w d m S R) (hX : ∀ x ∈ X, x.1 ≠ g) (hgB : B ≤ g) (hF : Fit S R2 φ n) (hle : n + b.size + 40 ≤ 8388608) (hL : LgOk l n) (hG : Gl (.pointer (some p)) w) (h1 : 1 < B) :
    Calls Tryz.prog 17 #[.pointer (some ⟨g, 0, none⟩), .agg #[.int .i64 q, .string b]] w fun e w' => e = .returned (.int .i64 (appD S l q b).2.2) ∧ Two ((g, logO d (appD S l q b).2.1.sz (appD S l q b).2.1.last (appD S l q b).2.1.br) :: X) B w' d m (appD S l q b).1 R ∧ Below B w w' := by
  obtain ⟨sz, last, br⟩ := l
  have hs0 := hL.s0
  have hs1 := hL.s1
  have hl0 := hL.l0
  have hl1 := hL.l1
  dsimp only at h hs0 hs1 hl0 hl1
  have hB := h.size
  obtain ⟨fr, fe, hfr⟩ : ∃ fr fe, FRAMES q b = (fr, fe) := ⟨_, _, rfl⟩
  have hfs := frames_size q b
  rw [hfr] at hfs
  dsimp only at hfs
  have HF : Aside0 (wal_Frame.f 20 q b = some (fr, fe)) := ⟨by rw [walFrame _ _ _ (Nat.le_refl _), hfr]⟩
  obtain ⟨rb, hrb⟩ : ∃ rb, rb = w.heap.size := ⟨_, rfl⟩
  obtain ⟨X', hX'⟩ : ∃ X', X' = (rb, Obj.cells #[.int .i64 q, .string b] 61 (0, 0)) :: X := ⟨_, rfl⟩
  have hglt : g < w.heap.size := blk_lt (h.at (List.mem_cons_self ..))
  have hXg : Aside0 (∀ x ∈ X', x.1 ≠ g) := ⟨fun x hx => by
    rw [hX'] at hx
    rcases List.mem_cons.1 hx with rfl | hx
    · show rb ≠ g; omega
    · exact hX x hx⟩
  have hB0 := (Below.refl w.heap.size w).alloc (Nat.le_refl _) (.cells #[.int .i64 q, .string b] 61)
  have L0 : Aside0 (Two ((g, logO d sz last br) :: X') B (w.alloc (.cells #[.int .i64 q, .string b] 61)) d m S R ∧ Below B w (w.alloc (.cells #[.int .i64 q, .string b] 61))) :=
    ⟨(h.new hB0 (Nat.le_of_eq hrb.symm) (by rw [hrb]; exact heap_alloc_new w _)).less (fun x hx => by
      rw [hX'] at hx
      rcases List.mem_cons.1 hx with rfl | hx
      · exact List.mem_cons_of_mem _ (List.mem_cons_self ..)
      · rcases List.mem_cons.1 hx with rfl | hx
        · exact List.mem_cons_self ..
        · exact List.mem_cons_of_mem _ (List.mem_cons_of_mem _ hx)), hB0.mono hB⟩
  have hmem : Aside0 ((rb, Obj.cells #[.int .i64 q, .string b] 61 (0, 0)) ∈ (g, logO d sz last br) :: X') := ⟨by rw [hX']; exact List.mem_cons_of_mem _ (List.mem_cons_self ..)⟩
  have hmem2 : Aside0 (∀ o : Obj, (rb, Obj.cells #[.int .i64 q, .string b] 61 (0, 0)) ∈ (g, o) :: X') := ⟨fun o => by rw [hX']; exact List.mem_cons_of_mem _ (List.mem_cons_self ..)⟩
  have hsub : Aside0 (∀ (o : Obj), ∀ x ∈ (g, o) :: X, x ∈ (g, o) :: X') := ⟨fun o x hx => by
    rw [hX']
    rcases List.mem_cons.1 hx with rfl | hx
    · exact List.mem_cons_self ..
    · exact List.mem_cons_of_mem _ (List.mem_cons_of_mem _ hx)⟩
  have HG := Aside0.mk hG
  have H1 := Aside0.mk h1
  have HgB := Aside0.mk hgB
  have x4 : (w.alloc (.cells #[.int .i64 q, .string b] 61)).cell? ⟨g, 4, none⟩ = some (.bool br) := blk_cell (L0.out.1.at (List.mem_cons_self ..)) 4
  have hRb := Aside0.mk hrb
  have hs2 : sz ≤ 1099511627776 := by omega
  have hf2 : (fr.size : Int) ≤ 1099511627776 := by omega
  have CW : Aside0 (∀ {w1 : World}, Two ((g, logO d sz last false) :: X') B w1 d m S R → Calls Tryz.prog 42 #[.pointer (some ⟨d, 0, none⟩), .string nLog, .string fr] w1 fun e w' => e = .returned (.tuple #[.int .i64 (S.write nLog fr).2.1, .int .i64 (S.write nLog fr).2.2]) ∧ Two ((g, logO d sz last false) :: X') B w' d m (S.write nLog fr).1 R ∧ Below B w1 w') := ⟨fun hl => write_two hl hF nLog fr (by decide) (by omega)⟩
  unfold appD
  rw [hfr]
  dsimp only
  have hqi : fe = 0 → 1 ≤ q ∧ q ≤ 4503599627370496 := fun he => frames_in (by rw [hfr]; exact he)
  clear h hX hB hgB hF hle hL hG h1 hfr hB0 hX' hs1 hfs hrb
  cases br with
  | true =>
    rw [if_pos rfl]
    dsimp only
    go_enter Tryz.func17, Tryz.ntmps17
    go_wp2
    go_ret
    exact ⟨rfl, L0.out.1.less (hsub.out _), L0.out.2⟩
  | false =>
    rw [if_neg (by decide)]
    by_cases hfe : fe = 0
    · subst hfe
      have hq := hqi rfl
      have hq1 := hq.1
      have hq2 := hq.2
      clear hqi hq
      rw [if_pos rfl]
      by_cases hc : 0 < last ∧ q ≠ last + 1
      · rw [if_pos hc]
        dsimp only
        obtain ⟨hc1, hc2⟩ := hc
        have hd : decide (0 < last) = true := decide_eq_true hc1
        have hne : (q == last + 1) = false := by simpa using hc2
        go_enter Tryz.func17, Tryz.ntmps17
        go_wp2_with (first
          | (go_at_call 12; (with_reducible refine (wal_Frame.calls 20 q b fr 0 _ HF.out).mono ?_); rintro e w1 ⟨rfl, hb⟩; have L1 := Aside0.mk (And.intro (L0.out.1.below hb) (L0.out.2.trans (hb.mono L0.out.1.size))); have hlg := L1.out.1.at (List.mem_cons_self ..); have y0 := blk_cell hlg 0; have y1 := blk_cell hlg 1; have y3 := blk_cell hlg 3; have hrc := L1.out.1.at hmem.out; have r0 : w1.cell? ⟨w.heap.size, 0, none⟩ = some (.int .i64 q) := (by have hr0 := blk_cell hrc 0; rw [hRb.out] at hr0; exact hr0); have hgl1 := blk_lt hlg; clear x4 hlg hrc; clear hb)
          | go_in)
        go_quiet (fail)
        go_wp2
        go_ret
        have hbd := pw_below_drewN (Below.refl w1.heap.size w1) nq
        exact ⟨rfl, (L1.out.1.drewN nq).less (hsub.out _), pw_below_drewN L1.out.2 nq⟩
      · rw [if_neg hc]
        obtain ⟨S1, k1, we, hw⟩ : ∃ S1 k1 we, S.write nLog fr = (S1, k1, we) := ⟨_, _, _, rfl⟩
        rw [hw] at CW ⊢
        dsimp only at CW ⊢
        clear hw
        by_cases hc0 : 0 < last
        · have hqe : q = last + 1 := Decidable.byContradiction fun hn => hc ⟨hc0, hn⟩
          clear hc
          have hd : decide (0 < last) = true := decide_eq_true hc0
          have hne : (q == last + 1) = true := by simpa using hqe
          have hqx : (last + 1 == last + 1) = true := by simp
          clear hqe
          by_cases hwe : we = 0
          · subst hwe
            simp only [if_true]
            have CB : Aside0 (∀ {w1 : World}, Two ((g, logO d sz last false) :: X') B w1 d m S1 R → Below B w w1 → Calls Tryz.prog 43 #[.pointer (some ⟨g, 0, none⟩), .int .i64 0] w1 fun ev w' => ev = .returned (.int .i64 0) ∧ Two ((g, logO d sz last false) :: X') B w' d m S1 R ∧ Below B w1 w') := ⟨fun hl hb => broke_two 0 hl hXg.out HgB.out (Gl.low HG.out hb H1.out) H1.out⟩
            go_enter Tryz.func17, Tryz.ntmps17
            go_wp2_with (first
              | (go_at_call 12; (with_reducible refine (wal_Frame.calls 20 q b fr 0 _ HF.out).mono ?_); rintro e w1 ⟨rfl, hb⟩; have L1 := Aside0.mk (And.intro (L0.out.1.below hb) (L0.out.2.trans (hb.mono L0.out.1.size))); have hlg := L1.out.1.at (List.mem_cons_self ..); have y0 := blk_cell hlg 0; have y1 := blk_cell hlg 1; have y3 := blk_cell hlg 3; have hrc := L1.out.1.at hmem.out; have r0 : w1.cell? ⟨w.heap.size, 0, none⟩ = some (.int .i64 q) := (by have hr0 := blk_cell hrc 0; rw [hRb.out] at hr0; exact hr0); have hgl1 := blk_lt hlg; clear x4 hlg hrc; clear hb)
              | go_in)
            go_quiet (fail)
            go_wp2
            have L1d := Aside0.mk (And.intro (L1.out.1.drewN nq) (pw_below_drewN L1.out.2 nq))
            clear y0 y1 y3 r0 hgl1
            generalize w1.drewN nq = w2 at L1d ⊢
            have hlg2 := L1d.out.1.at (List.mem_cons_self ..)
            have y0 := blk_cell hlg2 0
            have y1 := blk_cell hlg2 1
            have hgl2 := blk_lt hlg2
            clear hlg2
            have L1e := Aside0.mk (And.intro L1d.out.1.drew (below_drew1 L1d.out.2))
            go_region_with (go_at_call 42; (with_reducible refine (CW.out L1e.out.1).mono ?_); rintro e w3 ⟨rfl, hl, hb⟩; have L3 := Aside0.mk (And.intro hl (L1e.out.2.trans hb)); clear hl hb)
            all_goals
              go_wp2_with (first
                | (go_at_call 43; (with_reducible refine (CB.out L3.out.1 L3.out.2).mono ?_); rintro e w4 ⟨rfl, hl, hb⟩; have L4 := Aside0.mk (And.intro hl (L3.out.2.trans hb)); have hlg := hl.at (List.mem_cons_self ..); have u2 := blk_cell hlg 2; have u3 := blk_cell hlg 3; have v2 := blk_frozen hlg 2; have v3 := blk_frozen hlg 3; have r1 : w4.cell? ⟨w.heap.size, 0, none⟩ = some (.int .i64 q) := (by have hr0 := blk_cell (hl.at (hmem2.out _)) 0; rw [hRb.out] at hr0; exact hr0); have hgl4 := blk_lt hlg; clear hlg; clear hl hb)
                | go_in)
              go_ret
              have p1 := two_put L4.out.1 2 (.int .i64 (sz + (fr.size : Int))) (cs' := #[.pointer (some ⟨d, 0, none⟩), .string nLog, .int .i64 (sz + (fr.size : Int)), .int .i64 last, .bool false]) rfl hXg.out
              have p2 := two_put p1 3 (.int .i64 q) (cs' := #[.pointer (some ⟨d, 0, none⟩), .string nLog, .int .i64 (sz + (fr.size : Int)), .int .i64 q, .bool false]) rfl hXg.out
              exact ⟨rfl, p2.less (hsub.out _), (L4.out.2.setCell HgB.out _).setCell HgB.out _⟩
          · have hz : (we == 0) = false := by simpa using hwe
            rw [if_neg hwe]
            dsimp only
            have CB : Aside0 (∀ {w1 : World}, Two ((g, logO d sz last false) :: X') B w1 d m S1 R → Below B w w1 → Calls Tryz.prog 43 #[.pointer (some ⟨g, 0, none⟩), .int .i64 we] w1 fun ev w' => ev = .returned (.int .i64 we) ∧ Two ((g, logO d sz last true) :: X') B w' d m S1 R ∧ Below B w1 w') := ⟨fun hl hb => by have qq := broke_two we hl hXg.out HgB.out (Gl.low HG.out hb H1.out) H1.out; rw [decide_eq_false hwe] at qq; exact qq⟩
            clear hwe
            go_enter Tryz.func17, Tryz.ntmps17
            go_wp2_with (first
              | (go_at_call 12; (with_reducible refine (wal_Frame.calls 20 q b fr 0 _ HF.out).mono ?_); rintro e w1 ⟨rfl, hb⟩; have L1 := Aside0.mk (And.intro (L0.out.1.below hb) (L0.out.2.trans (hb.mono L0.out.1.size))); have hlg := L1.out.1.at (List.mem_cons_self ..); have y0 := blk_cell hlg 0; have y1 := blk_cell hlg 1; have y3 := blk_cell hlg 3; have hrc := L1.out.1.at hmem.out; have r0 : w1.cell? ⟨w.heap.size, 0, none⟩ = some (.int .i64 q) := (by have hr0 := blk_cell hrc 0; rw [hRb.out] at hr0; exact hr0); have hgl1 := blk_lt hlg; clear x4 hlg hrc; clear hb)
              | go_in)
            go_quiet (fail)
            go_wp2
            have L1d := Aside0.mk (And.intro (L1.out.1.drewN nq) (pw_below_drewN L1.out.2 nq))
            clear y0 y1 y3 r0 hgl1
            generalize w1.drewN nq = w2 at L1d ⊢
            have hlg2 := L1d.out.1.at (List.mem_cons_self ..)
            have y0 := blk_cell hlg2 0
            have y1 := blk_cell hlg2 1
            have hgl2 := blk_lt hlg2
            clear hlg2
            have L1e := Aside0.mk (And.intro L1d.out.1.drew (below_drew1 L1d.out.2))
            go_region_with (go_at_call 42; (with_reducible refine (CW.out L1e.out.1).mono ?_); rintro e w3 ⟨rfl, hl, hb⟩; have L3 := Aside0.mk (And.intro hl (L1e.out.2.trans hb)); clear hl hb)
            all_goals
              go_wp2_with (first
                | (go_at_call 43; (with_reducible refine (CB.out L3.out.1 L3.out.2).mono ?_); rintro e w4 ⟨rfl, hl, hb⟩; have L4 := Aside0.mk (And.intro hl (L3.out.2.trans hb)); clear hl hb)
                | go_in)
              go_ret
              exact ⟨rfl, L4.out.1.less (hsub.out _), L4.out.2⟩
        · clear hc
          have hd : decide (0 < last) = false := decide_eq_false hc0
          by_cases hwe : we = 0
          · subst hwe
            simp only [if_true]
            have CB : Aside0 (∀ {w1 : World}, Two ((g, logO d sz last false) :: X') B w1 d m S1 R → Below B w w1 → Calls Tryz.prog 43 #[.pointer (some ⟨g, 0, none⟩), .int .i64 0] w1 fun ev w' => ev = .returned (.int .i64 0) ∧ Two ((g, logO d sz last false) :: X') B w' d m S1 R ∧ Below B w1 w') := ⟨fun hl hb => broke_two 0 hl hXg.out HgB.out (Gl.low HG.out hb H1.out) H1.out⟩
            go_enter Tryz.func17, Tryz.ntmps17
            go_wp2_with (first
              | (go_at_call 12; (with_reducible refine (wal_Frame.calls 20 q b fr 0 _ HF.out).mono ?_); rintro e w1 ⟨rfl, hb⟩; have L1 := Aside0.mk (And.intro (L0.out.1.below hb) (L0.out.2.trans (hb.mono L0.out.1.size))); have hlg := L1.out.1.at (List.mem_cons_self ..); have y0 := blk_cell hlg 0; have y1 := blk_cell hlg 1; have y3 := blk_cell hlg 3; have hrc := L1.out.1.at hmem.out; have r0 : w1.cell? ⟨w.heap.size, 0, none⟩ = some (.int .i64 q) := (by have hr0 := blk_cell hrc 0; rw [hRb.out] at hr0; exact hr0); have hgl1 := blk_lt hlg; clear x4 hlg hrc; clear hb)
              | go_in)
            go_quiet (fail)
            go_wp2
            have L1d := Aside0.mk (And.intro (L1.out.1.drewN nq) (pw_below_drewN L1.out.2 nq))
            clear y0 y1 y3 r0 hgl1
            generalize w1.drewN nq = w2 at L1d ⊢
            have hlg2 := L1d.out.1.at (List.mem_cons_self ..)
            have y0 := blk_cell hlg2 0
            have y1 := blk_cell hlg2 1
            have hgl2 := blk_lt hlg2
            clear hlg2
            have L1e := Aside0.mk (And.intro L1d.out.1.drew (below_drew1 L1d.out.2))
            go_region_with (go_at_call 42; (with_reducible refine (CW.out L1e.out.1).mono ?_); rintro e w3 ⟨rfl, hl, hb⟩; have L3 := Aside0.mk (And.intro hl (L1e.out.2.trans hb)); clear hl hb)
            all_goals
              go_wp2_with (first
                | (go_at_call 43; (with_reducible refine (CB.out L3.out.1 L3.out.2).mono ?_); rintro e w4 ⟨rfl, hl, hb⟩; have L4 := Aside0.mk (And.intro hl (L3.out.2.trans hb)); have hlg := hl.at (List.mem_cons_self ..); have u2 := blk_cell hlg 2; have u3 := blk_cell hlg 3; have v2 := blk_frozen hlg 2; have v3 := blk_frozen hlg 3; have r1 : w4.cell? ⟨w.heap.size, 0, none⟩ = some (.int .i64 q) := (by have hr0 := blk_cell (hl.at (hmem2.out _)) 0; rw [hRb.out] at hr0; exact hr0); have hgl4 := blk_lt hlg; clear hlg; clear hl hb)
                | go_in)
              go_ret
              have p1 := two_put L4.out.1 2 (.int .i64 (sz + (fr.size : Int))) (cs' := #[.pointer (some ⟨d, 0, none⟩), .string nLog, .int .i64 (sz + (fr.size : Int)), .int .i64 last, .bool false]) rfl hXg.out
              have p2 := two_put p1 3 (.int .i64 q) (cs' := #[.pointer (some ⟨d, 0, none⟩), .string nLog, .int .i64 (sz + (fr.size : Int)), .int .i64 q, .bool false]) rfl hXg.out
              exact ⟨rfl, p2.less (hsub.out _), (L4.out.2.setCell HgB.out _).setCell HgB.out _⟩
          · have hz : (we == 0) = false := by simpa using hwe
            rw [if_neg hwe]
            dsimp only
            have CB : Aside0 (∀ {w1 : World}, Two ((g, logO d sz last false) :: X') B w1 d m S1 R → Below B w w1 → Calls Tryz.prog 43 #[.pointer (some ⟨g, 0, none⟩), .int .i64 we] w1 fun ev w' => ev = .returned (.int .i64 we) ∧ Two ((g, logO d sz last true) :: X') B w' d m S1 R ∧ Below B w1 w') := ⟨fun hl hb => by have qq := broke_two we hl hXg.out HgB.out (Gl.low HG.out hb H1.out) H1.out; rw [decide_eq_false hwe] at qq; exact qq⟩
            clear hwe
            go_enter Tryz.func17, Tryz.ntmps17
            go_wp2_with (first
              | (go_at_call 12; (with_reducible refine (wal_Frame.calls 20 q b fr 0 _ HF.out).mono ?_); rintro e w1 ⟨rfl, hb⟩; have L1 := Aside0.mk (And.intro (L0.out.1.below hb) (L0.out.2.trans (hb.mono L0.out.1.size))); have hlg := L1.out.1.at (List.mem_cons_self ..); have y0 := blk_cell hlg 0; have y1 := blk_cell hlg 1; have y3 := blk_cell hlg 3; have hrc := L1.out.1.at hmem.out; have r0 : w1.cell? ⟨w.heap.size, 0, none⟩ = some (.int .i64 q) := (by have hr0 := blk_cell hrc 0; rw [hRb.out] at hr0; exact hr0); have hgl1 := blk_lt hlg; clear x4 hlg hrc; clear hb)
              | go_in)
            go_quiet (fail)
            go_wp2
            have L1d := Aside0.mk (And.intro (L1.out.1.drewN nq) (pw_below_drewN L1.out.2 nq))
            clear y0 y1 y3 r0 hgl1
            generalize w1.drewN nq = w2 at L1d ⊢
            have hlg2 := L1d.out.1.at (List.mem_cons_self ..)
            have y0 := blk_cell hlg2 0
            have y1 := blk_cell hlg2 1
            have hgl2 := blk_lt hlg2
            clear hlg2
            have L1e := Aside0.mk (And.intro L1d.out.1.drew (below_drew1 L1d.out.2))
            go_region_with (go_at_call 42; (with_reducible refine (CW.out L1e.out.1).mono ?_); rintro e w3 ⟨rfl, hl, hb⟩; have L3 := Aside0.mk (And.intro hl (L1e.out.2.trans hb)); clear hl hb)
            all_goals
              go_wp2_with (first
                | (go_at_call 43; (with_reducible refine (CB.out L3.out.1 L3.out.2).mono ?_); rintro e w4 ⟨rfl, hl, hb⟩; have L4 := Aside0.mk (And.intro hl (L3.out.2.trans hb)); clear hl hb)
                | go_in)
              go_ret
              exact ⟨rfl, L4.out.1.less (hsub.out _), L4.out.2⟩
    · have hz : (fe == 0) = false := by simpa using hfe
      rw [if_neg hfe]
      dsimp only
      clear hqi
      go_enter Tryz.func17, Tryz.ntmps17
      go_wp2_with (first
        | (go_at_call 12; (with_reducible refine (wal_Frame.calls 20 q b fr fe _ HF.out).mono ?_); rintro e w1 ⟨rfl, hb⟩; have L1 := Aside0.mk (And.intro (L0.out.1.below hb) (L0.out.2.trans (hb.mono L0.out.1.size))); clear hb)
        | go_in)
      go_ret
      exact ⟨rfl, L1.out.1.less (hsub.out _), L1.out.2⟩
end
end Go.Proofs.YtomhgoahhlnjpaaGreatDoor.Pl

/- The log's Sync, Size and Broken on any disk, walked. -/
namespace Go.Proofs.YtomhgoahhlnjpaaGreatDoor.Pl
open Go.RowKit Go.Maps Go.Sort Go.Proofs.YtomhgoahhlnjpaaGreatDoorW.PrintWords Go.Proofs.YtomhgoahhlnjpaaGreatDoor.PRef Go.Proofs.YtomhgoahhlnjpaaGreatDoor.Dk Go.Proofs.YtomhgoahhlnjpaaGreatDoor.Rf Go.Proofs.YtomhgoahhlnjpaaGreatDoor.WalN Go.Proofs.YtomhgoahhlnjpaaGreatDoor.PWal Go.Proofs.YtomhgoahhlnjpaaGreatDoor.WalB

section
variable {X : List (Nat × Obj)} {B : Nat} {w : World} {d m g : Nat} {S : DS} {R R2 : RS} {φ : List Nat} {n : Nat} {p : Addr}
set_option maxRecDepth 100000 in
set_option maxHeartbeats 4000000 in
theorem logsync_two (l : Lg) (h : Two ((g, logO d l.sz l.last l.br) :: X) B w d m S R) (hX : ∀ x ∈ X, x.1 ≠ g) (hgB : B ≤ g) (hF : Fit S R2 φ n) (hG : Gl (.pointer (some p)) w) (h1 : 1 < B) :
    Calls Tryz.prog 19 #[.pointer (some ⟨g, 0, none⟩)] w fun e w' => e = .returned (.int .i64 (synD S l).2.2) ∧ Two ((g, logO d (synD S l).2.1.sz (synD S l).2.1.last (synD S l).2.1.br) :: X) B w' d m (synD S l).1 R ∧ Below B w w' := by
  obtain ⟨sz, last, br⟩ := l
  dsimp only at h
  have hB := h.size
  have hb := h.at (List.mem_cons_self ..)
  have x0 := blk_cell hb 0
  have x1 := blk_cell hb 1
  have x4 := blk_cell hb 4
  have hgl := blk_lt hb
  have HP := Aside0.mk h
  have L0 := Aside0.mk h.drew
  have B0 : Aside0 (Below B w w.drew) := ⟨below_drew1 (Below.refl B w)⟩
  have HG := Aside0.mk hG
  have H1 := Aside0.mk h1
  have HgB := Aside0.mk hgB
  have HX := Aside0.mk hX
  have CS : Aside0 (∀ {w1 : World}, Two ((g, logO d sz last false) :: X) B w1 d m S R → Calls Tryz.prog 35 #[.pointer (some ⟨d, 0, none⟩), .string nLog] w1 fun e w' => e = .returned (.int .i64 (S.sync nLog).2) ∧ Two ((g, logO d sz last false) :: X) B w' d m (S.sync nLog).1 R ∧ Below B w1 w') := ⟨fun hl => sync_two hl hF nLog (by decide)⟩
  unfold synD
  dsimp only
  clear h hX hB hgB hF hG h1 hb
  cases br with
  | true =>
    rw [if_pos rfl]
    dsimp only
    go_enter Tryz.func19, Tryz.ntmps19
    go_wp2
    go_ret
    exact ⟨rfl, HP.out, Below.refl _ _⟩
  | false =>
    rw [if_neg (by decide)]
    obtain ⟨S1, we, hw⟩ : ∃ S1 we, S.sync nLog = (S1, we) := ⟨_, _, rfl⟩
    rw [hw] at CS ⊢
    dsimp only at CS ⊢
    clear hw
    by_cases hwe : we = 0
    · subst hwe
      rw [if_pos rfl]
      have CB : Aside0 (∀ {w1 : World}, Two ((g, logO d sz last false) :: X) B w1 d m S1 R → Below B w w1 → Calls Tryz.prog 43 #[.pointer (some ⟨g, 0, none⟩), .int .i64 0] w1 fun ev w' => ev = .returned (.int .i64 0) ∧ Two ((g, logO d sz last false) :: X) B w' d m S1 R ∧ Below B w1 w') := ⟨fun hl hb => broke_two 0 hl HX.out HgB.out (Gl.low HG.out hb H1.out) H1.out⟩
      go_enter Tryz.func19, Tryz.ntmps19
      go_wp2
      go_region_with (first
        | (go_at_call 35; (with_reducible refine (CS.out L0.out).mono ?_); rintro e w1 ⟨rfl, hl, hb⟩; have L1 := Aside0.mk (And.intro hl (B0.out.trans hb)); clear hl hb)
        | (go_at_call 43; (with_reducible refine (CB.out L1.out.1 L1.out.2).mono ?_); rintro e w2 ⟨rfl, hl, hb⟩; have L2 := Aside0.mk (And.intro hl (L1.out.2.trans hb)); clear hl hb))
      all_goals
        go_wp2
        go_ret
        exact ⟨rfl, L2.out.1, L2.out.2⟩
    · rw [if_neg hwe]
      have CB : Aside0 (∀ {w1 : World}, Two ((g, logO d sz last false) :: X) B w1 d m S1 R → Below B w w1 → Calls Tryz.prog 43 #[.pointer (some ⟨g, 0, none⟩), .int .i64 we] w1 fun ev w' => ev = .returned (.int .i64 we) ∧ Two ((g, logO d sz last true) :: X) B w' d m S1 R ∧ Below B w1 w') := ⟨fun hl hb => by have qq := broke_two we hl HX.out HgB.out (Gl.low HG.out hb H1.out) H1.out; rw [decide_eq_false hwe] at qq; exact qq⟩
      clear hwe
      go_enter Tryz.func19, Tryz.ntmps19
      go_wp2
      go_region_with (first
        | (go_at_call 35; (with_reducible refine (CS.out L0.out).mono ?_); rintro e w1 ⟨rfl, hl, hb⟩; have L1 := Aside0.mk (And.intro hl (B0.out.trans hb)); clear hl hb)
        | (go_at_call 43; (with_reducible refine (CB.out L1.out.1 L1.out.2).mono ?_); rintro e w2 ⟨rfl, hl, hb⟩; have L2 := Aside0.mk (And.intro hl (L1.out.2.trans hb)); clear hl hb))
      all_goals
        go_wp2
        go_ret
        exact ⟨rfl, L2.out.1, L2.out.2⟩
theorem size_two {w : World} {d g : Nat} {s l : Int} {br : Bool} (h : w.heap[g]? = some (logO d s l br)) : Calls Tryz.prog 10 #[.pointer (some ⟨g, 0, none⟩)] w fun e w' => e = .returned (.int .i64 s) ∧ w' = w := by
  have x2 := blk_cell h 2
  go_enter Tryz.func10, Tryz.ntmps10
  go_wp2
  go_ret
  exact ⟨rfl, rfl⟩
theorem broken_two {w : World} {d g : Nat} {s l : Int} {br : Bool} (h : w.heap[g]? = some (logO d s l br)) : Calls Tryz.prog 11 #[.pointer (some ⟨g, 0, none⟩)] w fun e w' => e = .returned (.bool br) ∧ w' = w := by
  have x4 := blk_cell h 4
  go_enter Tryz.func11, Tryz.ntmps11
  go_wp2
  go_ret
  exact ⟨rfl, rfl⟩
end
end Go.Proofs.YtomhgoahhlnjpaaGreatDoor.Pl

/- The document's log's Append on any disk, walked. -/
namespace Go.Proofs.YtomhgoahhlnjpaaGreatDoor.Pl
open Go.RowKit Go.Maps Go.Sort Go.Proofs.YtomhgoahhlnjpaaGreatDoorW.PrintWords Go.Proofs.YtomhgoahhlnjpaaGreatDoor.PRef Go.Proofs.YtomhgoahhlnjpaaGreatDoor.Dk Go.Proofs.YtomhgoahhlnjpaaGreatDoor.Rf Go.Proofs.YtomhgoahhlnjpaaGreatDoor.WalN Go.Proofs.YtomhgoahhlnjpaaGreatDoor.PWal Go.Proofs.YtomhgoahhlnjpaaGreatDoor.WalB

section
variable {X : List (Nat × Obj)} {B : Nat} {w : World} {d m g : Nat} {S S2 : DS} {R : RS} {φ : List Nat} {n : Nat} {p : Addr}
set_option maxRecDepth 100000 in
set_option maxHeartbeats 8000000 in
theorem append_twoR (l : Lg) (q : Int) (b : ByteArray) (h : Two ((g, logR m l.sz l.last l.br) :: X) B w d m S R) (hX : ∀ x ∈ X, x.1 ≠ g) (hgB : B ≤ g) (hF : Fit S2 R φ n) (hle : n + b.size + 40 ≤ 8388608) (hL : LgOk l n) :
    Calls Tryz.prog 18 #[.pointer (some ⟨g, 0, none⟩), .agg #[.int .i64 q, .string b]] w fun e w' => e = .returned (.int .i64 (appR R l q b).2.2) ∧ Two ((g, logR m (appR R l q b).2.1.sz (appR R l q b).2.1.last (appR R l q b).2.1.br) :: X) B w' d m S (appR R l q b).1 ∧ Below B w w' := by
  obtain ⟨sz, last, br⟩ := l
  have hs0 := hL.s0
  have hs1 := hL.s1
  have hl0 := hL.l0
  have hl1 := hL.l1
  dsimp only at h hs0 hs1 hl0 hl1
  have hB := h.size
  obtain ⟨fr, fe, hfr⟩ : ∃ fr fe, FRAMES q b = (fr, fe) := ⟨_, _, rfl⟩
  have hfs := frames_size q b
  rw [hfr] at hfs
  dsimp only at hfs
  have HF : Aside0 (lodestarref09_Frame.f (10 * b.size + 200) q b = some (fr, fe)) := ⟨by rw [refFrame _ _ _ (Nat.le_refl _), hfr]⟩
  obtain ⟨rb, hrb⟩ : ∃ rb, rb = w.heap.size := ⟨_, rfl⟩
  obtain ⟨X', hX'⟩ : ∃ X', X' = (rb, Obj.cells #[.int .i64 q, .string b] 61 (0, 0)) :: X := ⟨_, rfl⟩
  have hglt : g < w.heap.size := blk_lt (h.at (List.mem_cons_self ..))
  have hXg : Aside0 (∀ x ∈ X', x.1 ≠ g) := ⟨fun x hx => by
    rw [hX'] at hx
    rcases List.mem_cons.1 hx with rfl | hx
    · show rb ≠ g; omega
    · exact hX x hx⟩
  have hB0 := (Below.refl w.heap.size w).alloc (Nat.le_refl _) (.cells #[.int .i64 q, .string b] 61)
  have L0 : Aside0 (Two ((g, logR m sz last br) :: X') B (w.alloc (.cells #[.int .i64 q, .string b] 61)) d m S R ∧ Below B w (w.alloc (.cells #[.int .i64 q, .string b] 61))) :=
    ⟨(h.new hB0 (Nat.le_of_eq hrb.symm) (by rw [hrb]; exact heap_alloc_new w _)).less (fun x hx => by
      rw [hX'] at hx
      rcases List.mem_cons.1 hx with rfl | hx
      · exact List.mem_cons_of_mem _ (List.mem_cons_self ..)
      · rcases List.mem_cons.1 hx with rfl | hx
        · exact List.mem_cons_self ..
        · exact List.mem_cons_of_mem _ (List.mem_cons_of_mem _ hx)), hB0.mono hB⟩
  have hmem : Aside0 ((rb, Obj.cells #[.int .i64 q, .string b] 61 (0, 0)) ∈ (g, logR m sz last br) :: X') := ⟨by rw [hX']; exact List.mem_cons_of_mem _ (List.mem_cons_self ..)⟩
  have hmem2 : Aside0 (∀ o : Obj, (rb, Obj.cells #[.int .i64 q, .string b] 61 (0, 0)) ∈ (g, o) :: X') := ⟨fun o => by rw [hX']; exact List.mem_cons_of_mem _ (List.mem_cons_self ..)⟩
  have hsub : Aside0 (∀ (o : Obj), ∀ x ∈ (g, o) :: X, x ∈ (g, o) :: X') := ⟨fun o x hx => by
    rw [hX']
    rcases List.mem_cons.1 hx with rfl | hx
    · exact List.mem_cons_self ..
    · exact List.mem_cons_of_mem _ (List.mem_cons_of_mem _ hx)⟩
  have HgB := Aside0.mk hgB
  have x4 : (w.alloc (.cells #[.int .i64 q, .string b] 61)).cell? ⟨g, 4, none⟩ = some (.bool br) := blk_cell (L0.out.1.at (List.mem_cons_self ..)) 4
  have hRb := Aside0.mk hrb
  have hs2 : sz ≤ 1099511627776 := by omega
  have hf2 : (fr.size : Int) ≤ 1099511627776 := by omega
  have CW : Aside0 (∀ {w1 : World}, Two ((g, logR m sz last false) :: X') B w1 d m S R → Calls Tryz.prog 37 #[.pointer (some ⟨m, 0, none⟩), .string nLog, .string fr] w1 fun e w' => e = .returned (.tuple #[.int .i64 (R.writeR nLog fr).2.1, .int .i64 (R.writeR nLog fr).2.2]) ∧ Two ((g, logR m sz last false) :: X') B w' d m S (R.writeR nLog fr).1 ∧ Below B w1 w') := ⟨fun hl => write_twoR hF hl nLog fr (by omega)⟩
  unfold appR
  rw [hfr]
  dsimp only
  have hqi : fe = 0 → 1 ≤ q ∧ q ≤ 4503599627370496 := fun he => frames_in (by rw [hfr]; exact he)
  clear h hX hB hgB hF hle hL hfr hB0 hX' hs1 hfs hrb
  cases br with
  | true =>
    rw [if_pos rfl]
    dsimp only
    go_enter Tryz.func18, Tryz.ntmps18
    go_wp2
    go_ret
    exact ⟨rfl, L0.out.1.less (hsub.out _), L0.out.2⟩
  | false =>
    rw [if_neg (by decide)]
    by_cases hfe : fe = 0
    · subst hfe
      have hq := hqi rfl
      have hq1 := hq.1
      have hq2 := hq.2
      clear hqi hq
      rw [if_pos rfl]
      by_cases hc : 0 < last ∧ q ≠ last + 1
      · rw [if_pos hc]
        dsimp only
        obtain ⟨hc1, hc2⟩ := hc
        have hd : decide (0 < last) = true := decide_eq_true hc1
        have hne : (q == last + 1) = false := by simpa using hc2
        go_enter Tryz.func18, Tryz.ntmps18
        go_wp2_with (first
          | (go_at_call 44; (with_reducible refine (lodestarref09_Frame.calls _ q b fr 0 _ HF.out).mono ?_); rintro e w1 ⟨rfl, hb⟩; have L1 := Aside0.mk (And.intro (L0.out.1.below hb) (L0.out.2.trans (hb.mono L0.out.1.size))); have hlg := L1.out.1.at (List.mem_cons_self ..); have y0 := blk_cell hlg 0; have y1 := blk_cell hlg 1; have y3 := blk_cell hlg 2; have hrc := L1.out.1.at hmem.out; have r0 : w1.cell? ⟨w.heap.size, 0, none⟩ = some (.int .i64 q) := (by have hr0 := blk_cell hrc 0; rw [hRb.out] at hr0; exact hr0); have hgl1 := blk_lt hlg; clear x4 hlg hrc; clear hb)
          | go_in)
        go_quiet (fail)
        go_wp2
        go_ret
        have hbd := pw_below_drewN (Below.refl w1.heap.size w1) nq
        exact ⟨rfl, (L1.out.1.drewN nq).less (hsub.out _), pw_below_drewN L1.out.2 nq⟩
      · rw [if_neg hc]
        obtain ⟨S1, k1, we, hw⟩ : ∃ R1 k1 we, R.writeR nLog fr = (R1, k1, we) := ⟨_, _, _, rfl⟩
        rw [hw] at CW ⊢
        dsimp only at CW ⊢
        clear hw
        by_cases hc0 : 0 < last
        · have hqe : q = last + 1 := Decidable.byContradiction fun hn => hc ⟨hc0, hn⟩
          clear hc
          have hd : decide (0 < last) = true := decide_eq_true hc0
          have hne : (q == last + 1) = true := by simpa using hqe
          have hqx : (last + 1 == last + 1) = true := by simp
          clear hqe
          by_cases hwe : we = 0
          · subst hwe
            simp only [if_true]
            go_enter Tryz.func18, Tryz.ntmps18
            go_wp2_with (first
              | (go_at_call 44; (with_reducible refine (lodestarref09_Frame.calls _ q b fr 0 _ HF.out).mono ?_); rintro e w1 ⟨rfl, hb⟩; have L1 := Aside0.mk (And.intro (L0.out.1.below hb) (L0.out.2.trans (hb.mono L0.out.1.size))); have hlg := L1.out.1.at (List.mem_cons_self ..); have y0 := blk_cell hlg 0; have y1 := blk_cell hlg 1; have y3 := blk_cell hlg 2; have hrc := L1.out.1.at hmem.out; have r0 : w1.cell? ⟨w.heap.size, 0, none⟩ = some (.int .i64 q) := (by have hr0 := blk_cell hrc 0; rw [hRb.out] at hr0; exact hr0); have hgl1 := blk_lt hlg; clear x4 hlg hrc; clear hb)
              | go_in)
            go_quiet (fail)
            go_wp2
            have L1d := Aside0.mk (And.intro (L1.out.1.drewN nq) (pw_below_drewN L1.out.2 nq))
            clear y0 y1 y3 r0 hgl1
            generalize w1.drewN nq = w2 at L1d ⊢
            have hlg2 := L1d.out.1.at (List.mem_cons_self ..)
            have y0 := blk_cell hlg2 0
            have y1 := blk_cell hlg2 1
            have hgl2 := blk_lt hlg2
            clear hlg2
            have L1e := Aside0.mk (And.intro L1d.out.1.drew (below_drew1 L1d.out.2))
            go_region_with (go_at_call 37; (with_reducible refine (CW.out L1e.out.1).mono ?_); rintro e w3 ⟨rfl, hl, hb⟩; have L3 := Aside0.mk (And.intro hl (L1e.out.2.trans hb)); have hlg := hl.at (List.mem_cons_self ..); have u2 := blk_cell hlg 2; have u3 := blk_cell hlg 3; have v2 := blk_frozen hlg 2; have v3 := blk_frozen hlg 3; have v4 := blk_frozen hlg 4; have u4 := blk_cell hlg 4; have r1 : w3.cell? ⟨w.heap.size, 0, none⟩ = some (.int .i64 q) := (by have hr0 := blk_cell (hl.at (hmem2.out _)) 0; rw [hRb.out] at hr0; exact hr0); have hgl4 := blk_lt hlg; clear hlg; clear hl hb)
            all_goals
              go_wp2
              go_ret
              have p1 := two_put L3.out.1 2 (.int .i64 q) (cs' := #[.pointer (some ⟨m, 0, none⟩), .string nLog, .int .i64 q, .int .i64 sz, .bool false]) rfl hXg.out
              have p2 := two_put p1 3 (.int .i64 (sz + (fr.size : Int))) (cs' := #[.pointer (some ⟨m, 0, none⟩), .string nLog, .int .i64 q, .int .i64 (sz + (fr.size : Int)), .bool false]) rfl hXg.out
              exact ⟨rfl, p2.less (hsub.out _), (L3.out.2.setCell HgB.out _).setCell HgB.out _⟩
          · have hz : (we == 0) = false := by simpa using hwe
            rw [if_neg hwe]
            dsimp only
            clear hwe
            go_enter Tryz.func18, Tryz.ntmps18
            go_wp2_with (first
              | (go_at_call 44; (with_reducible refine (lodestarref09_Frame.calls _ q b fr 0 _ HF.out).mono ?_); rintro e w1 ⟨rfl, hb⟩; have L1 := Aside0.mk (And.intro (L0.out.1.below hb) (L0.out.2.trans (hb.mono L0.out.1.size))); have hlg := L1.out.1.at (List.mem_cons_self ..); have y0 := blk_cell hlg 0; have y1 := blk_cell hlg 1; have y3 := blk_cell hlg 2; have hrc := L1.out.1.at hmem.out; have r0 : w1.cell? ⟨w.heap.size, 0, none⟩ = some (.int .i64 q) := (by have hr0 := blk_cell hrc 0; rw [hRb.out] at hr0; exact hr0); have hgl1 := blk_lt hlg; clear x4 hlg hrc; clear hb)
              | go_in)
            go_quiet (fail)
            go_wp2
            have L1d := Aside0.mk (And.intro (L1.out.1.drewN nq) (pw_below_drewN L1.out.2 nq))
            clear y0 y1 y3 r0 hgl1
            generalize w1.drewN nq = w2 at L1d ⊢
            have hlg2 := L1d.out.1.at (List.mem_cons_self ..)
            have y0 := blk_cell hlg2 0
            have y1 := blk_cell hlg2 1
            have hgl2 := blk_lt hlg2
            clear hlg2
            have L1e := Aside0.mk (And.intro L1d.out.1.drew (below_drew1 L1d.out.2))
            go_region_with (go_at_call 37; (with_reducible refine (CW.out L1e.out.1).mono ?_); rintro e w3 ⟨rfl, hl, hb⟩; have L3 := Aside0.mk (And.intro hl (L1e.out.2.trans hb)); have hlg := hl.at (List.mem_cons_self ..); have u2 := blk_cell hlg 2; have u3 := blk_cell hlg 3; have v2 := blk_frozen hlg 2; have v3 := blk_frozen hlg 3; have v4 := blk_frozen hlg 4; have u4 := blk_cell hlg 4; have r1 : w3.cell? ⟨w.heap.size, 0, none⟩ = some (.int .i64 q) := (by have hr0 := blk_cell (hl.at (hmem2.out _)) 0; rw [hRb.out] at hr0; exact hr0); have hgl4 := blk_lt hlg; clear hlg; clear hl hb)
            all_goals
              go_wp2
              go_ret
              have p1 := two_put L3.out.1 4 (.bool true) (cs' := #[.pointer (some ⟨m, 0, none⟩), .string nLog, .int .i64 last, .int .i64 sz, .bool true]) rfl hXg.out
              exact ⟨rfl, p1.less (hsub.out _), L3.out.2.setCell HgB.out _⟩
        · clear hc
          have hd : decide (0 < last) = false := decide_eq_false hc0
          by_cases hwe : we = 0
          · subst hwe
            simp only [if_true]
            go_enter Tryz.func18, Tryz.ntmps18
            go_wp2_with (first
              | (go_at_call 44; (with_reducible refine (lodestarref09_Frame.calls _ q b fr 0 _ HF.out).mono ?_); rintro e w1 ⟨rfl, hb⟩; have L1 := Aside0.mk (And.intro (L0.out.1.below hb) (L0.out.2.trans (hb.mono L0.out.1.size))); have hlg := L1.out.1.at (List.mem_cons_self ..); have y0 := blk_cell hlg 0; have y1 := blk_cell hlg 1; have y3 := blk_cell hlg 2; have hrc := L1.out.1.at hmem.out; have r0 : w1.cell? ⟨w.heap.size, 0, none⟩ = some (.int .i64 q) := (by have hr0 := blk_cell hrc 0; rw [hRb.out] at hr0; exact hr0); have hgl1 := blk_lt hlg; clear x4 hlg hrc; clear hb)
              | go_in)
            go_quiet (fail)
            go_wp2
            have L1d := Aside0.mk (And.intro (L1.out.1.drewN nq) (pw_below_drewN L1.out.2 nq))
            clear y0 y1 y3 r0 hgl1
            generalize w1.drewN nq = w2 at L1d ⊢
            have hlg2 := L1d.out.1.at (List.mem_cons_self ..)
            have y0 := blk_cell hlg2 0
            have y1 := blk_cell hlg2 1
            have hgl2 := blk_lt hlg2
            clear hlg2
            have L1e := Aside0.mk (And.intro L1d.out.1.drew (below_drew1 L1d.out.2))
            go_region_with (go_at_call 37; (with_reducible refine (CW.out L1e.out.1).mono ?_); rintro e w3 ⟨rfl, hl, hb⟩; have L3 := Aside0.mk (And.intro hl (L1e.out.2.trans hb)); have hlg := hl.at (List.mem_cons_self ..); have u2 := blk_cell hlg 2; have u3 := blk_cell hlg 3; have v2 := blk_frozen hlg 2; have v3 := blk_frozen hlg 3; have v4 := blk_frozen hlg 4; have u4 := blk_cell hlg 4; have r1 : w3.cell? ⟨w.heap.size, 0, none⟩ = some (.int .i64 q) := (by have hr0 := blk_cell (hl.at (hmem2.out _)) 0; rw [hRb.out] at hr0; exact hr0); have hgl4 := blk_lt hlg; clear hlg; clear hl hb)
            all_goals
              go_wp2
              go_ret
              have p1 := two_put L3.out.1 2 (.int .i64 q) (cs' := #[.pointer (some ⟨m, 0, none⟩), .string nLog, .int .i64 q, .int .i64 sz, .bool false]) rfl hXg.out
              have p2 := two_put p1 3 (.int .i64 (sz + (fr.size : Int))) (cs' := #[.pointer (some ⟨m, 0, none⟩), .string nLog, .int .i64 q, .int .i64 (sz + (fr.size : Int)), .bool false]) rfl hXg.out
              exact ⟨rfl, p2.less (hsub.out _), (L3.out.2.setCell HgB.out _).setCell HgB.out _⟩
          · have hz : (we == 0) = false := by simpa using hwe
            rw [if_neg hwe]
            dsimp only
            clear hwe
            go_enter Tryz.func18, Tryz.ntmps18
            go_wp2_with (first
              | (go_at_call 44; (with_reducible refine (lodestarref09_Frame.calls _ q b fr 0 _ HF.out).mono ?_); rintro e w1 ⟨rfl, hb⟩; have L1 := Aside0.mk (And.intro (L0.out.1.below hb) (L0.out.2.trans (hb.mono L0.out.1.size))); have hlg := L1.out.1.at (List.mem_cons_self ..); have y0 := blk_cell hlg 0; have y1 := blk_cell hlg 1; have y3 := blk_cell hlg 2; have hrc := L1.out.1.at hmem.out; have r0 : w1.cell? ⟨w.heap.size, 0, none⟩ = some (.int .i64 q) := (by have hr0 := blk_cell hrc 0; rw [hRb.out] at hr0; exact hr0); have hgl1 := blk_lt hlg; clear x4 hlg hrc; clear hb)
              | go_in)
            go_quiet (fail)
            go_wp2
            have L1d := Aside0.mk (And.intro (L1.out.1.drewN nq) (pw_below_drewN L1.out.2 nq))
            clear y0 y1 y3 r0 hgl1
            generalize w1.drewN nq = w2 at L1d ⊢
            have hlg2 := L1d.out.1.at (List.mem_cons_self ..)
            have y0 := blk_cell hlg2 0
            have y1 := blk_cell hlg2 1
            have hgl2 := blk_lt hlg2
            clear hlg2
            have L1e := Aside0.mk (And.intro L1d.out.1.drew (below_drew1 L1d.out.2))
            go_region_with (go_at_call 37; (with_reducible refine (CW.out L1e.out.1).mono ?_); rintro e w3 ⟨rfl, hl, hb⟩; have L3 := Aside0.mk (And.intro hl (L1e.out.2.trans hb)); have hlg := hl.at (List.mem_cons_self ..); have u2 := blk_cell hlg 2; have u3 := blk_cell hlg 3; have v2 := blk_frozen hlg 2; have v3 := blk_frozen hlg 3; have v4 := blk_frozen hlg 4; have u4 := blk_cell hlg 4; have r1 : w3.cell? ⟨w.heap.size, 0, none⟩ = some (.int .i64 q) := (by have hr0 := blk_cell (hl.at (hmem2.out _)) 0; rw [hRb.out] at hr0; exact hr0); have hgl4 := blk_lt hlg; clear hlg; clear hl hb)
            all_goals
              go_wp2
              go_ret
              have p1 := two_put L3.out.1 4 (.bool true) (cs' := #[.pointer (some ⟨m, 0, none⟩), .string nLog, .int .i64 last, .int .i64 sz, .bool true]) rfl hXg.out
              exact ⟨rfl, p1.less (hsub.out _), L3.out.2.setCell HgB.out _⟩
    · have hz : (fe == 0) = false := by simpa using hfe
      rw [if_neg hfe]
      dsimp only
      clear hqi
      go_enter Tryz.func18, Tryz.ntmps18
      go_wp2_with (first
        | (go_at_call 44; (with_reducible refine (lodestarref09_Frame.calls _ q b fr fe _ HF.out).mono ?_); rintro e w1 ⟨rfl, hb⟩; have L1 := Aside0.mk (And.intro (L0.out.1.below hb) (L0.out.2.trans (hb.mono L0.out.1.size))); clear hb)
        | go_in)
      go_ret
      exact ⟨rfl, L1.out.1.less (hsub.out _), L1.out.2⟩
end
end Go.Proofs.YtomhgoahhlnjpaaGreatDoor.Pl
