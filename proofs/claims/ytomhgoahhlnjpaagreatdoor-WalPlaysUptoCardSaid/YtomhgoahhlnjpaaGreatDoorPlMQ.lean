/- Several texts in one. -/
import Derived.Test.YtomhgoahhlnjpaaGreatDoorPlGI
import Derived.Test.YtomhgoahhlnjpaaGreatDoorPlL
import Derived.Deep.RegionHeld3
/- Deeds with both logs, walked: no log; Append; Sync. -/
namespace Go.Proofs.YtomhgoahhlnjpaaGreatDoor.Pl
open Go.RowKit Go.Maps Go.Sort Go.Proofs.YtomhgoahhlnjpaaGreatDoorW.PrintWords Go.Proofs.YtomhgoahhlnjpaaGreatDoor.PRef Go.Proofs.YtomhgoahhlnjpaaGreatDoor.Dk Go.Proofs.YtomhgoahhlnjpaaGreatDoor.Rf Go.Proofs.YtomhgoahhlnjpaaGreatDoor.WalN Go.Proofs.YtomhgoahhlnjpaaGreatDoor.PWal Go.Proofs.YtomhgoahhlnjpaaGreatDoor.WalB

def deedV (kind : Int) (b : ByteArray) (q st : Int) (f : S40) (nm : Int) (Ab : Option Addr) (lb cb : Nat) : Value := .agg #[.int .i64 kind, .string b, .int .i64 q, .int .i64 st, .int .i64 f.f0, .int .i64 f.f1, .int .i64 f.f2, .int .i64 nm, .slice Ab lb cb]
section
theorem flip2 {a b c e : Nat × Obj} : ∀ x ∈ [b, a, c, e], x ∈ [a, b, c, e] := fun x hx => by
  simp only [List.mem_cons, List.not_mem_nil, or_false] at hx ⊢
  rcases hx with rfl | rfl | rfl | rfl
  · exact .inr (.inl rfl)
  · exact .inl rfl
  · exact .inr (.inr (.inl rfl))
  · exact .inr (.inr (.inr rfl))
theorem flip3 {a b c e : Nat × Obj} : ∀ x ∈ [b, a, c], x ∈ [a, b, c, e] := fun x hx => by
  simp only [List.mem_cons, List.not_mem_nil, or_false] at hx ⊢
  rcases hx with rfl | rfl | rfl
  · exact .inr (.inl rfl)
  · exact .inl rfl
  · exact .inr (.inr (.inl rfl))
theorem sync_ne1 {g k P gb : Nat} {o1 o2 o3 o4 o5 o6 : Obj} (h : g ≠ k ∧ g ≠ P ∧ k ≠ P) (hn : ∀ x ∈ [(g, o4), (k, o5), (P, o6)], x.1 ≠ gb) : ∀ x ∈ [(k, o1), (P, o2), (gb, o3)], x.1 ≠ g := fun x hx => by
  simp only [List.mem_cons, List.not_mem_nil, or_false] at hx
  rcases hx with rfl | rfl | rfl
  · exact Ne.symm h.1
  · exact Ne.symm h.2.1
  · exact Ne.symm (hn _ (List.mem_cons_self ..))
theorem sync_ne2 {g k P gb : Nat} {o1 o2 o3 o4 o5 o6 : Obj} (h : g ≠ k ∧ g ≠ P ∧ k ≠ P) (hn : ∀ x ∈ [(g, o4), (k, o5), (P, o6)], x.1 ≠ gb) : ∀ x ∈ [(g, o1), (P, o2), (gb, o3)], x.1 ≠ k := fun x hx => by
  simp only [List.mem_cons, List.not_mem_nil, or_false] at hx
  rcases hx with rfl | rfl | rfl
  · exact h.1
  · exact Ne.symm h.2.2
  · exact Ne.symm (hn _ (List.mem_cons_of_mem _ (List.mem_cons_self ..)))
variable {X : List (Nat × Obj)} {B P : Nat} {w : World} {d m : Nat} {S : DS} {R : RS} {φ : List Nat} {n : Nat} {p : Addr}
theorem sync4 {a b c e f : Nat × Obj} (h : Two [a, b, c, e, f] B w d m S R) : Two [c, e, f, b] B w d m S R := h.less (fun x hx => by
  simp only [List.mem_cons, List.not_mem_nil, or_false] at hx ⊢
  rcases hx with rfl | rfl | rfl | rfl
  · exact .inr (.inr (.inl rfl))
  · exact .inr (.inr (.inr (.inl rfl)))
  · exact .inr (.inr (.inr (.inr rfl)))
  · exact .inr (.inl rfl))
theorem new_ne (h : Two X B w d m S R) : ∀ x ∈ X, x.1 ≠ w.heap.size := fun x hx => Nat.ne_of_lt (blk_lt (h.at (g := x.1) (o := x.2) hx))
set_option maxRecDepth 100000 in
set_option maxHeartbeats 4000000 in
theorem do_nil {nx : Int} (h : Two [(P, pairO d m (.pointer none) (.pointer none) nx)] B w d m S R) (hF : Fit S R φ n) (kind : Int) (hk : kind = 0 ∨ kind = 1) (b : ByteArray) (q st : Int) (f : S40) (nm : Int) (Ab : Option Addr) (lb cb : Nat) :
    Calls Tryz.prog 7 #[.pointer (some ⟨P, 0, none⟩), deedV kind b q st f nm Ab lb cb] w fun e w' => e = .returned (.bool true) ∧ Done B P w w' d m n := by
  unfold deedV
  have H := Aside0.mk h
  have HF := Aside0.mk hF
  have hb := h.at (List.mem_cons_self ..)
  have hPl := blk_lt hb
  clear h hF hb
  rcases hk with rfl | rfl
  · go_enter Tryz.func7, Tryz.ntmps7
    go_wp2_with (first
      | ((with_reducible refine gate_dst (N := 3) rfl ?_); refine box_event ?hg (N := 3) ?hd (cs := #[.int .i64 0, .string b, .int .i64 q, .int .i64 st, .int .i64 f.f0, .int .i64 f.f1, .int .i64 f.f2, .int .i64 nm, .slice Ab lb cb]) (t := 45) ?hr ?_; (case hd => rfl); (case hg => rfl); (case hr => first | (go_simp; done) | (go_simp; rfl)); intro gb hgb w1 hbox hb; have H1 := Aside0.mk (H.out.new hb (Nat.le_of_eq hgb.symm) hbox); have B1 := Aside0.mk (hb.mono H.out.size); have z0 := (blk_cell hbox 0).trans rfl; have hb1 := H1.out.at (List.mem_cons_of_mem _ (List.mem_cons_self ..)); have y3 := blk_cell hb1 3; clear hb1; clear hbox hb hgb)
      | go_in)
    go_ret
    exact ⟨rfl, ⟨S, R, φ, none, ⟨nx, H1.out.less (fun x hx => List.mem_cons_of_mem _ hx)⟩, HF.out, fun l hl => by cases hl⟩, B1.out⟩
  · go_enter Tryz.func7, Tryz.ntmps7
    go_wp2_with (first
      | ((with_reducible refine gate_dst (N := 3) rfl ?_); refine box_event ?hg (N := 3) ?hd (cs := #[.int .i64 1, .string b, .int .i64 q, .int .i64 st, .int .i64 f.f0, .int .i64 f.f1, .int .i64 f.f2, .int .i64 nm, .slice Ab lb cb]) (t := 45) ?hr ?_; (case hd => rfl); (case hg => rfl); (case hr => first | (go_simp; done) | (go_simp; rfl)); intro gb hgb w1 hbox hb; have H1 := Aside0.mk (H.out.new hb (Nat.le_of_eq hgb.symm) hbox); have B1 := Aside0.mk (hb.mono H.out.size); have z0 := (blk_cell hbox 0).trans rfl; have hb1 := H1.out.at (List.mem_cons_of_mem _ (List.mem_cons_self ..)); have y3 := blk_cell hb1 3; clear hb1; clear hbox hb hgb)
      | go_in)
    go_ret
    exact ⟨rfl, ⟨S, R, φ, none, ⟨nx, H1.out.less (fun x hx => List.mem_cons_of_mem _ hx)⟩, HF.out, fun l hl => by cases hl⟩, B1.out⟩
set_option maxRecDepth 100000 in
set_option maxHeartbeats 8000000 in
theorem do_sync {nx : Int} {g k : Nat} (l : Lg) (h : Two [(g, logO d l.sz l.last l.br), (k, logR m l.sz l.last l.br), (P, pairO d m (.pointer (some ⟨g, 0, none⟩)) (.pointer (some ⟨k, 0, none⟩)) nx)] B w d m S R) (hg : B ≤ g) (hk : B ≤ k) (hF : Fit S R φ n) (hL : LgOk l n) (hn : n + 1 ≤ 8388608) (hG : Gl (.pointer (some p)) w) (h1 : 1 < B) (b : ByteArray) (q st : Int) (f : S40) (nm : Int) (Ab : Option Addr) (lb cb : Nat) :
    Calls Tryz.prog 7 #[.pointer (some ⟨P, 0, none⟩), deedV 1 b q st f nm Ab lb cb] w fun e w' => e = .returned (.bool true) ∧ Done B P w w' d m (n + 1) := by
  unfold deedV
  have H := Aside0.mk h
  obtain ⟨hs, he⟩ := syn_sim hF.sim l
  have hS := synD_small hF.s l
  have hR := synR_small hF.r l
  have HOK := Aside0.mk ((syn_ok (S := S) hL).mono (Nat.le_succ n))
  have hb := h.at (List.mem_cons_of_mem _ (List.mem_cons_of_mem _ (List.mem_cons_self ..)))
  have hgb := h.at (List.mem_cons_self ..)
  have hkb := h.at (List.mem_cons_of_mem _ (List.mem_cons_self ..))
  have hPl := blk_lt hb
  have hgl := blk_lt hgb
  have hgk : Aside0 (g ≠ k ∧ g ≠ P ∧ k ≠ P) := ⟨cells_ne hgb hkb (by decide), cells_ne hgb hb (by decide), cells_ne hkb hb (by decide)⟩
  have HG := Aside0.mk hG
  have H1b := Aside0.mk h1
  have Hg := Aside0.mk hg
  have Hk := Aside0.mk hk
  have CD : Aside0 (∀ {X : List (Nat × Obj)} {w1 : World}, Two ((g, logO d l.sz l.last l.br) :: X) B w1 d m S R → (∀ x ∈ X, x.1 ≠ g) → Below B w w1 → Calls Tryz.prog 19 #[.pointer (some ⟨g, 0, none⟩)] w1 fun e w' => e = .returned (.int .i64 (synD S l).2.2) ∧ Two ((g, logO d (synD S l).2.1.sz (synD S l).2.1.last (synD S l).2.1.br) :: X) B w' d m (synD S l).1 R ∧ Below B w1 w') := ⟨fun h2 hX hb => logsync_two l h2 hX Hg.out hF (Gl.low HG.out hb H1b.out) H1b.out⟩
  have CR : Aside0 (∀ {X : List (Nat × Obj)} {w1 : World} {S0 : DS}, Two ((k, logR m l.sz l.last l.br) :: X) B w1 d m S0 R → (∀ x ∈ X, x.1 ≠ k) → Calls Tryz.prog 20 #[.pointer (some ⟨k, 0, none⟩)] w1 fun e w' => e = .returned (.int .i64 (synD S l).2.2) ∧ Two ((k, logR m (synD S l).2.1.sz (synD S l).2.1.last (synD S l).2.1.br) :: X) B w' d m S0 (synR R l).1 ∧ Below B w1 w') := ⟨fun h2 hX => by have q := logsync_twoR l h2 hX Hk.out hF; rw [← he] at q; exact q⟩
  obtain ⟨S1, l1, e1, hp⟩ : ∃ S1 l1 e1, synD S l = (S1, l1, e1) := ⟨_, _, _, rfl⟩
  rw [hp] at CD CR hs hS HOK
  dsimp only at CD CR hs hS HOK
  have HFit : Aside0 (Fit S1 (synR R l).1 φ (n + 1)) := ⟨⟨hs, hS, hR, hn⟩⟩
  clear h hF hs he hS hR hp hb hgb hkb hG h1 hg hk hL hn
  go_enter Tryz.func7, Tryz.ntmps7
  go_wp2_with (first
    | ((with_reducible refine gate_dst (N := 3) rfl ?_); refine box_event ?hg (N := 3) ?hd (cs := #[.int .i64 1, .string b, .int .i64 q, .int .i64 st, .int .i64 f.f0, .int .i64 f.f1, .int .i64 f.f2, .int .i64 nm, .slice Ab lb cb]) (t := 45) ?hr ?_; (case hd => rfl); (case hg => rfl); (case hr => first | (go_simp; done) | (go_simp; rfl)); intro gb hgb w1 hbox hb; have hn0 := new_ne H.out; rw [← hgb] at hn0; have HN := Aside0.mk hn0; clear hn0; have H1 := Aside0.mk (H.out.new hb (Nat.le_of_eq hgb.symm) hbox); have B1 := Aside0.mk (hb.mono H.out.size); have z0 := (blk_cell hbox 0).trans rfl; have z1 := (blk_cell hbox 1).trans rfl; have z2 := (blk_cell hbox 2).trans rfl; have hb1 := H1.out.at (List.mem_cons_of_mem _ (List.mem_cons_of_mem _ (List.mem_cons_of_mem _ (List.mem_cons_self ..)))); have y2 := blk_cell hb1 2; have y3 := blk_cell hb1 3; have y4 := blk_cell hb1 4; have hgb2 := blk_lt hbox; have hPl1 := blk_lt hb1; clear hb1; clear hbox hb hgb)
    | go_in)
  go_region
  have hbq := below_drew1 ((Below.refl w1.heap.size w1).alloc (Nat.le_refl _) (.cells #[.int .i64 nx, .string b] 61))
  have H2 := Aside0.mk (H1.out.new hbq (Nat.le_refl _) (heap_alloc_new w1 (.cells #[.int .i64 nx, .string b] 61)))
  have B2 := Aside0.mk (B1.out.trans (hbq.mono H1.out.size))
  clear hbq y2 y3 y4 z0 z1 z2
  generalize (w1.alloc (.cells #[.int .i64 nx, .string b] 61)).drew = w2 at H2 B2 ⊢
  have hbg := H2.out.at (List.mem_cons_of_mem _ (List.mem_cons_self ..))
  have z0 := (blk_cell hbg 0).trans rfl
  have z2 := (blk_cell hbg 2).trans rfl
  have hbr := H2.out.at (List.mem_cons_self ..)
  have r0 := blk_cell hbr 0
  have f0 := blk_frozen hbr 0
  have hbrl := blk_lt hbr
  clear hbg hbr
  by_cases hq : q = 0
  · have hqz : (q != 0) = false := by simp [hq]
    clear hq
    go_wp2
    have L5 := Aside0.mk (sync4 H2.out)
    have B5 := B2
    clear z0 z2 r0 f0 hbrl
    have L5d := Aside0.mk (And.intro L5.out.drew (below_drew1 B5.out))
    have hbp := L5.out.at (List.mem_cons_of_mem _ (List.mem_cons_of_mem _ (List.mem_cons_self ..)))
    have y2 := blk_cell hbp 2
    have y3 := blk_cell hbp 3
    clear hbp
    go_region_held3 (fun w' => w'.cell? ⟨P, 2, none⟩ = some (.pointer (some ⟨g, 0, none⟩)) ∧ w'.cell? ⟨P, 3, none⟩ = some (.pointer (some ⟨k, 0, none⟩))) (go_keep) (first
      | (go_at_call 19; (with_reducible refine (CD.out L5d.out.1 (sync_ne1 hgk.out HN.out) L5d.out.2).mono ?_); rintro e w6 ⟨rfl, hT, hB⟩; have L6 := Aside0.mk hT; have B6 := Aside0.mk (L5d.out.2.trans hB); have hbp := hT.at (List.mem_cons_of_mem _ (List.mem_cons_of_mem _ (List.mem_cons_self ..))); have u2 := blk_cell hbp 2; have u3 := blk_cell hbp 3; clear hT hB hbp)
      | (go_at_call 20; (with_reducible refine (CR.out (L6.out.less flip2) (sync_ne2 hgk.out HN.out)).mono ?_); rintro e w7 ⟨rfl, hT, hB⟩; have L7 := Aside0.mk hT; have B7 := Aside0.mk (B6.out.trans hB); have hbp := hT.at (List.mem_cons_of_mem _ (List.mem_cons_of_mem _ (List.mem_cons_self ..))); have t2 := blk_cell hbp 2; have t3 := blk_cell hbp 3; have hbx := hT.at (List.mem_cons_of_mem _ (List.mem_cons_of_mem _ (List.mem_cons_of_mem _ (List.mem_cons_self ..)))); have z0 := (blk_cell hbx 0).trans rfl; clear hT hB hbp hbx))
    all_goals
      go_wp2
      go_ret
      exact ⟨rfl, ⟨S1, (synR R l).1, φ, some l1, ⟨g, k, nx, L7.out.less flip3, Hg.out, Hk.out⟩, HFit.out, fun l2 hl => by cases hl; exact HOK.out⟩, B7.out⟩
  · have hqz : (q != 0) = true := by simpa using hq
    clear hq
    go_wp2
    have L5 := Aside0.mk (sync4 (two_put H2.out 0 (.int .i64 q) (cs' := #[.int .i64 q, .string b]) rfl (new_ne H1.out)))
    have B5 := Aside0.mk (B2.out.setCell H1.out.size (p := ⟨w1.heap.size, 0, none⟩) (.int .i64 q))
    clear z0 z2 r0 f0 hbrl
    generalize w2.setCell ⟨w1.heap.size, 0, none⟩ (.int .i64 q) = w2 at L5 B5 ⊢
    have L5d := Aside0.mk (And.intro L5.out.drew (below_drew1 B5.out))
    have hbp := L5.out.at (List.mem_cons_of_mem _ (List.mem_cons_of_mem _ (List.mem_cons_self ..)))
    have y2 := blk_cell hbp 2
    have y3 := blk_cell hbp 3
    clear hbp
    go_region_held3 (fun w' => w'.cell? ⟨P, 2, none⟩ = some (.pointer (some ⟨g, 0, none⟩)) ∧ w'.cell? ⟨P, 3, none⟩ = some (.pointer (some ⟨k, 0, none⟩))) (go_keep) (first
      | (go_at_call 19; (with_reducible refine (CD.out L5d.out.1 (sync_ne1 hgk.out HN.out) L5d.out.2).mono ?_); rintro e w6 ⟨rfl, hT, hB⟩; have L6 := Aside0.mk hT; have B6 := Aside0.mk (L5d.out.2.trans hB); have hbp := hT.at (List.mem_cons_of_mem _ (List.mem_cons_of_mem _ (List.mem_cons_self ..))); have u2 := blk_cell hbp 2; have u3 := blk_cell hbp 3; clear hT hB hbp)
      | (go_at_call 20; (with_reducible refine (CR.out (L6.out.less flip2) (sync_ne2 hgk.out HN.out)).mono ?_); rintro e w7 ⟨rfl, hT, hB⟩; have L7 := Aside0.mk hT; have B7 := Aside0.mk (B6.out.trans hB); have hbp := hT.at (List.mem_cons_of_mem _ (List.mem_cons_of_mem _ (List.mem_cons_self ..))); have t2 := blk_cell hbp 2; have t3 := blk_cell hbp 3; have hbx := hT.at (List.mem_cons_of_mem _ (List.mem_cons_of_mem _ (List.mem_cons_of_mem _ (List.mem_cons_self ..)))); have z0 := (blk_cell hbx 0).trans rfl; clear hT hB hbp hbx))
    all_goals
      go_wp2
      go_ret
      exact ⟨rfl, ⟨S1, (synR R l).1, φ, some l1, ⟨g, k, nx, L7.out.less flip3, Hg.out, Hk.out⟩, HFit.out, fun l2 hl => by cases hl; exact HOK.out⟩, B7.out⟩
end
end Go.Proofs.YtomhgoahhlnjpaaGreatDoor.Pl

/- Deeds with both logs, walked: Append. -/
namespace Go.Proofs.YtomhgoahhlnjpaaGreatDoor.Pl
open Go.RowKit Go.Maps Go.Sort Go.Proofs.YtomhgoahhlnjpaaGreatDoorW.PrintWords Go.Proofs.YtomhgoahhlnjpaaGreatDoor.PRef Go.Proofs.YtomhgoahhlnjpaaGreatDoor.Dk Go.Proofs.YtomhgoahhlnjpaaGreatDoor.Rf Go.Proofs.YtomhgoahhlnjpaaGreatDoor.WalN Go.Proofs.YtomhgoahhlnjpaaGreatDoor.PWal Go.Proofs.YtomhgoahhlnjpaaGreatDoor.WalB

section
variable {X : List (Nat × Obj)} {B P : Nat} {w : World} {d m : Nat} {S : DS} {R : RS} {φ : List Nat} {n : Nat} {p : Addr}
theorem mv5 {a b c e f : Nat × Obj} (h : Two [a, b, c, e, f] B w d m S R) : Two [c, e, f, b, a] B w d m S R := h.less (fun x hx => by
  simp only [List.mem_cons, List.not_mem_nil, or_false] at hx ⊢
  rcases hx with rfl | rfl | rfl | rfl | rfl <;> simp)
theorem flip5 {a b c e f : Nat × Obj} : ∀ x ∈ [b, a, c, e, f], x ∈ [a, b, c, e, f] := fun x hx => by
  simp only [List.mem_cons, List.not_mem_nil, or_false] at hx ⊢
  rcases hx with rfl | rfl | rfl | rfl | rfl <;> simp
theorem flip5b {a b c e f : Nat × Obj} : ∀ x ∈ [c, a, b, e, f], x ∈ [a, b, c, e, f] := fun x hx => by
  simp only [List.mem_cons, List.not_mem_nil, or_false] at hx ⊢
  rcases hx with rfl | rfl | rfl | rfl | rfl <;> simp
theorem flip5c {a b c e f : Nat × Obj} : ∀ x ∈ [b, a, c], x ∈ [c, a, b, e, f] := fun x hx => by
  simp only [List.mem_cons, List.not_mem_nil, or_false] at hx ⊢
  rcases hx with rfl | rfl | rfl <;> simp
theorem flip3b {a b c e f : Nat × Obj} : ∀ x ∈ [b, a, c], x ∈ [a, b, c, e, f] := fun x hx => by
  simp only [List.mem_cons, List.not_mem_nil, or_false] at hx ⊢
  rcases hx with rfl | rfl | rfl <;> simp
theorem ne4 {g k P gb rb : Nat} {o1 o2 o3 o4 : Obj} (h1 : g ≠ k) (h2 : g ≠ P) (h3 : gb ≠ g) (h4 : rb ≠ g) : ∀ x ∈ [(k, o1), (P, o2), (gb, o3), (rb, o4)], x.1 ≠ g := fun x hx => by
  simp only [List.mem_cons, List.not_mem_nil, or_false] at hx
  rcases hx with rfl | rfl | rfl | rfl
  · exact Ne.symm h1
  · exact Ne.symm h2
  · exact h3
  · exact h4
theorem neP {g k P gb rb : Nat} {o1 o2 o3 o4 : Obj} (h : g ≠ k ∧ g ≠ P ∧ k ≠ P) (h3 : gb ≠ P) (h4 : rb ≠ P) : ∀ x ∈ [(k, o1), (g, o2), (gb, o3), (rb, o4)], x.1 ≠ P := fun x hx => by
  simp only [List.mem_cons, List.not_mem_nil, or_false] at hx
  rcases hx with rfl | rfl | rfl | rfl
  · exact h.2.2
  · exact h.2.1
  · exact h3
  · exact h4
set_option maxRecDepth 100000 in
set_option maxHeartbeats 8000000 in
theorem do_append {nx : Int} {g k : Nat} (l : Lg) (b : ByteArray) (q st : Int) (f : S40) (nm : Int) (Ab : Option Addr) (lb cb : Nat) (h : Two [(g, logO d l.sz l.last l.br), (k, logR m l.sz l.last l.br), (P, pairO d m (.pointer (some ⟨g, 0, none⟩)) (.pointer (some ⟨k, 0, none⟩)) nx)] B w d m S R) (hg : B ≤ g) (hk : B ≤ k) (hPB : B ≤ P) (hF : Fit S R φ n) (hL : LgOk l n) (hn : n + b.size + 40 ≤ 8388608) (hG : Gl (.pointer (some p)) w) (h1 : 1 < B) :
    Calls Tryz.prog 7 #[.pointer (some ⟨P, 0, none⟩), deedV 0 b q st f nm Ab lb cb] w fun e w' => e = .returned (.bool true) ∧ Done B P w w' d m (n + b.size + 30) := by
  unfold deedV
  have H := Aside0.mk h
  obtain ⟨Q, hQ⟩ : ∃ Q : Int, Q = if q = 0 then nx else q := ⟨_, rfl⟩
  obtain ⟨φ', hs, he⟩ := app_sim hF.sim l Q b
  have hS := appD_small hF.s l Q b
  have hR := appR_small hF.r l Q b
  have HOK := Aside0.mk (app_ok (S := S) hL Q b)
  have HP := Aside0.mk hPB
  have hb := h.at (List.mem_cons_of_mem _ (List.mem_cons_of_mem _ (List.mem_cons_self ..)))
  have hgb := h.at (List.mem_cons_self ..)
  have hkb := h.at (List.mem_cons_of_mem _ (List.mem_cons_self ..))
  have hPl := blk_lt hb
  have hgl := blk_lt hgb
  have hgk : Aside0 (g ≠ k ∧ g ≠ P ∧ k ≠ P) := ⟨cells_ne hgb hkb (by decide), cells_ne hgb hb (by decide), cells_ne hkb hb (by decide)⟩
  have HG := Aside0.mk hG
  have H1b := Aside0.mk h1
  have Hg := Aside0.mk hg
  have Hk := Aside0.mk hk
  have CD : Aside0 (∀ {X : List (Nat × Obj)} {w1 : World}, Two ((g, logO d l.sz l.last l.br) :: X) B w1 d m S R → (∀ x ∈ X, x.1 ≠ g) → Below B w w1 → Calls Tryz.prog 17 #[.pointer (some ⟨g, 0, none⟩), .agg #[.int .i64 Q, .string b]] w1 fun e w' => e = .returned (.int .i64 (appD S l Q b).2.2) ∧ Two ((g, logO d (appD S l Q b).2.1.sz (appD S l Q b).2.1.last (appD S l Q b).2.1.br) :: X) B w' d m (appD S l Q b).1 R ∧ Below B w1 w') := ⟨fun h2 hX hb => append_two l Q b h2 hX Hg.out hF hn hL (Gl.low HG.out hb H1b.out) H1b.out⟩
  have CR : Aside0 (∀ {X : List (Nat × Obj)} {w1 : World} {S0 : DS}, Two ((k, logR m l.sz l.last l.br) :: X) B w1 d m S0 R → (∀ x ∈ X, x.1 ≠ k) → Calls Tryz.prog 18 #[.pointer (some ⟨k, 0, none⟩), .agg #[.int .i64 Q, .string b]] w1 fun e w' => e = .returned (.int .i64 (appD S l Q b).2.2) ∧ Two ((k, logR m (appD S l Q b).2.1.sz (appD S l Q b).2.1.last (appD S l Q b).2.1.br) :: X) B w' d m S0 (appR R l Q b).1 ∧ Below B w1 w') := ⟨fun h2 hX => by have q := append_twoR l Q b h2 hX Hk.out hF hn hL; rw [← he] at q; exact q⟩
  obtain ⟨S1, l1, e1, hp⟩ : ∃ S1 l1 e1, appD S l Q b = (S1, l1, e1) := ⟨_, _, _, rfl⟩
  rw [hp] at CD CR hs hS HOK
  dsimp only at CD CR hs hS HOK
  have HFit : Aside0 (Fit S1 (appR R l Q b).1 φ' (n + b.size + 30)) := ⟨⟨hs, hS, hR, by omega⟩⟩
  clear h hF hs he hS hR hp hb hgb hkb hG h1 hg hk hL hn hPB
  go_enter Tryz.func7, Tryz.ntmps7
  go_wp2_with (first
    | ((with_reducible refine gate_dst (N := 3) rfl ?_); refine box_event ?hg (N := 3) ?hd (cs := #[.int .i64 0, .string b, .int .i64 q, .int .i64 st, .int .i64 f.f0, .int .i64 f.f1, .int .i64 f.f2, .int .i64 nm, .slice Ab lb cb]) (t := 45) ?hr ?_; (case hd => rfl); (case hg => rfl); (case hr => first | (go_simp; done) | (go_simp; rfl)); intro gb hgb w1 hbox hb; have hn0 := new_ne H.out; rw [← hgb] at hn0; have HN : Aside0 (gb ≠ g) := ⟨Ne.symm (hn0 _ (List.mem_cons_self ..))⟩; have HNk : Aside0 (gb ≠ k) := ⟨Ne.symm (hn0 _ (List.mem_cons_of_mem _ (List.mem_cons_self ..)))⟩; have HNP : Aside0 (gb ≠ P) := ⟨Ne.symm (hn0 _ (List.mem_cons_of_mem _ (List.mem_cons_of_mem _ (List.mem_cons_self ..))))⟩; clear hn0; have H1 := Aside0.mk (H.out.new hb (Nat.le_of_eq hgb.symm) hbox); have B1 := Aside0.mk (hb.mono H.out.size); have z0 := (blk_cell hbox 0).trans rfl; have z1 := (blk_cell hbox 1).trans rfl; have z2 := (blk_cell hbox 2).trans rfl; have hb1 := H1.out.at (List.mem_cons_of_mem _ (List.mem_cons_of_mem _ (List.mem_cons_of_mem _ (List.mem_cons_self ..)))); have y2 := blk_cell hb1 2; have y3 := blk_cell hb1 3; have y4 := blk_cell hb1 4; have hgb2 := blk_lt hbox; have hPl1 := blk_lt hb1; clear hb1; clear hbox hb hgb)
    | go_in)
  go_region
  have hbq := below_drew1 ((Below.refl w1.heap.size w1).alloc (Nat.le_refl _) (.cells #[.int .i64 nx, .string b] 61))
  have H2 := Aside0.mk (H1.out.new hbq (Nat.le_refl _) (heap_alloc_new w1 (.cells #[.int .i64 nx, .string b] 61)))
  have B2 := Aside0.mk (B1.out.trans (hbq.mono H1.out.size))
  have hrg := new_ne H1.out
  have HR : Aside0 (w1.heap.size ≠ g) := ⟨Ne.symm (hrg _ (List.mem_cons_of_mem _ (List.mem_cons_self ..)))⟩
  have HRk : Aside0 (w1.heap.size ≠ k) := ⟨Ne.symm (hrg _ (List.mem_cons_of_mem _ (List.mem_cons_of_mem _ (List.mem_cons_self ..))))⟩
  have HRP : Aside0 (w1.heap.size ≠ P) := ⟨Ne.symm (hrg _ (List.mem_cons_of_mem _ (List.mem_cons_of_mem _ (List.mem_cons_of_mem _ (List.mem_cons_self ..)))))⟩
  have HH1 : Aside0 (∀ x ∈ [(gb, _), (g, _), (k, _), (P, _)], x.1 ≠ w1.heap.size) := ⟨hrg⟩
  have HB1 := Aside0.mk H1.out.size
  clear hbq y2 y3 y4 z0 z1 z2 hrg H1
  generalize (w1.alloc (.cells #[.int .i64 nx, .string b] 61)).drew = w2 at H2 B2 ⊢
  generalize w1.heap.size = rb at *
  have hbg := H2.out.at (List.mem_cons_of_mem _ (List.mem_cons_self ..))
  have z0 := (blk_cell hbg 0).trans rfl
  have z2 := (blk_cell hbg 2).trans rfl
  have hbr := H2.out.at (List.mem_cons_self ..)
  have r0 := blk_cell hbr 0
  have f0 := blk_frozen hbr 0
  have hbrl := blk_lt hbr
  clear hbg hbr
  by_cases hq : q = 0
  · have hqz : (q != 0) = false := by simp [hq]
    rw [if_pos hq] at hQ
    subst hQ
    clear hq
    go_wp2
    have L5 := Aside0.mk (mv5 H2.out)
    have B5 := B2
    clear z0 z2 r0 f0 hbrl
    have L5d := Aside0.mk (And.intro L5.out.drew (below_drew1 B5.out))
    have hbp := L5.out.at (List.mem_cons_of_mem _ (List.mem_cons_of_mem _ (List.mem_cons_self ..)))
    have y2 := blk_cell hbp 2
    have y3 := blk_cell hbp 3
    have hbr := L5.out.at (List.mem_cons_of_mem _ (List.mem_cons_of_mem _ (List.mem_cons_of_mem _ (List.mem_cons_of_mem _ (List.mem_cons_self ..)))))
    have r0 := blk_cell hbr 0
    have r1 := blk_cell hbr 1
    clear hbp hbr
    go_region_held3 (fun w' => w'.cell? ⟨P, 2, none⟩ = some (.pointer (some ⟨g, 0, none⟩)) ∧ w'.cell? ⟨P, 3, none⟩ = some (.pointer (some ⟨k, 0, none⟩)) ∧ w'.cell? ⟨rb, 0, none⟩ = some (.int .i64 Q) ∧ w'.cell? ⟨rb, 1, none⟩ = some (.string b)) (go_keep) (first
      | (go_at_call 17; (with_reducible refine (CD.out L5d.out.1 (ne4 hgk.out.1 hgk.out.2.1 HN.out HR.out) L5d.out.2).mono ?_); rintro e w6 ⟨rfl, hT, hB⟩; have L6 := Aside0.mk hT; have B6 := Aside0.mk (L5d.out.2.trans hB); have hbp := hT.at (List.mem_cons_of_mem _ (List.mem_cons_of_mem _ (List.mem_cons_self ..))); have u2 := blk_cell hbp 2; have u3 := blk_cell hbp 3; have hbr := hT.at (List.mem_cons_of_mem _ (List.mem_cons_of_mem _ (List.mem_cons_of_mem _ (List.mem_cons_of_mem _ (List.mem_cons_self ..))))); have v0 := blk_cell hbr 0; have v1 := blk_cell hbr 1; clear hT hB hbp hbr)
      | (go_at_call 18; (with_reducible refine (CR.out (L6.out.less flip5) (ne4 hgk.out.1.symm hgk.out.2.2 HNk.out HRk.out)).mono ?_); rintro e w7 ⟨rfl, hT, hB⟩; have L7 := Aside0.mk hT; have B7 := Aside0.mk (B6.out.trans hB); have hbp := hT.at (List.mem_cons_of_mem _ (List.mem_cons_of_mem _ (List.mem_cons_self ..))); have t2 := blk_cell hbp 2; have t3 := blk_cell hbp 3; have t4 := blk_cell hbp 4; have t5 := blk_frozen hbp 4; have hPl7 := blk_lt hbp; have hbx := hT.at (List.mem_cons_of_mem _ (List.mem_cons_of_mem _ (List.mem_cons_of_mem _ (List.mem_cons_self ..)))); have z0 := (blk_cell hbx 0).trans rfl; have hbr := hT.at (List.mem_cons_of_mem _ (List.mem_cons_of_mem _ (List.mem_cons_of_mem _ (List.mem_cons_of_mem _ (List.mem_cons_self ..))))); have x0 := blk_cell hbr 0; have x1 := blk_cell hbr 1; clear hT hB hbp hbx hbr))
    all_goals
      by_cases he1 : e1 = 0
      · have hez : (e1 == 0) = true := by simp [he1]
        clear he1
        go_wp2
        go_ret
        exact ⟨rfl, ⟨S1, (appR R l Q b).1, φ', some l1, ⟨g, k, _, (two_put (L7.out.less flip5b) 4 _ rfl (neP hgk.out HNP.out HRP.out)).less flip5c, Hg.out, Hk.out⟩, HFit.out, fun l2 hl => by cases hl; exact HOK.out⟩, B7.out.setCell HP.out _⟩
      · have hez : (e1 == 0) = false := by simpa using he1
        clear he1
        go_wp2
        go_ret
        exact ⟨rfl, ⟨S1, (appR R l Q b).1, φ', some l1, ⟨g, k, _, L7.out.less flip3b, Hg.out, Hk.out⟩, HFit.out, fun l2 hl => by cases hl; exact HOK.out⟩, B7.out⟩
  · have hqz : (q != 0) = true := by simpa using hq
    rw [if_neg hq] at hQ
    subst hQ
    clear hq
    go_wp2
    have L5 := Aside0.mk (mv5 (two_put H2.out 0 (.int .i64 Q) (cs' := #[.int .i64 Q, .string b]) rfl HH1.out))
    have B5 := Aside0.mk (B2.out.setCell HB1.out (p := ⟨rb, 0, none⟩) (.int .i64 Q))
    clear z0 z2 r0 f0 hbrl
    generalize w2.setCell ⟨rb, 0, none⟩ (.int .i64 Q) = w2 at L5 B5 ⊢
    have L5d := Aside0.mk (And.intro L5.out.drew (below_drew1 B5.out))
    have hbp := L5.out.at (List.mem_cons_of_mem _ (List.mem_cons_of_mem _ (List.mem_cons_self ..)))
    have y2 := blk_cell hbp 2
    have y3 := blk_cell hbp 3
    have hbr := L5.out.at (List.mem_cons_of_mem _ (List.mem_cons_of_mem _ (List.mem_cons_of_mem _ (List.mem_cons_of_mem _ (List.mem_cons_self ..)))))
    have r0 := blk_cell hbr 0
    have r1 := blk_cell hbr 1
    clear hbp hbr
    go_region_held3 (fun w' => w'.cell? ⟨P, 2, none⟩ = some (.pointer (some ⟨g, 0, none⟩)) ∧ w'.cell? ⟨P, 3, none⟩ = some (.pointer (some ⟨k, 0, none⟩)) ∧ w'.cell? ⟨rb, 0, none⟩ = some (.int .i64 Q) ∧ w'.cell? ⟨rb, 1, none⟩ = some (.string b)) (go_keep) (first
      | (go_at_call 17; (with_reducible refine (CD.out L5d.out.1 (ne4 hgk.out.1 hgk.out.2.1 HN.out HR.out) L5d.out.2).mono ?_); rintro e w6 ⟨rfl, hT, hB⟩; have L6 := Aside0.mk hT; have B6 := Aside0.mk (L5d.out.2.trans hB); have hbp := hT.at (List.mem_cons_of_mem _ (List.mem_cons_of_mem _ (List.mem_cons_self ..))); have u2 := blk_cell hbp 2; have u3 := blk_cell hbp 3; have hbr := hT.at (List.mem_cons_of_mem _ (List.mem_cons_of_mem _ (List.mem_cons_of_mem _ (List.mem_cons_of_mem _ (List.mem_cons_self ..))))); have v0 := blk_cell hbr 0; have v1 := blk_cell hbr 1; clear hT hB hbp hbr)
      | (go_at_call 18; (with_reducible refine (CR.out (L6.out.less flip5) (ne4 hgk.out.1.symm hgk.out.2.2 HNk.out HRk.out)).mono ?_); rintro e w7 ⟨rfl, hT, hB⟩; have L7 := Aside0.mk hT; have B7 := Aside0.mk (B6.out.trans hB); have hbp := hT.at (List.mem_cons_of_mem _ (List.mem_cons_of_mem _ (List.mem_cons_self ..))); have t2 := blk_cell hbp 2; have t3 := blk_cell hbp 3; have t4 := blk_cell hbp 4; have t5 := blk_frozen hbp 4; have hPl7 := blk_lt hbp; have hbx := hT.at (List.mem_cons_of_mem _ (List.mem_cons_of_mem _ (List.mem_cons_of_mem _ (List.mem_cons_self ..)))); have z0 := (blk_cell hbx 0).trans rfl; have hbr := hT.at (List.mem_cons_of_mem _ (List.mem_cons_of_mem _ (List.mem_cons_of_mem _ (List.mem_cons_of_mem _ (List.mem_cons_self ..))))); have x0 := blk_cell hbr 0; have x1 := blk_cell hbr 1; clear hT hB hbp hbx hbr))
    all_goals
      by_cases he1 : e1 = 0
      · have hez : (e1 == 0) = true := by simp [he1]
        clear he1
        go_wp2
        go_ret
        exact ⟨rfl, ⟨S1, (appR R l Q b).1, φ', some l1, ⟨g, k, _, (two_put (L7.out.less flip5b) 4 _ rfl (neP hgk.out HNP.out HRP.out)).less flip5c, Hg.out, Hk.out⟩, HFit.out, fun l2 hl => by cases hl; exact HOK.out⟩, B7.out.setCell HP.out _⟩
      · have hez : (e1 == 0) = false := by simpa using he1
        clear he1
        go_wp2
        go_ret
        exact ⟨rfl, ⟨S1, (appR R l Q b).1, φ', some l1, ⟨g, k, _, L7.out.less flip3b, Hg.out, Hk.out⟩, HFit.out, fun l2 hl => by cases hl; exact HOK.out⟩, B7.out⟩
end
end Go.Proofs.YtomhgoahhlnjpaaGreatDoor.Pl

/- Deeds with both logs, walked: Plan. -/
namespace Go.Proofs.YtomhgoahhlnjpaaGreatDoor.Pl
open Go.RowKit Go.Maps Go.Sort Go.Proofs.YtomhgoahhlnjpaaGreatDoorW.PrintWords Go.Proofs.YtomhgoahhlnjpaaGreatDoor.PRef Go.Proofs.YtomhgoahhlnjpaaGreatDoor.Dk Go.Proofs.YtomhgoahhlnjpaaGreatDoor.Rf Go.Proofs.YtomhgoahhlnjpaaGreatDoor.WalN Go.Proofs.YtomhgoahhlnjpaaGreatDoor.PWal Go.Proofs.YtomhgoahhlnjpaaGreatDoor.WalB

section
variable {X : List (Nat × Obj)} {B P : Nat} {w : World} {d m : Nat} {S : DS} {R : RS} {φ : List Nat} {n : Nat} {p : Addr}
/-- a row of one fault -/
theorem one40 {w : World} {g base : Nat} {x : S40} (h : w.heap[g]? = some (.cells #[.int .i64 x.f0, .int .i64 x.f1, .int .i64 x.f2] 40 (0, 0))) (hb : base ≤ g) : Kd.R k40 40 w base (fun k => k = g) (.slice (some ⟨g, 0, none⟩) 1 1) [x] := by
  refine ⟨fun k hk => ?_, [.int .i64 x.f0, .int .i64 x.f1, .int .i64 x.f2], ⟨rfl, .inr ⟨g, 1, _, rfl, hb, h, Nat.le_refl _, by rw [maxLen_eq]; omega, rfl, rfl⟩⟩, rfl, fun j q hj => ?_⟩
  · simpa [Value.ownBlock] using hk.symm
  · match j, hj with
    | 0, hj =>
      obtain rfl : x = q := by simpa using hj
      exact k40_mkM w base _ x
    | j + 1, hj => simp at hj
theorem far_set {w : World} {g k i j : Nat} {u : Value} {x : Option Value} (h : g ≠ k) (hc : w.cell? ⟨g, i, none⟩ = x) : (w.setCell ⟨k, j, none⟩ u).drew.cell? ⟨g, i, none⟩ = x :=
  (World.cell?_of_block (w := w) (w' := (w.setCell ⟨k, j, none⟩ u).drew) (a := ⟨g, i, none⟩) (heap_set_ne h u)).trans hc
theorem al_set {w : World} {O : Obj} {a : Addr} {v : Value} (hc : w.cell? a = some v) : (w.alloc O).cell? a = some v :=
  (((Below.refl w.heap.size w).alloc (Nat.le_refl _) O).cell (p := a) (World.block_lt_of_cell? w a hc)).trans hc
theorem al_setd {w : World} {O : Obj} {a : Addr} {v : Value} (hc : w.cell? a = some v) : (w.alloc O).drew.cell? a = some v := al_set hc
theorem swap2 {a b : Nat × Obj} : ∀ x ∈ b :: a :: X, x ∈ a :: b :: X := fun x hx => by
  simp only [List.mem_cons] at hx ⊢
  rcases hx with rfl | rfl | hx
  · exact .inr (.inl rfl)
  · exact .inl rfl
  · exact .inr (.inr hx)
theorem alloc_sz (w : World) (O : Obj) : (w.alloc O).heap.size = w.heap.size + 1 := Array.size_push ..
theorem mem_two {x a b : Nat × Obj} (h : x ∈ X) : x ∈ a :: b :: X := List.mem_cons_of_mem _ (List.mem_cons_of_mem _ h)
set_option maxRecDepth 100000 in
set_option maxHeartbeats 8000000 in
theorem do_plan {lv mv : Value} {nx : Int} (h : Two X B w d m S R) (hX : (P, pairO d m lv mv nx) ∈ X) (hF : Fit S R φ n) (hn : n + 1 ≤ 8388608) (b : ByteArray) (q st : Int) (f : S40) (nm : Int) (Ab : Option Addr) (lb cb : Nat) :
    Calls Tryz.prog 7 #[.pointer (some ⟨P, 0, none⟩), deedV 2 b q st f nm Ab lb cb] w fun e w' => e = .returned (.bool true) ∧ (∃ S' R', Two X B w' d m S' R' ∧ Fit S' R' φ (n + 1)) ∧ Below B w w' := by
  unfold deedV
  have H := Aside0.mk h
  have HX := Aside0.mk hX
  have hs0 := hF.steps0
  have hs1 := hF.steps1
  have HF := Aside0.mk hF
  have Hn := Aside0.mk hn
  have CS : Aside0 (∀ {X : List (Nat × Obj)} {w1 : World}, Two X B w1 d m S R → Calls Tryz.prog 21 #[.pointer (some ⟨d, 0, none⟩)] w1 fun e w' => e = .returned (.int .i64 S.steps) ∧ w' = w1) := ⟨fun h1 => steps_two h1⟩
  obtain ⟨sn, hsn⟩ : ∃ sn, sn = S.steps := ⟨_, rfl⟩
  rw [← hsn] at hs0 hs1 CS
  have hb := h.at hX
  have hPl := blk_lt hb
  clear h hX hF hn hsn hb
  go_enter Tryz.func7, Tryz.ntmps7
  go_wp2_with (first
    | ((with_reducible refine gate_dst (N := 3) rfl ?_); refine box_event ?hg (N := 3) ?hd (cs := #[.int .i64 2, .string b, .int .i64 q, .int .i64 st, .int .i64 f.f0, .int .i64 f.f1, .int .i64 f.f2, .int .i64 nm, .slice Ab lb cb]) (t := 45) ?hr ?_; (case hd => rfl); (case hg => rfl); (case hr => first | (go_simp; done) | (go_simp; rfl)); intro gb hgb w1 hbox hb; have H1 := Aside0.mk (H.out.new hb (Nat.le_of_eq hgb.symm) hbox); have B1 := Aside0.mk (hb.mono H.out.size); have z0 := (blk_cell hbox 0).trans rfl; have z3 := (blk_cell hbox 3).trans rfl; have z4 := (blk_cell hbox 4).trans rfl; have z5 := (blk_cell hbox 5).trans rfl; have z6 := (blk_cell hbox 6).trans rfl; have hb1 := H1.out.at (List.mem_cons_of_mem _ HX.out); have y0 := blk_cell hb1 0; have y1 := blk_cell hb1 1; have hgb2 := blk_lt hbox; have hPl1 := blk_lt hb1; clear hb1; clear hbox hb hgb)
    | go_in)
  have hbq := (Below.refl w1.heap.size w1).alloc (Nat.le_refl _) (.cells #[.int .i64 f.f0, .int .i64 f.f1, .int .i64 f.f2] 40)
  have H2 := Aside0.mk (H1.out.new hbq (Nat.le_refl _) (heap_alloc_new w1 (.cells #[.int .i64 f.f0, .int .i64 f.f1, .int .i64 f.f2] 40)))
  have B2 := Aside0.mk (B1.out.trans (hbq.mono H1.out.size))
  have HR : Aside0 (∀ x ∈ _ :: X, x.1 ≠ w1.heap.size) := ⟨new_ne H1.out⟩
  have HB1 := Aside0.mk H1.out.size
  clear hbq z0 z3 z4 z5 z6 y0 y1 H1 hPl1 hgb2
  generalize (w1.alloc (.cells #[.int .i64 f.f0, .int .i64 f.f1, .int .i64 f.f2] 40)) = w2 at H2 B2 ⊢
  generalize w1.heap.size = gx at *
  have H2d := Aside0.mk H2.out.drew
  have hbp := H2.out.at (mem_two HX.out)
  have y0 := blk_cell hbp 0
  have hbx := H2.out.at (List.mem_cons_self ..)
  have f0 := blk_frozen hbx 0
  have hxl := blk_lt hbx
  have x0 := blk_cell hbx 0
  have hbb := H2.out.at (List.mem_cons_of_mem _ (List.mem_cons_self ..))
  have z3 := (blk_cell hbb 3).trans rfl
  clear hbp hbx hbb
  have HXX := HX
  have hPx : P ≠ gx := HR.out (P, _) (List.mem_cons_of_mem _ HX.out)
  have hgbx : gb ≠ gx := HR.out (gb, _) (List.mem_cons_self ..)
  go_region_held3 (fun w' => w'.cell? ⟨P, 0, none⟩ = some (.pointer (some ⟨d, 0, none⟩)) ∧ w'.cell? ⟨gb, 3, none⟩ = some (.int .i64 st)) (first | exact ⟨y0, z3⟩ | exact ⟨far_set hPx y0, far_set hgbx z3⟩ | go_keep) (first
    | (go_at_call 21; (with_reducible refine (CS.out H2d.out).mono ?_); rintro e w3 ⟨rfl, rfl⟩))
  all_goals
    have H3 := Aside0.mk (two_put H2.out 0 (.int .i64 (IntKind.i64.wrap (IntKind.i64.wrap (sn + 1) + max 0 (min st 9)))) rfl HR.out).drew
    have B3 := Aside0.mk (below_drew1 (B2.out.setCell HB1.out (p := ⟨gx, 0, none⟩) (.int .i64 (IntKind.i64.wrap (IntKind.i64.wrap (sn + 1) + max 0 (min st 9))))))
    clear f0 x0 z3 y0 H2d hxl
    generalize (w2.setCell ⟨gx, 0, none⟩ (.int .i64 (IntKind.i64.wrap (IntKind.i64.wrap (sn + 1) + max 0 (min st 9))))).drew = w3 at H3 B3 ⊢
    generalize (IntKind.i64.wrap (IntKind.i64.wrap (sn + 1) + max 0 (min st 9))) = z at H3
    clear hPx hgbx
    have hbp := H3.out.at (mem_two HX.out)
    have y0 := blk_cell hbp 0
    have y1 := blk_cell hbp 1
    have hbx := H3.out.at (List.mem_cons_self ..)
    have x0 := (blk_cell hbx 0).trans rfl
    have x1 := (blk_cell hbx 1).trans rfl
    have x2 := (blk_cell hbx 2).trans rfl
    clear hbp hbx
    go_wp2
    have hbq := below_drew1 ((Below.refl w3.heap.size w3).alloc (Nat.le_refl _) (.cells #[.int .i64 z, .int .i64 f.f1, .int .i64 f.f2] 40))
    have H4 := Aside0.mk (H3.out.new hbq (Nat.le_refl _) (heap_alloc_new w3 (.cells #[.int .i64 z, .int .i64 f.f1, .int .i64 f.f2] 40)))
    have B4 := Aside0.mk (B3.out.trans (hbq.mono H3.out.size))
    have hbr := (Below.refl w3.heap.size w3).alloc (Nat.le_refl _) (.cells #[.int .i64 z, .int .i64 f.f1, .int .i64 f.f2] 40)
    have H4a := Aside0.mk (H3.out.new hbr (Nat.le_refl _) (heap_alloc_new w3 (.cells #[.int .i64 z, .int .i64 f.f1, .int .i64 f.f2] 40)))
    have hbs := below_drew1 ((Below.refl (w3.alloc (.cells #[.int .i64 z, .int .i64 f.f1, .int .i64 f.f2] 40)).heap.size (w3.alloc (.cells #[.int .i64 z, .int .i64 f.f1, .int .i64 f.f2] 40))).alloc (Nat.le_refl _) (.cells #[.int .i64 z, .int .i64 f.f1, .int .i64 f.f2] 40))
    have H4b := Aside0.mk (H4a.out.new hbs (Nat.le_refl _) (heap_alloc_new (w3.alloc (.cells #[.int .i64 z, .int .i64 f.f1, .int .i64 f.f2] 40)) (.cells #[.int .i64 z, .int .i64 f.f1, .int .i64 f.f2] 40)))
    have B4b := Aside0.mk ((B3.out.trans (hbr.mono H3.out.size)).trans (hbs.mono H4a.out.size))
    rw [show (w3.alloc (.cells #[.int .i64 z, .int .i64 f.f1, .int .i64 f.f2] 40)).heap.size = w3.heap.size + 1 from alloc_sz w3 _] at H4b
    clear hbq hbr hbs H4a
    obtain ⟨hs, he⟩ := plan_sim HF.out.sim [⟨z, f.f1, f.f2⟩]
    have hS : SmallS (S.planned ([(⟨z, f.f1, f.f2⟩ : S40)].map toF)).1 (n + 1) := (HF.out.s.plan _).mono (by simp)
    have hR : SmallR (R.planR [⟨z, f.f1, f.f2⟩]).1 (n + 1) := (HF.out.r.plan _).mono (by simp)
    obtain ⟨S', r1, hp⟩ : ∃ S' r1, S.planned ([(⟨z, f.f1, f.f2⟩ : S40)].map toF) = (S', r1) := ⟨_, _, rfl⟩
    obtain ⟨R', r2, hr⟩ : ∃ R' r2, R.planR [⟨z, f.f1, f.f2⟩] = (R', r2) := ⟨_, _, rfl⟩
    have CD : Aside0 (∀ {X : List (Nat × Obj)} {w1 : World} {g : Nat}, Two ((g, .cells #[.int .i64 z, .int .i64 f.f1, .int .i64 f.f2] 40) :: X) B w1 d m S R → Calls Tryz.prog 22 #[.pointer (some ⟨d, 0, none⟩), .slice (some ⟨g, 0, none⟩) 1 1] w1 fun e w' => e = .returned (.int .i64 r1) ∧ Two ((g, .cells #[.int .i64 z, .int .i64 f.f1, .int .i64 f.f2] 40) :: X) B w' d m S' R ∧ Below B w1 w') := ⟨fun h1 => by have q := plan_two h1 (one40 (x := ⟨z, f.f1, f.f2⟩) (h1.at (List.mem_cons_self ..)) (Nat.zero_le _)); rw [hp] at q; exact q⟩
    have CR : Aside0 (∀ {X : List (Nat × Obj)} {w1 : World} {g : Nat}, Two ((g, .cells #[.int .i64 z, .int .i64 f.f1, .int .i64 f.f2] 40) :: X) B w1 d m S' R → Calls Tryz.prog 23 #[.pointer (some ⟨m, 0, none⟩), .slice (some ⟨g, 0, none⟩) 1 1] w1 fun e w' => e = .returned (.int .i64 r1) ∧ Two ((g, .cells #[.int .i64 z, .int .i64 f.f1, .int .i64 f.f2] 40) :: X) B w' d m S' R' ∧ Below B w1 w') := ⟨fun h1 => by have q := plan_twoR h1 (one40 (x := ⟨z, f.f1, f.f2⟩) (h1.at (List.mem_cons_self ..)) (Nat.zero_le _)); rw [← he, hp, hr] at q; exact q⟩
    rw [hp, hr] at hs
    rw [hp] at hS
    rw [hr] at hR
    have HFit : Aside0 (Fit S' R' φ (n + 1)) := ⟨⟨hs, hS, hR, Hn.out⟩⟩
    clear hs he hS hR hp hr
    go_region_held3 (fun w' => w'.cell? ⟨P, 0, none⟩ = some (.pointer (some ⟨d, 0, none⟩)) ∧ w'.cell? ⟨P, 1, none⟩ = some (.pointer (some ⟨m, 0, none⟩)) ∧ w'.cell? ⟨gx, 0, none⟩ = some (.int .i64 z) ∧ w'.cell? ⟨gx, 1, none⟩ = some (.int .i64 f.f1) ∧ w'.cell? ⟨gx, 2, none⟩ = some (.int .i64 f.f2)) (first | exact ⟨y0, y1, x0, x1, x2⟩ | exact ⟨al_setd y0, al_setd y1, al_setd x0, al_setd x1, al_setd x2⟩ | exact ⟨u0, u1, v0, v1, v2⟩ | exact ⟨al_set u0, al_set u1, al_set v0, al_set v1, al_set v2⟩ | exact ⟨s0, s1, t0, t1, t2⟩ | exact ⟨al_set y0, al_set y1, al_set x0, al_set x1, al_set x2⟩ | exact ⟨al_setd (al_set y0), al_setd (al_set y1), al_setd (al_set x0), al_setd (al_set x1), al_setd (al_set x2)⟩ | go_keep) (first
      | (go_at_call 22; (with_reducible refine (CD.out H4.out).mono ?_); rintro e w5 ⟨rfl, hT, hB⟩; have H5 := Aside0.mk hT; have B5 := Aside0.mk (B4.out.trans hB); have hbp := hT.at (List.mem_cons_of_mem _ (mem_two HX.out)); have u0 := blk_cell hbp 0; have u1 := blk_cell hbp 1; have hbx := hT.at (List.mem_cons_of_mem _ (List.mem_cons_self ..)); have v0 := (blk_cell hbx 0).trans rfl; have v1 := (blk_cell hbx 1).trans rfl; have v2 := (blk_cell hbx 2).trans rfl; have hbq5 := (Below.refl w5.heap.size w5).alloc (Nat.le_refl _) (.cells #[.int .i64 z, .int .i64 f.f1, .int .i64 f.f2] 40); have H6 := Aside0.mk (H5.out.new hbq5 (Nat.le_refl _) (heap_alloc_new w5 (.cells #[.int .i64 z, .int .i64 f.f1, .int .i64 f.f2] 40))); have B6 := Aside0.mk (B5.out.trans (hbq5.mono H5.out.size)); clear hT hB hbp hbx hbq5)
      | (go_at_call 22; (with_reducible refine (CD.out (H4b.out.less swap2)).mono ?_); rintro e w5 ⟨rfl, hT, hB⟩; have H6 := Aside0.mk (hT.less swap2); have B6 := Aside0.mk (B4b.out.trans hB); have hbp := hT.at (List.mem_cons_of_mem _ (List.mem_cons_of_mem _ (mem_two HX.out))); have u0 := blk_cell hbp 0; have u1 := blk_cell hbp 1; have hbx := hT.at (List.mem_cons_of_mem _ (List.mem_cons_of_mem _ (List.mem_cons_self ..))); have v0 := (blk_cell hbx 0).trans rfl; have v1 := (blk_cell hbx 1).trans rfl; have v2 := (blk_cell hbx 2).trans rfl; clear hT hB hbp hbx)
      | (go_at_call 22; (with_reducible refine (CD.out H4b.out).mono ?_); rintro e w5 ⟨rfl, hT, hB⟩; have H6 := Aside0.mk (hT.less swap2); have B6 := Aside0.mk (B4b.out.trans hB); have hbp := hT.at (List.mem_cons_of_mem _ (List.mem_cons_of_mem _ (mem_two HX.out))); have u0 := blk_cell hbp 0; have u1 := blk_cell hbp 1; have hbx := hT.at (List.mem_cons_of_mem _ (List.mem_cons_of_mem _ (List.mem_cons_self ..))); have v0 := (blk_cell hbx 0).trans rfl; have v1 := (blk_cell hbx 1).trans rfl; have v2 := (blk_cell hbx 2).trans rfl; clear hT hB hbp hbx)
      | (go_at_call 23; (with_reducible refine (CR.out H6.out).mono ?_); rintro e w7 ⟨rfl, hT, hB⟩; have H7 := Aside0.mk hT; have B7 := Aside0.mk (B6.out.trans hB); have hbp := hT.at (List.mem_cons_of_mem _ (List.mem_cons_of_mem _ (mem_two HX.out))); have s0 := blk_cell hbp 0; have s1 := blk_cell hbp 1; have hbx := hT.at (List.mem_cons_of_mem _ (List.mem_cons_of_mem _ (List.mem_cons_self ..))); have t0 := (blk_cell hbx 0).trans rfl; have t1 := (blk_cell hbx 1).trans rfl; have t2 := (blk_cell hbx 2).trans rfl; clear hT hB hbp hbx))
    all_goals
      go_wp2
      go_ret
      exact ⟨rfl, ⟨S', R', H7.out.less (fun x hx => List.mem_cons_of_mem _ (List.mem_cons_of_mem _ (mem_two hx))), HFit.out⟩, B7.out⟩
end
end Go.Proofs.YtomhgoahhlnjpaaGreatDoor.Pl

/- Deeds with both logs, walked: Crash, Open. -/
namespace Go.Proofs.YtomhgoahhlnjpaaGreatDoor.Pl
open Go.RowKit Go.Maps Go.Sort Go.Proofs.YtomhgoahhlnjpaaGreatDoorW.PrintWords Go.Proofs.YtomhgoahhlnjpaaGreatDoor.PRef Go.Proofs.YtomhgoahhlnjpaaGreatDoor.Dk Go.Proofs.YtomhgoahhlnjpaaGreatDoor.Rf Go.Proofs.YtomhgoahhlnjpaaGreatDoor.WalN Go.Proofs.YtomhgoahhlnjpaaGreatDoor.PWal Go.Proofs.YtomhgoahhlnjpaaGreatDoor.WalB

section
variable {X : List (Nat × Obj)} {P : Nat} {W0 w : World} {d m : Nat} {S : DS} {R : RS} {φ : List Nat} {n : Nat} {p : Addr}
theorem ints_below {w0 w1 : World} {v : Value} {l : List Int} (h : IntsAt w0 v l) (hb : Below w0.heap.size w0 w1) : IntsAt w1 v l := by
  obtain ⟨A, c, rfl, hc⟩ := h
  refine ⟨A, c, rfl, fun i x hx => ?_⟩
  obtain ⟨b, o, hA, hcell⟩ := hc i x hx
  exact ⟨b, o, hA, (hb.cell (p := ⟨b, o + i, none⟩) (World.block_lt_of_cell? w0 _ hcell)).trans hcell⟩
theorem ints_lt {w0 : World} {v : Value} {l : List Int} (h : IntsAt w0 v l) : l ≠ [] → ∀ k, v.ownBlock = some k → k < w0.heap.size := by
  intro hl k hk
  obtain ⟨A, c, rfl, hc⟩ := h
  obtain ⟨x, hx, _⟩ := go_get l 0 hl
  obtain ⟨b, o, hA, hcell⟩ := hc _ x hx
  subst hA
  obtain rfl : b = k := by simpa [Value.ownBlock] using hk
  exact World.block_lt_of_cell? w0 _ hcell
set_option maxRecDepth 100000 in
set_option maxHeartbeats 8000000 in
theorem do_crash {lv mv : Value} {nx : Int} (hW : Below W0.heap.size W0 w) (h : Two X W0.heap.size w d m S R) (hX : (P, pairO d m lv mv nx) ∈ X) (hP : W0.heap.size ≤ P) (hF : Fit S R φ n) (hn : n + 20 ≤ 8388608) (hG : Gl (.pointer (some p)) w) (h1 : 1 < W0.heap.size) (b : ByteArray) (q st : Int) (f : S40) (nm : Int) (Ab : Option Addr) (cb : Nat) (by_ : List Int) (hI : IntsAt W0 (.slice Ab by_.length cb) by_) :
    Calls Tryz.prog 7 #[.pointer (some ⟨P, 0, none⟩), deedV 3 b q st f nm Ab by_.length cb] w fun e w' => e = .returned (.bool true) ∧ Done W0.heap.size P w w' d m (n + 8) := by
  unfold deedV
  have H := Aside0.mk h
  have HX := Aside0.mk hX
  have HG := Aside0.mk hG
  have H1b := Aside0.mk h1
  have HP := Aside0.mk hP
  have Hn := Aside0.mk hn
  obtain ⟨S', φ', hc, hs⟩ := crash_sim hF.sim nm by_
  have hS : SmallS S' n := hF.s.crash hc (by rw [hs.made]; show R.made ≤ _; rw [← hF.sim.made]; exact hF.s.steps)
  have hR : SmallR (R.crashR nm by_) n := hF.r.crash hF.sim.nok nm by_
  have HFit : Aside0 (Fit S' (R.crashR nm by_) φ' n) := ⟨⟨hs, hS, hR, hF.le⟩⟩
  have HW := Aside0.mk hW
  obtain ⟨lb, hlb⟩ : ∃ lb, lb = by_.length := ⟨_, rfl⟩
  have CD : Aside0 (∀ {X : List (Nat × Obj)} {w1 : World}, Below W0.heap.size W0 w1 → Two X W0.heap.size w1 d m S R → Calls Tryz.prog 24 #[.pointer (some ⟨d, 0, none⟩), .agg #[.int .i64 nm, .slice Ab lb cb]] w1 fun e w' => e = .returned (.tuple #[]) ∧ Two X W0.heap.size w' d m S' R ∧ Below W0.heap.size w1 w') := ⟨fun hb h1 => by rw [hlb]; exact crash_two h1 hF nm by_ (ints_below hI hb) (ints_lt hI) hc⟩
  have CR : Aside0 (∀ {X : List (Nat × Obj)} {w1 : World}, Below W0.heap.size W0 w1 → Two X W0.heap.size w1 d m S' R → Calls Tryz.prog 25 #[.pointer (some ⟨m, 0, none⟩), .agg #[.int .i64 nm, .slice Ab lb cb]] w1 fun e w' => e = .returned (.tuple #[]) ∧ Two X W0.heap.size w' d m S' (R.crashR nm by_) ∧ Below W0.heap.size w1 w') := ⟨fun hb h1 => by rw [hlb]; exact crash_twoR hF h1 nm by_ (ints_below hI hb)⟩
  rw [← hlb]
  have hb := h.at hX
  have hPl := blk_lt hb
  clear h hF hs hS hR hc hI hlb hW hX hG h1 hP hn hb
  go_enter Tryz.func7, Tryz.ntmps7
  go_wp2_with (first
    | ((with_reducible refine gate_dst (N := 3) rfl ?_); refine box_event ?hg (N := 3) ?hd (cs := #[.int .i64 3, .string b, .int .i64 q, .int .i64 st, .int .i64 f.f0, .int .i64 f.f1, .int .i64 f.f2, .int .i64 nm, .slice Ab lb cb]) (t := 45) ?hr ?_; (case hd => rfl); (case hg => rfl); (case hr => first | (go_simp; done) | (go_simp; rfl)); intro gb hgb w1 hbox hb; have H1 := Aside0.mk (H.out.new hb (Nat.le_of_eq hgb.symm) hbox); have B1 := Aside0.mk (hb.mono H.out.size); have z0 := (blk_cell hbox 0).trans rfl; have z7 := (blk_cell hbox 7).trans rfl; have z8 := (blk_cell hbox 8).trans rfl; have hb1 := H1.out.at (List.mem_cons_of_mem _ HX.out); have y0 := blk_cell hb1 0; have y1 := blk_cell hb1 1; clear hb1; clear hbox hb hgb)
    | go_in)
  have H1d := Aside0.mk H1.out.drew
  have B1d := Aside0.mk (HW.out.trans (below_drew1 B1.out))
  clear z0 y1
  go_region_held3 (fun w' => w'.cell? ⟨P, 0, none⟩ = some (.pointer (some ⟨d, 0, none⟩)) ∧ w'.cell? ⟨gb, 7, none⟩ = some (.int .i64 nm) ∧ w'.cell? ⟨gb, 8, none⟩ = some (.slice Ab lb cb)) (first | exact ⟨y0, z7, z8⟩ | exact ⟨u0, u7, u8⟩ | go_keep) (first
    | (go_at_call 24; (with_reducible refine (CD.out B1d.out H1d.out).mono ?_); rintro e w2 ⟨rfl, hT, hB⟩; have H2 := Aside0.mk hT; have B2 := Aside0.mk (B1d.out.trans hB); have D2 := Aside0.mk ((below_drew1 B1.out).trans hB); have X2 := hT.at (List.mem_cons_self ..); have u7 := (blk_cell X2 7).trans rfl; have u8 := (blk_cell X2 8).trans rfl; have hb1 := hT.at (List.mem_cons_of_mem _ HX.out); have u0 := blk_cell hb1 0; have u1 := blk_cell hb1 1; clear hT hB hb1 X2))
  all_goals
    go_wp2
    have H2d := Aside0.mk H2.out.drew
    have B2d := Aside0.mk (below_drew1 B2.out)
    have D2d := Aside0.mk (below_drew1 D2.out)
    go_region_held3 (fun w' => w'.cell? ⟨P, 1, none⟩ = some (.pointer (some ⟨m, 0, none⟩)) ∧ w'.cell? ⟨gb, 7, none⟩ = some (.int .i64 nm) ∧ w'.cell? ⟨gb, 8, none⟩ = some (.slice Ab lb cb)) (first | exact ⟨u1, u7, u8⟩ | exact ⟨v1, v7, v8⟩ | go_keep) (first
      | (go_at_call 25; (with_reducible refine (CR.out B2d.out H2d.out).mono ?_); rintro e w3 ⟨rfl, hT, hB⟩; have H3 := Aside0.mk hT; have B3 := Aside0.mk (D2d.out.trans hB); have X3 := hT.at (List.mem_cons_self ..); have v7 := (blk_cell X3 7).trans rfl; have v8 := (blk_cell X3 8).trans rfl; have hb1 := hT.at (List.mem_cons_of_mem _ HX.out); have v1 := blk_cell hb1 1; clear hT hB hb1 X3))
    all_goals
      go_wp2_with (first
        | (go_at_call 6; (with_reducible refine (opened_calls (H3.out.less (fun x hx => by rcases List.mem_singleton.1 hx with rfl; exact List.mem_cons_of_mem _ HX.out)) HP.out HFit.out Hn.out (Gl.low HG.out B3.out H1b.out) H1b.out).mono ?_); rintro e w4 ⟨rfl, hD⟩; have HD := Aside0.mk hD; clear hD)
        | go_in)
      go_ret
      exact ⟨rfl, HD.out.1, B3.out.trans HD.out.2⟩
set_option maxRecDepth 100000 in
set_option maxHeartbeats 2000000 in
theorem do_else {B : Nat} {lv mv : Value} {nx : Int} (h : Two X B w d m S R) (hX : (P, pairO d m lv mv nx) ∈ X) (hP : B ≤ P) (hF : Fit S R φ n) (hn : n + 20 ≤ 8388608) (hG : Gl (.pointer (some p)) w) (h1 : 1 < B) (kind : Int) (hk : kind < 0 ∨ 3 < kind) (b : ByteArray) (q st : Int) (f : S40) (nm : Int) (Ab : Option Addr) (lb cb : Nat) :
    Calls Tryz.prog 7 #[.pointer (some ⟨P, 0, none⟩), deedV kind b q st f nm Ab lb cb] w fun e w' => e = .returned (.bool true) ∧ Done B P w w' d m (n + 8) := by
  unfold deedV
  have H := Aside0.mk h
  have HX := Aside0.mk hX
  have HG := Aside0.mk hG
  have H1b := Aside0.mk h1
  have HP := Aside0.mk hP
  have Hn := Aside0.mk hn
  have HF := Aside0.mk hF
  have k0 : (kind == 0) = false := by simp; omega
  have k1 : (kind == 1) = false := by simp; omega
  have k2 : (kind == 2) = false := by simp; omega
  have k3 : (kind == 3) = false := by simp; omega
  clear h hF hX hG h1 hP hn hk
  go_enter Tryz.func7, Tryz.ntmps7
  go_wp2_with (first
    | ((with_reducible refine gate_dst (N := 3) rfl ?_); refine box_event ?hg (N := 3) ?hd (cs := #[.int .i64 kind, .string b, .int .i64 q, .int .i64 st, .int .i64 f.f0, .int .i64 f.f1, .int .i64 f.f2, .int .i64 nm, .slice Ab lb cb]) (t := 45) ?hr ?_; (case hd => rfl); (case hg => rfl); (case hr => first | (go_simp; done) | (go_simp; rfl)); intro gb hgb w1 hbox hb; have H1 := Aside0.mk (H.out.below hb); have B1 := Aside0.mk (hb.mono H.out.size); have z0 := (blk_cell hbox 0).trans rfl; clear hbox hb hgb)
    | (go_at_call 6; (with_reducible refine (opened_calls (H1.out.less (fun x hx => by rcases List.mem_singleton.1 hx with rfl; exact HX.out)) HP.out HF.out Hn.out (Gl.low HG.out B1.out H1b.out) H1b.out).mono ?_); rintro e w4 ⟨rfl, hD⟩; have HD := Aside0.mk hD; clear hD)
    | go_in)
  go_ret
  exact ⟨rfl, HD.out.1, B1.out.trans HD.out.2⟩
end
end Go.Proofs.YtomhgoahhlnjpaaGreatDoor.Pl

/- WalPlays, walked: any deed; the law's loop. -/
namespace Go.Proofs.YtomhgoahhlnjpaaGreatDoor.Pl
open Go.RowKit Go.Maps Go.Sort Go.Proofs.YtomhgoahhlnjpaaGreatDoorW.PrintWords Go.Proofs.YtomhgoahhlnjpaaGreatDoor.PRef Go.Proofs.YtomhgoahhlnjpaaGreatDoor.Dk Go.Proofs.YtomhgoahhlnjpaaGreatDoor.Rf Go.Proofs.YtomhgoahhlnjpaaGreatDoor.WalN Go.Proofs.YtomhgoahhlnjpaaGreatDoor.PWal Go.Proofs.YtomhgoahhlnjpaaGreatDoor.WalB

/-! ### deeds as they come in -/
structure Deed where
  kind : Int
  body : ByteArray
  seq : Int
  step : Int
  fault : S40
  crash : Int × List Int
def kCr : Kd (Int × List Int) := Kd.iso (Kd.pair (Kd.int .i64) (Kd.slice 3 (Kd.int .i64))) id
def k45 : Kd Deed := Kd.iso (Kd.pair (Kd.int .i64) (Kd.pair Kd.string (Kd.pair (Kd.int .i64) (Kd.pair (Kd.int .i64) (Kd.pair k40 kCr))))) (fun x : Deed => (x.kind, x.body, x.seq, x.step, x.fault, x.crash))
def wtD (x : Deed) : Nat := x.body.size + 30
def sumD : List Deed → Nat
  | [] => 0
  | x :: l => wtD x + sumD l
theorem spot_none {w : World} {a : Addr} {u : Value} (h : w.cell? a = some u) : a = ⟨a.block, a.off, none⟩ := by
  obtain ⟨b, o, s⟩ := a
  cases s with
  | none => rfl
  | some k =>
    unfold World.cell? at h
    split at h
    · simp at h
    · cases h
theorem ints_of {w : World} {A : Option Addr} {l : List Int} (c : Nat) (hC : Kd.C (Kd.int .i64) w A l.length l) : IntsAt w (.slice A l.length c) l := by
  refine ⟨A, c, rfl, fun i y hy => ?_⟩
  have hlt : i < l.length := (List.getElem?_eq_some_iff.1 hy).1
  have hpos : 0 < l.length := Nat.lt_of_le_of_lt (Nat.zero_le _) hlt
  obtain ⟨ad, hA, hc⟩ := hC.2.2 hpos
  obtain ⟨z, hz⟩ : ∃ z, l[0]? = some z := ⟨_, List.getElem?_eq_getElem hpos⟩
  obtain ⟨c0, _, h2, h3⟩ := hc 0 z hz
  obtain ⟨cc, _, h5, h6⟩ := hc i y hy
  have e2 : c0 = [.int .i64 z] := h2
  have e5 : cc = [.int .i64 y] := h5
  have h7 := h3 0 (.int .i64 z) (by rw [e2]; rfl)
  have h8 := h6 0 (.int .i64 y) (by rw [e5]; rfl)
  have e1 : (0 : Nat) * (Kd.int .i64).sz + 0 = 0 := rfl
  have ha : ad.add 0 = ad := by simp [Addr.add]
  rw [e1, ha] at h7
  have hs := spot_none h7
  rw [hs] at hA h8
  refine ⟨_, _, hA, ?_⟩
  rw [Addr.add_lit] at h8
  have e : i * (Kd.int .i64).sz + 0 = i := by show i * 1 + 0 = i; omega
  rw [e] at h8
  exact h8
theorem k45_open {w : World} {x : Deed} {cs : List Value} (h : k45.K w x cs) : ∃ Ab cb, cs = [.int .i64 x.kind, .string x.body, .int .i64 x.seq, .int .i64 x.step, .int .i64 x.fault.f0, .int .i64 x.fault.f1, .int .i64 x.fault.f2, .int .i64 x.crash.1, .slice Ab x.crash.2.length cb] ∧ IntsAt w (.slice Ab x.crash.2.length cb) x.crash.2 := by
  obtain ⟨_, _, rfl, rfl, ⟨_, _, rfl, rfl, ⟨_, _, rfl, rfl, ⟨_, _, rfl, rfl, ⟨cf, _, rfl, hf, ⟨_, _, rfl, rfl, ⟨Ab, cb, rfl, hcb, hCb⟩⟩⟩⟩⟩⟩⟩ := h
  obtain rfl := k40_open hf
  exact ⟨Ab, cb, rfl, ints_of cb hCb⟩
section
variable {W0 w : World} {P d m : Nat} {S : DS} {R : RS} {φ : List Nat} {L : Option Lg} {n n' : Nat} {p : Addr}
theorem Fit.mono (h : Fit S R φ n) (hn : n ≤ n') (hl : n' ≤ 8388608) : Fit S R φ n' := ⟨h.sim, h.s.mono hn, h.r.mono hn, hl⟩
theorem Done.mono {B : Nat} {w' : World} (h : Done B P w w' d m n) (hn : n ≤ n') (hl : n' ≤ 8388608) : Done B P w w' d m n' := by
  obtain ⟨⟨S', R', φ', L', h1, h2, h3⟩, h4⟩ := h
  exact ⟨⟨S', R', φ', L', h1, Fit.mono h2 hn hl, fun l hl => (h3 l hl).mono hn⟩, h4⟩
theorem St.two {B : Nat} (h : St B P w d m S R L) : ∃ X lv mv nx, Two X B w d m S R ∧ (P, pairO d m lv mv nx) ∈ X ∧ ∀ {w' : World} {S' : DS} {R' : RS}, Two X B w' d m S' R' → St B P w' d m S' R' L := by
  cases L with
  | none =>
    obtain ⟨nx, h⟩ := h
    exact ⟨_, _, _, _, h, List.mem_cons_self .., fun {_ _ _} h2 => ⟨_, h2⟩⟩
  | some l =>
    obtain ⟨g, k, nx, h, hg, hk⟩ := h
    exact ⟨_, _, _, _, h, List.mem_cons_of_mem _ (List.mem_cons_of_mem _ (List.mem_cons_self ..)), fun {_ _ _} h2 => ⟨_, _, _, h2, hg, hk⟩⟩
/-- any deed -/
theorem do_any (hW : Below W0.heap.size W0 w) (h : St W0.heap.size P w d m S R L) (hP : W0.heap.size ≤ P) (hF : Fit S R φ n) (hL : OkL L n) (hG : Gl (.pointer (some p)) w) (h1 : 1 < W0.heap.size) (x : Deed) (Ab : Option Addr) (cb : Nat) (hI : IntsAt W0 (.slice Ab x.crash.2.length cb) x.crash.2) (hle : n + wtD x + 40 ≤ 8388608) :
    Calls Tryz.prog 7 #[.pointer (some ⟨P, 0, none⟩), deedV x.kind x.body x.seq x.step x.fault x.crash.1 Ab x.crash.2.length cb] w fun e w' => e = .returned (.bool true) ∧ Done W0.heap.size P w w' d m (n + wtD x) := by
  obtain ⟨kind, b, q, st, f, cr⟩ := x
  unfold wtD at hle ⊢
  dsimp only at *
  by_cases h0 : kind = 0
  · subst h0
    cases L with
    | none =>
      obtain ⟨nx, h⟩ := h
      exact (do_nil h hF 0 (.inl rfl) b q st f cr.1 Ab _ cb).mono fun e w' q => ⟨q.1, q.2.mono (by omega) (by omega)⟩
    | some l =>
      obtain ⟨g, k, nx, h, hg, hk⟩ := h
      exact (do_append l b q st f cr.1 Ab _ cb h hg hk hP hF (hL l rfl) (by omega) hG h1).mono fun e w' q => ⟨q.1, q.2.mono (by omega) (by omega)⟩
  by_cases h2 : kind = 1
  · subst h2
    cases L with
    | none =>
      obtain ⟨nx, h⟩ := h
      exact (do_nil h hF 1 (.inr rfl) b q st f cr.1 Ab _ cb).mono fun e w' q => ⟨q.1, q.2.mono (by omega) (by omega)⟩
    | some l =>
      obtain ⟨g, k, nx, h, hg, hk⟩ := h
      exact (do_sync l h hg hk hF (hL l rfl) (by omega) hG h1 b q st f cr.1 Ab _ cb).mono fun e w' q => ⟨q.1, q.2.mono (by omega) (by omega)⟩
  obtain ⟨X, lv, mv, nx, hT, hX, hB⟩ := h.two
  by_cases h3 : kind = 2
  · subst h3
    refine (do_plan hT hX hF (by omega) b q st f cr.1 Ab _ cb).mono ?_
    rintro e w' ⟨rfl, ⟨S', R', hT', hF'⟩, hb⟩
    exact ⟨rfl, ⟨S', R', φ, L, hB hT', Fit.mono hF' (by omega) (by omega), fun l hl => (hL l hl).mono (by omega)⟩, hb⟩
  by_cases h4 : kind = 3
  · subst h4
    exact (do_crash hW hT hX hP hF (by omega) hG h1 b q st f cr.1 Ab cb cr.2 hI).mono fun e w' q => ⟨q.1, q.2.mono (by omega) (by omega)⟩
  · exact (do_else hT hX hP hF (by omega) hG h1 kind (by omega) b q st f cr.1 Ab _ cb).mono fun e w' q => ⟨q.1, q.2.mono (by omega) (by omega)⟩
end
theorem fit0 : Fit DS.new R0 [] 0 := ⟨new_sim, ⟨Int.le_refl _, Nat.le_refl _, Nat.le_refl _, fun c hc => (List.not_mem_nil hc).elim, fun f hf => (List.not_mem_nil hf).elim⟩, ⟨Nat.le_refl _, Nat.le_refl _, fun f hf => (List.not_mem_nil hf).elim⟩, by decide⟩
theorem two0 {W w1 w2 : World} {d g mb : Nat} (hb1 : Below W.heap.size W w1) (hA : At (fun k => W.heap.size ≤ k ∧ k < w1.heap.size) w1 d DS.new mb [] (.slice none 0 0) (.slice none 0 0)) (hb : Below w1.heap.size w1 w2) (hg : g = w1.heap.size) (hx : w2.heap[g]? = some (.cells #[.slice none 0 0, .slice none 0 0, .slice none 0 0, .slice none 0 0, .slice none 0 0, .int .i64 0] 32 (0, 0))) : Two [] W.heap.size w2 d g DS.new R0 :=
  ⟨_, _, _, _, _, (· = g), _, _, _, _, _, hA.below hb,
    { blk := hx
      files := Kd.R_nil _ _ _ _ _
      now := Kd.R_nil _ _ _ _ _
      last := Kd.R_nil _ _ _ _ _
      opn := Kd.R_nil _ _ _ _ _
      faults := Kd.R_nil _ _ _ _ _
      ownm := rfl
      bnd := fun k hk => by rw [hk]; exact blk_lt hx }, fun k hk e => by omega, fun k hk => hk.1, fun k hk => by have := hb1.size; omega, fun p hp => (List.not_mem_nil hp).elim⟩
theorem add_field (a : Addr) (k j : Nat) (h : 0 < j) : a.add (k + j) = ⟨(a.add k).block, (a.add k).off + j, none⟩ := by
  unfold Addr.add
  by_cases h1 : k = 0 <;> simp [h1, Nat.add_assoc] <;> omega
set_option maxRecDepth 100000 in
set_option maxHeartbeats 4000000 in
theorem plays_calls (W : World) (l : List Deed) {A : Option Addr} {c : Nat} {p : Addr} (hC : Kd.C k45 W A l.length l) (hs : sumD l + 100 ≤ 8388608) (hll : l.length ≤ 8388608) (hG : Gl (.pointer (some p)) W) :
    Calls Tryz.prog 3 #[.slice A l.length c] W fun e w' => e = .returned (.bool true) ∧ Below W.heap.size W w' := by
  have HC := Aside0.mk hC
  have HS := Aside0.mk hs
  have HG := Aside0.mk hG
  have H1 := Aside0.mk hG.lt
  clear hC hs hG
  go_enter Tryz.func3, Tryz.ntmps3
  go_wp2_with (first
    | (go_at_call 4; (with_reducible refine (new_calls _).mono ?_); rintro e w1 ⟨d, mb, rfl, hb, hA⟩; have HA := Aside0.mk hA; have B1 := Aside0.mk hb; clear hA hb)
    | ((with_reducible refine gate_dst (N := 11) rfl ?_); refine box_event ?hg (N := 11) ?hd (cs := #[.slice none 0 0, .slice none 0 0, .slice none 0 0, .slice none 0 0, .slice none 0 0, .int .i64 0]) (t := 32) ?hr ?_; (case hd => rfl); (case hg => rfl); (case hr => first | (go_simp; done) | (go_simp; rfl)); intro g hgb w2 hbox hb; have H2 := Aside0.mk (two0 B1.out HA.out hb hgb hbox); have B2 := Aside0.mk (B1.out.trans (hb.mono B1.out.size)); clear hbox hb hgb)
    | ((with_reducible refine gate_dst (N := 13) rfl ?_); refine box_event ?hg (N := 13) ?hd (cs := #[.pointer (some ⟨d, 0, none⟩), .pointer (some ⟨g, 0, none⟩), .pointer none, .pointer none, .int .i64 0]) (t := 36) ?hr ?_; (case hd => rfl); (case hg => rfl); (case hr => first | (go_simp; done) | (go_simp; rfl)); intro P hgb w3 hbox hb; have H3 := Aside0.mk (H2.out.new hb (Nat.le_of_eq hgb.symm) hbox); have B3 := Aside0.mk (B2.out.trans (hb.mono B2.out.size)); have HP : Aside0 (W.heap.size ≤ P) := ⟨by rw [hgb]; exact B2.out.size⟩; have z0 := (blk_cell hbox 0).trans rfl; clear hbox hb hgb)
    | (go_at_call 5; (with_reducible refine (awake_calls _).mono ?_); rintro e w4 ⟨rfl, hb⟩; have H4 := Aside0.mk (H3.out.below hb); have B4 := Aside0.mk (B3.out.trans (hb.mono B3.out.size)); clear hb z0)
    | (go_at_call 6; (with_reducible refine (opened_calls H4.out HP.out fit0 (by decide) (Gl.low HG.out B4.out H1.out) H1.out).mono ?_); rintro e w5 ⟨rfl, hD⟩; have HD := Aside0.mk hD.1; have B5 := Aside0.mk (B4.out.trans hD.2); clear hD)
    | go_in)
  go_loopw [4] (fun vi wr => ∃ (i : Nat) (S : DS) (R : RS) (φ : List Nat) (L : Option Lg) (n : Nat), vi = .int .i64 i ∧ i ≤ l.length ∧ Aside0 (St W.heap.size P wr d g S R L) ∧ Aside0 (Fit S R φ n) ∧ Aside0 (OkL L n) ∧ Aside0 (n + sumD (l.drop i) + 40 ≤ 8388608) ∧ Aside0 (Below W.heap.size W wr)) (fun vi _ => l.length - (intOf vi).toNat)
  case atStart =>
    obtain ⟨S, R, φ, L, h1, h2, h3⟩ := HD.out
    exact ⟨0, S, R, φ, L, 8, rfl, Nat.zero_le _, ⟨h1⟩, ⟨h2⟩, ⟨h3⟩, ⟨by rw [List.drop_zero]; have := HS.out; omega⟩, B5⟩
  case round =>
    obtain ⟨i, S, R, φ, L, n, rfl, hi, HT, HF, HL, HN, HB⟩ := hrel
    by_cases ht : i < l.length
    · have hd1 : decide ((i : Int) < (l.length : Int)) = true := by simpa using ht
      by_cases ht2 : i < 200
      · have hd2 : decide ((i : Int) < 200) = true := decide_eq_true (by omega)
        obtain ⟨x, hx⟩ : ∃ x, l[i]? = some x := ⟨_, List.getElem?_eq_getElem ht⟩
        have hdr : l.drop i = x :: l.drop (i + 1) := by
          rw [List.drop_eq_getElem_cons ht]
          have := List.getElem?_eq_some_iff.1 hx
          rw [this.2]
        have hN2 : (n + wtD x) + sumD (l.drop (i + 1)) + 40 ≤ 8388608 := by
          have := HN.out
          rw [hdr, sumD] at this
          omega
        obtain ⟨ad, hA, hcell⟩ := HC.out.2.2 (by omega)
        obtain ⟨cl, _, hcl, hce⟩ := hcell i x hx
        obtain ⟨Ab, cb, rfl, hI⟩ := k45_open hcl
        have CD := Aside0.mk (do_any HB.out HT.out HP.out HF.out HL.out (Gl.low HG.out HB.out H1.out) H1.out x Ab cb hI (by omega))
        unfold deedV at CD
        subst hA
        have hlt : ∀ j u, ([.int .i64 x.kind, .string x.body, .int .i64 x.seq, .int .i64 x.step, .int .i64 x.fault.f0, .int .i64 x.fault.f1, .int .i64 x.fault.f2, .int .i64 x.crash.1, .slice Ab x.crash.2.length cb] : List Value)[j]? = some u → wr.cell? (ad.add (i * 9 + j)) = some u := fun j u hu => by
          have h1 := hce j u hu
          rw [show k45.sz = 9 from rfl] at h1
          exact (HB.out.cell (World.block_lt_of_cell? W _ h1)).trans h1
        have y0 := hlt 0 _ rfl
        have hlt2 : ∀ j u, 0 < j → ([.int .i64 x.kind, .string x.body, .int .i64 x.seq, .int .i64 x.step, .int .i64 x.fault.f0, .int .i64 x.fault.f1, .int .i64 x.fault.f2, .int .i64 x.crash.1, .slice Ab x.crash.2.length cb] : List Value)[j]? = some u → wr.cell? ⟨(ad.add (i * 9)).block, (ad.add (i * 9)).off + j, none⟩ = some u := fun j u hj hu => by
          rw [← add_field _ _ j hj]
          exact hlt j u hu
        have y1 := hlt2 1 _ (by decide) rfl
        have y2 := hlt2 2 _ (by decide) rfl
        have y3 := hlt2 3 _ (by decide) rfl
        have y4 := hlt2 4 _ (by decide) rfl
        have y5 := hlt2 5 _ (by decide) rfl
        have y6 := hlt2 6 _ (by decide) rfl
        have y7 := hlt2 7 _ (by decide) rfl
        have y8 := hlt2 8 _ (by decide) rfl
        rw [Nat.add_zero] at y0
        have HN2 := Aside0.mk hN2
        clear hx hdr hN2 hcell hce hcl hlt hlt2 hI
        go_wp2_with (first
          | (go_at_call 7; (with_reducible refine (CD.out).mono ?_); rintro e w6 ⟨rfl, ⟨S1, R1, φ1, L1, hT1, hF1, hL1⟩, hB1⟩; have HT1 := Aside0.mk hT1; have HF1 := Aside0.mk hF1; have HL1 := Aside0.mk hL1; have HB1 := Aside0.mk (HB.out.trans hB1); obtain ⟨X1, lv1, mv1, nx1, hT2, hX2, hBk⟩ := hT1.two; have HX2 := Aside0.mk (And.intro hT2 hX2); have hbp := hT2.at hX2; have z0 := blk_cell hbp 0; have z1 := blk_cell hbp 1; obtain ⟨sr, er, hsr⟩ : ∃ sr er, S1.read nLog = (sr, er) := ⟨_, _, rfl⟩; have hsq := (read_sim hF1.sim nLog).symm.trans hsr; have CRd := read_two hT2 nLog (by decide); rw [hsr] at CRd; have CRr := read_any hF1 hT2 nLog; rw [hsq] at CRr; dsimp only at CRd CRr; have HCRd := Aside0.mk CRd; have HCRr := Aside0.mk CRr; clear hT1 hF1 hL1 hB1 hT2 hX2 hBk hbp hsr hsq CRd CRr y0 y1 y2 y3 y4 y5 y6 y7 y8)
          | (go_at_call 8; (with_reducible refine (HCRd.out).mono ?_); rintro e w7 ⟨rfl, rfl⟩)
          | (go_at_call 9; (with_reducible refine (HCRr.out).mono ?_); rintro e w8 ⟨rfl, ⟨nd, rfl⟩⟩)
          | go_in)
        have HB2 := Aside0.mk (pw_below_drewN HB1.out nd)
        clear z0 z1
        generalize hw8 : w7.drewN nd = w8 at HB2 ⊢
        have HT3 : Aside0 (St W.heap.size P w8 d g S1 R1 L1) := ⟨by
          rw [← hw8]
          obtain ⟨X, lv, mv, nx, hT, hX, hB⟩ := HT1.out.two
          exact hB (hT.drewN nd)⟩
        clear hw8
        cases L1 with
        | none =>
          obtain ⟨nx2, h⟩ := HT3.out
          have y3 := blk_cell (h.at (List.mem_cons_self ..)) 3
          clear h
          go_wp2_with fail
          go_quiet (fail)
          go_wp2
          have hms := meas ht
          exact ⟨⟨i + 1, S1, R1, φ1, none, _, by simp, by omega, ⟨by
            obtain ⟨X, lv, mv, nx, hT, hX, hB⟩ := HT3.out.two
            exact hB (hT.drewN _)⟩, HF1, HL1, HN2, ⟨pw_below_drewN HB2.out _⟩⟩, by simpa [intOf] using hms⟩
        | some l1 =>
          obtain ⟨gg, kk, nx2, h, _, _⟩ := HT3.out
          have hbp := h.at (List.mem_cons_of_mem _ (List.mem_cons_of_mem _ (List.mem_cons_self ..)))
          have y2 := blk_cell hbp 2
          have y3 := blk_cell hbp 3
          have hbk := h.at (List.mem_cons_of_mem _ (List.mem_cons_self ..))
          have k3 := blk_cell hbk 3
          have k4 := blk_cell hbk 4
          have HGB := Aside0.mk (h.at (List.mem_cons_self ..))
          clear h hbp hbk
          go_wp2_with fail
          go_quiet (first
            | (go_at_call 10; exact Calls.quiet_of_same (size_two HGB.out))
            | (go_at_call 11; exact Calls.quiet_of_same (broken_two HGB.out)))
          go_wp2
          have hms := meas ht
          exact ⟨⟨i + 1, S1, R1, φ1, some l1, _, by simp, by omega, ⟨by
            obtain ⟨X, lv, mv, nx, hT, hX, hB⟩ := HT3.out.two
            exact hB (hT.drewN _)⟩, HF1, HL1, HN2, ⟨pw_below_drewN HB2.out _⟩⟩, by simpa [intOf] using hms⟩
      · have hd2 : decide ((i : Int) < 200) = false := decide_eq_false (by omega)
        go_wp2
        go_ret
        exact ⟨rfl, HB.out⟩
    · have hd1 : decide ((i : Int) < (l.length : Int)) = false := by simpa using ht
      go_wp2
      go_ret
      exact ⟨rfl, HB.out⟩
end Go.Proofs.YtomhgoahhlnjpaaGreatDoor.Pl
