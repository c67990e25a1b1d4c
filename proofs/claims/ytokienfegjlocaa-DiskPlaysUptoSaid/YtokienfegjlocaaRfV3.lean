/- A deed with both disks, walked. -/
import Derived.Test.YtokienfegjlocaaRfVV
namespace Go.Proofs.Ytokienfegjlocaa.Rf
open Go.RowKit Go.Maps Go.Sort Go.Proofs.YtokienfegjlocaaW.PrintWords Go.Proofs.Ytokienfegjlocaa.PRef Go.Proofs.Ytokienfegjlocaa.Dk

section
variable {W0 w : World} {d m : Nat} {S : DS} {R : RS} {φ : List Nat} {n : Nat}
set_option maxRecDepth 100000 in
set_option maxHeartbeats 40000000 in
theorem do3 (h : Two [] W0.heap.size w d m S R) (hF : Fit S R φ n) (a b : ByteArray) (sz names : Int) (Af Ab : Option Addr) (lf cf lb cb : Nat) (hle : n + a.size + b.size + 2 ≤ 8388608) :
    Calls Try.prog 18 #[.pointer (some ⟨d, 0, none⟩), .pointer (some ⟨m, 0, none⟩), deedV 3 a b sz Af lf cf names Ab lb cb] w fun e w' => e = .returned (.bool true) ∧ Done W0 w w' d m (n + a.size + b.size + 2) := by
  unfold deedV
  have H := Aside0.mk h
  obtain ⟨hs, he⟩ := rename_sim hF.sim a b
  have hS : SmallS (S.rename a b).1 (n + a.size + b.size + 2) := (hF.s.rename a b).mono (by omega)
  have hR : SmallR (R.renameR a b).1 (n + a.size + b.size + 2) := (hF.r.rename a b).mono (by omega)
  obtain ⟨S', r1, hp⟩ : ∃ S1 q1, S.rename a b = (S1, q1) := ⟨_, _, rfl⟩
  have CD : Aside0 (∀ {X : List (Nat × Obj)} {w1 : World}, Two X W0.heap.size w1 d m S R → Calls Try.prog 12 #[.pointer (some ⟨d, 0, none⟩), .string a, .string b] w1 fun e w' => e = .returned (.int .i64 r1) ∧ Two X W0.heap.size w' d m S' R ∧ Below W0.heap.size w1 w') := ⟨fun h1 => by have q := rename_two h1 hF a b (by omega) (by omega); rw [hp] at q; exact q⟩
  have CR : Aside0 (∀ {X : List (Nat × Obj)} {w1 : World}, Two X W0.heap.size w1 d m S' R → Calls Try.prog 30 #[.pointer (some ⟨m, 0, none⟩), .string a, .string b] w1 fun e w' => e = .returned (.int .i64 r1) ∧ Two X W0.heap.size w' d m S' (R.renameR a b).1 ∧ Below W0.heap.size w1 w') := ⟨fun h1 => by have q := rename_twoR hF h1 a b; rw [← he, hp] at q; exact q⟩
  rw [hp] at hs hS
  have HFit : Aside0 (Fit S' (R.renameR a b).1 φ (n + a.size + b.size + 2)) := ⟨⟨hs, hS, hR, hle⟩⟩
  clear h hF hle hs he hS hR hp
  go_enter Try.func18, Try.ntmps18
  go_wp2_with (first
    | ((with_reducible refine gate_dst (N := 5) rfl ?_); refine box_event ?hg (N := 5) ?hd (cs := #[.int .i64 3, .string a, .string b, .int .i64 sz, .slice Af lf cf, .int .i64 names, .slice Ab lb cb]) (t := 55) ?hr ?_; (case hd => rfl); (case hg => rfl); (case hr => first | (go_simp; done) | (go_simp; rfl)); intro g hgb w1 hbox hb; have H1 := Aside0.mk (H.out.new hb (Nat.le_of_eq hgb.symm) hbox); have B1 := Aside0.mk (below_drew1 hb); have H1d := Aside0.mk H1.out.drew; have X1 := Aside0.mk hbox; have z0 := (blk_cell hbox 0).trans rfl; have z1 := (blk_cell hbox 1).trans rfl; have z2 := (blk_cell hbox 2).trans rfl; have z3 := (blk_cell hbox 3).trans rfl; have z4 := (blk_cell hbox 4).trans rfl; have z5 := (blk_cell hbox 5).trans rfl; have z6 := (blk_cell hbox 6).trans rfl; clear hbox hb hgb)
    | go_in)
  go_region_with (first
    | (go_at_call 12; (with_reducible refine (CD.out H1d.out).mono ?_); rintro e w2 ⟨rfl, hT, hB⟩; have H2 := Aside0.mk hT; have B2 := Aside0.mk hB; have X2 := Aside0.mk (hT.at (List.mem_cons_self ..)); have y0 := (blk_cell X2.out 0).trans rfl; have y1 := (blk_cell X2.out 1).trans rfl; have y2 := (blk_cell X2.out 2).trans rfl; have y3 := (blk_cell X2.out 3).trans rfl; have y4 := (blk_cell X2.out 4).trans rfl; have y5 := (blk_cell X2.out 5).trans rfl; have y6 := (blk_cell X2.out 6).trans rfl; clear hT hB)
    | (go_at_call 30; (with_reducible refine (CR.out H2.out).mono ?_); rintro e w3 ⟨rfl, hT, hB⟩; have H3 := Aside0.mk hT; have B3 := Aside0.mk hB; clear hT hB))
  all_goals (
    go_wp2
    go_ret
    have hB1 := H.out.size
    exact ⟨rfl, ⟨_, _, _, H3.out.less (fun _ hp => (List.not_mem_nil hp).elim), HFit.out⟩, ((B1.out.mono hB1).trans B2.out).trans B3.out⟩)
end
end Go.Proofs.Ytokienfegjlocaa.Rf
