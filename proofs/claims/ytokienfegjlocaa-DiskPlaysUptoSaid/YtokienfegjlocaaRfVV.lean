/- Several texts in one. -/
import Derived.Test.YtokienfegjlocaaRfU
/- A deed with both disks, walked. -/
namespace Go.Proofs.Ytokienfegjlocaa.Rf
open Go.RowKit Go.Maps Go.Sort Go.Proofs.YtokienfegjlocaaW.PrintWords Go.Proofs.Ytokienfegjlocaa.PRef Go.Proofs.Ytokienfegjlocaa.Dk

section
variable {W0 w : World} {d m : Nat} {S : DS} {R : RS} {φ : List Nat} {n : Nat}
def deedV (kind : Int) (a b : ByteArray) (sz : Int) (Af : Option Addr) (lf cf : Nat) (names : Int) (Ab : Option Addr) (lb cb : Nat) : Value := .agg #[.int .i64 kind, .string a, .string b, .int .i64 sz, .slice Af lf cf, .int .i64 names, .slice Ab lb cb]
/-- what a deed leaves: both disks, alike still -/
def Done (W0 w w' : World) (d m n : Nat) : Prop := (∃ S' R' φ', Two [] W0.heap.size w' d m S' R' ∧ Fit S' R' φ' n) ∧ Below W0.heap.size w w'
set_option maxRecDepth 100000 in
set_option maxHeartbeats 2000000 in
theorem do0 (h : Two [] W0.heap.size w d m S R) (hF : Fit S R φ n) (a b : ByteArray) (sz names : Int) (Af Ab : Option Addr) (lf cf lb cb : Nat) (hle : n + a.size + b.size + 2 ≤ 8388608) :
    Calls Try.prog 18 #[.pointer (some ⟨d, 0, none⟩), .pointer (some ⟨m, 0, none⟩), deedV 0 a b sz Af lf cf names Ab lb cb] w fun e w' => e = .returned (.bool true) ∧ Done W0 w w' d m (n + a.size + b.size + 2) := by
  unfold deedV
  have H := Aside0.mk h
  obtain ⟨φ', hs, he⟩ := write_sim hF.sim a b
  have hS : SmallS (S.write a b).1 (n + a.size + b.size + 2) := (hF.s.write a b).mono (by omega)
  have hR : SmallR (R.writeR a b).1 (n + a.size + b.size + 2) := (hF.r.write a b).mono (by omega)
  obtain ⟨S', r1, r2, hp⟩ : ∃ S1 q1 q2, S.write a b = (S1, q1, q2) := ⟨_, _, _, rfl⟩
  have CD : Aside0 (∀ {X : List (Nat × Obj)} {w1 : World}, Two X W0.heap.size w1 d m S R → Calls Try.prog 9 #[.pointer (some ⟨d, 0, none⟩), .string a, .string b] w1 fun e w' => e = .returned (.tuple #[.int .i64 r1, .int .i64 r2]) ∧ Two X W0.heap.size w' d m S' R ∧ Below W0.heap.size w1 w') := ⟨fun h1 => by have q := write_two h1 hF a b (by omega) (by omega); rw [hp] at q; exact q⟩
  have CR : Aside0 (∀ {X : List (Nat × Obj)} {w1 : World}, Two X W0.heap.size w1 d m S' R → Calls Try.prog 27 #[.pointer (some ⟨m, 0, none⟩), .string a, .string b] w1 fun e w' => e = .returned (.tuple #[.int .i64 r1, .int .i64 r2]) ∧ Two X W0.heap.size w' d m S' (R.writeR a b).1 ∧ Below W0.heap.size w1 w') := ⟨fun h1 => by have q := write_twoR hF h1 a b (by omega); rw [← he, hp] at q; exact q⟩
  rw [hp] at hs hS
  have HFit : Aside0 (Fit S' (R.writeR a b).1 φ' (n + a.size + b.size + 2)) := ⟨⟨hs, hS, hR, hle⟩⟩
  clear h hF hle hs he hS hR hp
  go_enter Try.func18, Try.ntmps18
  go_wp2_with (first
    | ((with_reducible refine gate_dst (N := 5) rfl ?_); refine box_event ?hg (N := 5) ?hd (cs := #[.int .i64 0, .string a, .string b, .int .i64 sz, .slice Af lf cf, .int .i64 names, .slice Ab lb cb]) (t := 55) ?hr ?_; (case hd => rfl); (case hg => rfl); (case hr => first | (go_simp; done) | (go_simp; rfl)); intro g hgb w1 hbox hb; have H1 := Aside0.mk (H.out.new hb (Nat.le_of_eq hgb.symm) hbox); have B1 := Aside0.mk hb; have X1 := Aside0.mk hbox; have z0 := (blk_cell hbox 0).trans rfl; have z1 := (blk_cell hbox 1).trans rfl; have z2 := (blk_cell hbox 2).trans rfl; have z3 := (blk_cell hbox 3).trans rfl; have z4 := (blk_cell hbox 4).trans rfl; have z5 := (blk_cell hbox 5).trans rfl; have z6 := (blk_cell hbox 6).trans rfl; clear hbox hb hgb)
    | (go_at_call 9; (with_reducible refine (CD.out H1.out).mono ?_); rintro e w2 ⟨rfl, hT, hB⟩; have H2 := Aside0.mk hT; have B2 := Aside0.mk hB; clear z0 z1 z2 z3 z4 z5 z6; have X2 := Aside0.mk (hT.at (List.mem_cons_self ..)); have y0 := (blk_cell X2.out 0).trans rfl; have y1 := (blk_cell X2.out 1).trans rfl; have y2 := (blk_cell X2.out 2).trans rfl; have y3 := (blk_cell X2.out 3).trans rfl; have y4 := (blk_cell X2.out 4).trans rfl; have y5 := (blk_cell X2.out 5).trans rfl; have y6 := (blk_cell X2.out 6).trans rfl; clear hT hB)
    | (go_at_call 27; (with_reducible refine (CR.out H2.out).mono ?_); rintro e w3 ⟨rfl, hT, hB⟩; have H3 := Aside0.mk hT; have B3 := Aside0.mk hB; clear hT hB)
    | go_in)
  go_ret
  have hB1 := H.out.size
  exact ⟨rfl, ⟨_, _, _, H3.out.less (fun _ hp => (List.not_mem_nil hp).elim), HFit.out⟩, ((B1.out.mono hB1).trans B2.out).trans B3.out⟩
end
end Go.Proofs.Ytokienfegjlocaa.Rf

/- A deed with both disks, walked. -/
namespace Go.Proofs.Ytokienfegjlocaa.Rf
open Go.RowKit Go.Maps Go.Sort Go.Proofs.YtokienfegjlocaaW.PrintWords Go.Proofs.Ytokienfegjlocaa.PRef Go.Proofs.Ytokienfegjlocaa.Dk

section
variable {W0 w : World} {d m : Nat} {S : DS} {R : RS} {φ : List Nat} {n : Nat}
set_option maxRecDepth 100000 in
set_option maxHeartbeats 40000000 in
theorem do2 (h : Two [] W0.heap.size w d m S R) (hF : Fit S R φ n) (a b : ByteArray) (sz names : Int) (Af Ab : Option Addr) (lf cf lb cb : Nat) (hle : n + a.size + b.size + 2 ≤ 8388608) :
    Calls Try.prog 18 #[.pointer (some ⟨d, 0, none⟩), .pointer (some ⟨m, 0, none⟩), deedV 2 a b sz Af lf cf names Ab lb cb] w fun e w' => e = .returned (.bool true) ∧ Done W0 w w' d m (n + a.size + b.size + 2) := by
  unfold deedV
  have H := Aside0.mk h
  obtain ⟨hs, he⟩ := sync_sim hF.sim a
  have hS : SmallS (S.sync a).1 (n + a.size + b.size + 2) := (hF.s.sync a).mono (by omega)
  have hR : SmallR (R.syncR a).1 (n + a.size + b.size + 2) := (hF.r.sync a).mono (by omega)
  obtain ⟨S', r1, hp⟩ : ∃ S1 q1, S.sync a = (S1, q1) := ⟨_, _, rfl⟩
  have CD : Aside0 (∀ {X : List (Nat × Obj)} {w1 : World}, Two X W0.heap.size w1 d m S R → Calls Try.prog 10 #[.pointer (some ⟨d, 0, none⟩), .string a] w1 fun e w' => e = .returned (.int .i64 r1) ∧ Two X W0.heap.size w' d m S' R ∧ Below W0.heap.size w1 w') := ⟨fun h1 => by have q := sync_two h1 hF a (by omega); rw [hp] at q; exact q⟩
  have CR : Aside0 (∀ {X : List (Nat × Obj)} {w1 : World}, Two X W0.heap.size w1 d m S' R → Calls Try.prog 29 #[.pointer (some ⟨m, 0, none⟩), .string a] w1 fun e w' => e = .returned (.int .i64 r1) ∧ Two X W0.heap.size w' d m S' (R.syncR a).1 ∧ Below W0.heap.size w1 w') := ⟨fun h1 => by have q := sync_twoR hF h1 a; rw [← he, hp] at q; exact q⟩
  rw [hp] at hs hS
  have HFit : Aside0 (Fit S' (R.syncR a).1 φ (n + a.size + b.size + 2)) := ⟨⟨hs, hS, hR, hle⟩⟩
  clear h hF hle hs he hS hR hp
  go_enter Try.func18, Try.ntmps18
  go_wp2_with (first
    | ((with_reducible refine gate_dst (N := 5) rfl ?_); refine box_event ?hg (N := 5) ?hd (cs := #[.int .i64 2, .string a, .string b, .int .i64 sz, .slice Af lf cf, .int .i64 names, .slice Ab lb cb]) (t := 55) ?hr ?_; (case hd => rfl); (case hg => rfl); (case hr => first | (go_simp; done) | (go_simp; rfl)); intro g hgb w1 hbox hb; have H1 := Aside0.mk (H.out.new hb (Nat.le_of_eq hgb.symm) hbox); have B1 := Aside0.mk (below_drew1 hb); have H1d := Aside0.mk H1.out.drew; have X1 := Aside0.mk hbox; have z0 := (blk_cell hbox 0).trans rfl; have z1 := (blk_cell hbox 1).trans rfl; have z2 := (blk_cell hbox 2).trans rfl; have z3 := (blk_cell hbox 3).trans rfl; have z4 := (blk_cell hbox 4).trans rfl; have z5 := (blk_cell hbox 5).trans rfl; have z6 := (blk_cell hbox 6).trans rfl; clear hbox hb hgb)
    | go_in)
  go_region_with (first
    | (go_at_call 10; (with_reducible refine (CD.out H1d.out).mono ?_); rintro e w2 ⟨rfl, hT, hB⟩; have H2 := Aside0.mk hT; have B2 := Aside0.mk hB; have X2 := Aside0.mk (hT.at (List.mem_cons_self ..)); have y0 := (blk_cell X2.out 0).trans rfl; have y1 := (blk_cell X2.out 1).trans rfl; have y2 := (blk_cell X2.out 2).trans rfl; have y3 := (blk_cell X2.out 3).trans rfl; have y4 := (blk_cell X2.out 4).trans rfl; have y5 := (blk_cell X2.out 5).trans rfl; have y6 := (blk_cell X2.out 6).trans rfl; clear hT hB)
    | (go_at_call 29; (with_reducible refine (CR.out H2.out).mono ?_); rintro e w3 ⟨rfl, hT, hB⟩; have H3 := Aside0.mk hT; have B3 := Aside0.mk hB; clear hT hB))
  all_goals (
    go_wp2
    go_ret
    have hB1 := H.out.size
    exact ⟨rfl, ⟨_, _, _, H3.out.less (fun _ hp => (List.not_mem_nil hp).elim), HFit.out⟩, ((B1.out.mono hB1).trans B2.out).trans B3.out⟩)
end
end Go.Proofs.Ytokienfegjlocaa.Rf

/- A deed with both disks, walked. -/
namespace Go.Proofs.Ytokienfegjlocaa.Rf
open Go.RowKit Go.Maps Go.Sort Go.Proofs.YtokienfegjlocaaW.PrintWords Go.Proofs.Ytokienfegjlocaa.PRef Go.Proofs.Ytokienfegjlocaa.Dk

section
variable {W0 w : World} {d m : Nat} {S : DS} {R : RS} {φ : List Nat} {n : Nat}
set_option maxRecDepth 100000 in
set_option maxHeartbeats 40000000 in
theorem do4 (h : Two [] W0.heap.size w d m S R) (hF : Fit S R φ n) (a b : ByteArray) (sz names : Int) (Af Ab : Option Addr) (lf cf lb cb : Nat) (hle : n + a.size + b.size + 2 ≤ 8388608) :
    Calls Try.prog 18 #[.pointer (some ⟨d, 0, none⟩), .pointer (some ⟨m, 0, none⟩), deedV 4 a b sz Af lf cf names Ab lb cb] w fun e w' => e = .returned (.bool true) ∧ Done W0 w w' d m (n + a.size + b.size + 2) := by
  unfold deedV
  have H := Aside0.mk h
  obtain ⟨hs, he⟩ := remove_sim hF.sim a
  have hS : SmallS (S.remove a).1 (n + a.size + b.size + 2) := (hF.s.remove a).mono (by omega)
  have hR : SmallR (R.removeR a).1 (n + a.size + b.size + 2) := (hF.r.remove a).mono (by omega)
  obtain ⟨S', r1, hp⟩ : ∃ S1 q1, S.remove a = (S1, q1) := ⟨_, _, rfl⟩
  have CD : Aside0 (∀ {X : List (Nat × Obj)} {w1 : World}, Two X W0.heap.size w1 d m S R → Calls Try.prog 21 #[.pointer (some ⟨d, 0, none⟩), .string a] w1 fun e w' => e = .returned (.int .i64 r1) ∧ Two X W0.heap.size w' d m S' R ∧ Below W0.heap.size w1 w') := ⟨fun h1 => by have q := remove_two h1 hF a (by omega); rw [hp] at q; exact q⟩
  have CR : Aside0 (∀ {X : List (Nat × Obj)} {w1 : World}, Two X W0.heap.size w1 d m S' R → Calls Try.prog 31 #[.pointer (some ⟨m, 0, none⟩), .string a] w1 fun e w' => e = .returned (.int .i64 r1) ∧ Two X W0.heap.size w' d m S' (R.removeR a).1 ∧ Below W0.heap.size w1 w') := ⟨fun h1 => by have q := remove_twoR hF h1 a; rw [← he, hp] at q; exact q⟩
  rw [hp] at hs hS
  have HFit : Aside0 (Fit S' (R.removeR a).1 φ (n + a.size + b.size + 2)) := ⟨⟨hs, hS, hR, hle⟩⟩
  clear h hF hle hs he hS hR hp
  go_enter Try.func18, Try.ntmps18
  go_wp2_with (first
    | ((with_reducible refine gate_dst (N := 5) rfl ?_); refine box_event ?hg (N := 5) ?hd (cs := #[.int .i64 4, .string a, .string b, .int .i64 sz, .slice Af lf cf, .int .i64 names, .slice Ab lb cb]) (t := 55) ?hr ?_; (case hd => rfl); (case hg => rfl); (case hr => first | (go_simp; done) | (go_simp; rfl)); intro g hgb w1 hbox hb; have H1 := Aside0.mk (H.out.new hb (Nat.le_of_eq hgb.symm) hbox); have B1 := Aside0.mk (below_drew1 hb); have H1d := Aside0.mk H1.out.drew; have X1 := Aside0.mk hbox; have z0 := (blk_cell hbox 0).trans rfl; have z1 := (blk_cell hbox 1).trans rfl; have z2 := (blk_cell hbox 2).trans rfl; have z3 := (blk_cell hbox 3).trans rfl; have z4 := (blk_cell hbox 4).trans rfl; have z5 := (blk_cell hbox 5).trans rfl; have z6 := (blk_cell hbox 6).trans rfl; clear hbox hb hgb)
    | go_in)
  go_region_with (first
    | (go_at_call 21; (with_reducible refine (CD.out H1d.out).mono ?_); rintro e w2 ⟨rfl, hT, hB⟩; have H2 := Aside0.mk hT; have B2 := Aside0.mk hB; have X2 := Aside0.mk (hT.at (List.mem_cons_self ..)); have y0 := (blk_cell X2.out 0).trans rfl; have y1 := (blk_cell X2.out 1).trans rfl; have y2 := (blk_cell X2.out 2).trans rfl; have y3 := (blk_cell X2.out 3).trans rfl; have y4 := (blk_cell X2.out 4).trans rfl; have y5 := (blk_cell X2.out 5).trans rfl; have y6 := (blk_cell X2.out 6).trans rfl; clear hT hB)
    | (go_at_call 31; (with_reducible refine (CR.out H2.out).mono ?_); rintro e w3 ⟨rfl, hT, hB⟩; have H3 := Aside0.mk hT; have B3 := Aside0.mk hB; clear hT hB))
  all_goals (
    go_wp2
    go_ret
    have hB1 := H.out.size
    exact ⟨rfl, ⟨_, _, _, H3.out.less (fun _ hp => (List.not_mem_nil hp).elim), HFit.out⟩, ((B1.out.mono hB1).trans B2.out).trans B3.out⟩)
end
end Go.Proofs.Ytokienfegjlocaa.Rf

/- A deed with both disks, walked. -/
namespace Go.Proofs.Ytokienfegjlocaa.Rf
open Go.RowKit Go.Maps Go.Sort Go.Proofs.YtokienfegjlocaaW.PrintWords Go.Proofs.Ytokienfegjlocaa.PRef Go.Proofs.Ytokienfegjlocaa.Dk

section
variable {W0 w : World} {d m : Nat} {S : DS} {R : RS} {φ : List Nat} {n : Nat}
set_option maxRecDepth 100000 in
set_option maxHeartbeats 40000000 in
theorem do5 (h : Two [] W0.heap.size w d m S R) (hF : Fit S R φ n) (a b : ByteArray) (sz names : Int) (Af Ab : Option Addr) (lf cf lb cb : Nat) (hle : n + a.size + b.size + 2 ≤ 8388608) :
    Calls Try.prog 18 #[.pointer (some ⟨d, 0, none⟩), .pointer (some ⟨m, 0, none⟩), deedV 5 a b sz Af lf cf names Ab lb cb] w fun e w' => e = .returned (.bool true) ∧ Done W0 w w' d m (n + a.size + b.size + 2) := by
  unfold deedV
  have H := Aside0.mk h
  obtain ⟨hs, he⟩ := syncNames_sim hF.sim
  have hS : SmallS (S.syncNames).1 (n + a.size + b.size + 2) := (hF.s.syncNames).mono (by omega)
  have hR : SmallR (R.syncNamesR).1 (n + a.size + b.size + 2) := (hF.r.syncNames).mono (by omega)
  obtain ⟨S', r1, hp⟩ : ∃ S1 q1, S.syncNames = (S1, q1) := ⟨_, _, rfl⟩
  have CD : Aside0 (∀ {X : List (Nat × Obj)} {w1 : World}, Two X W0.heap.size w1 d m S R → Calls Try.prog 11 #[.pointer (some ⟨d, 0, none⟩)] w1 fun e w' => e = .returned (.int .i64 r1) ∧ Two X W0.heap.size w' d m S' R ∧ Below W0.heap.size w1 w') := ⟨fun h1 => by have q := syncNames_two h1 hF; rw [hp] at q; exact q⟩
  have CR : Aside0 (∀ {X : List (Nat × Obj)} {w1 : World}, Two X W0.heap.size w1 d m S' R → Calls Try.prog 32 #[.pointer (some ⟨m, 0, none⟩)] w1 fun e w' => e = .returned (.int .i64 r1) ∧ Two X W0.heap.size w' d m S' (R.syncNamesR).1 ∧ Below W0.heap.size w1 w') := ⟨fun h1 => by have q := syncNames_twoR hF h1; rw [← he, hp] at q; exact q⟩
  rw [hp] at hs hS
  have HFit : Aside0 (Fit S' (R.syncNamesR).1 φ (n + a.size + b.size + 2)) := ⟨⟨hs, hS, hR, hle⟩⟩
  clear h hF hle hs he hS hR hp
  go_enter Try.func18, Try.ntmps18
  go_wp2_with (first
    | ((with_reducible refine gate_dst (N := 5) rfl ?_); refine box_event ?hg (N := 5) ?hd (cs := #[.int .i64 5, .string a, .string b, .int .i64 sz, .slice Af lf cf, .int .i64 names, .slice Ab lb cb]) (t := 55) ?hr ?_; (case hd => rfl); (case hg => rfl); (case hr => first | (go_simp; done) | (go_simp; rfl)); intro g hgb w1 hbox hb; have H1 := Aside0.mk (H.out.new hb (Nat.le_of_eq hgb.symm) hbox); have B1 := Aside0.mk hb; have X1 := Aside0.mk hbox; have z0 := (blk_cell hbox 0).trans rfl; have z1 := (blk_cell hbox 1).trans rfl; have z2 := (blk_cell hbox 2).trans rfl; have z3 := (blk_cell hbox 3).trans rfl; have z4 := (blk_cell hbox 4).trans rfl; have z5 := (blk_cell hbox 5).trans rfl; have z6 := (blk_cell hbox 6).trans rfl; clear hbox hb hgb)
    | (go_at_call 11; (with_reducible refine (CD.out H1.out).mono ?_); rintro e w2 ⟨rfl, hT, hB⟩; have H2 := Aside0.mk hT; have B2 := Aside0.mk hB; clear z0 z1 z2 z3 z4 z5 z6; have X2 := Aside0.mk (hT.at (List.mem_cons_self ..)); have y0 := (blk_cell X2.out 0).trans rfl; have y1 := (blk_cell X2.out 1).trans rfl; have y2 := (blk_cell X2.out 2).trans rfl; have y3 := (blk_cell X2.out 3).trans rfl; have y4 := (blk_cell X2.out 4).trans rfl; have y5 := (blk_cell X2.out 5).trans rfl; have y6 := (blk_cell X2.out 6).trans rfl; clear hT hB)
    | (go_at_call 32; (with_reducible refine (CR.out H2.out).mono ?_); rintro e w3 ⟨rfl, hT, hB⟩; have H3 := Aside0.mk hT; have B3 := Aside0.mk hB; clear hT hB)
    | go_in)
  go_ret
  have hB1 := H.out.size
  exact ⟨rfl, ⟨_, _, _, H3.out.less (fun _ hp => (List.not_mem_nil hp).elim), HFit.out⟩, ((B1.out.mono hB1).trans B2.out).trans B3.out⟩
end
end Go.Proofs.Ytokienfegjlocaa.Rf

/- Deeds with both disks, walked: Crash, Read. -/
namespace Go.Proofs.Ytokienfegjlocaa.Rf
open Go.RowKit Go.Maps Go.Sort Go.Proofs.YtokienfegjlocaaW.PrintWords Go.Proofs.Ytokienfegjlocaa.PRef Go.Proofs.Ytokienfegjlocaa.Dk

section
variable {W0 w : World} {d m : Nat} {S : DS} {R : RS} {φ : List Nat} {n : Nat}
theorem ints_below {w0 w1 : World} {v : Value} {l : List Int} (h : IntsAt w0 v l) (hb : Below w0.heap.size w0 w1) : IntsAt w1 v l := by
  obtain ⟨A, c, rfl, hc⟩ := h
  refine ⟨A, c, rfl, fun i x hx => ?_⟩
  obtain ⟨b, o, hA, hcell⟩ := hc i x hx
  exact ⟨b, o, hA, (hb.cell (p := ⟨b, o + i, none⟩) (World.block_lt_of_cell? w0 _ hcell)).trans hcell⟩
theorem ints_lt {w0 : World} {v : Value} {l : List Int} (h : IntsAt w0 v l) : l ≠ [] → ∀ k, v.ownBlock = some k → k < w0.heap.size := by
  intro hl k hk
  obtain ⟨A, c, rfl, hc⟩ := h
  obtain ⟨x, hx, _⟩ := go_get l 0 hl
  obtain ⟨b, o, hA, hcell⟩ := hc _ x hx
  subst hA
  obtain rfl : b = k := by simpa [Value.ownBlock] using hk
  exact World.block_lt_of_cell? w0 _ hcell
set_option maxRecDepth 100000 in
set_option maxHeartbeats 2000000 in
theorem do7 (hW : Below W0.heap.size W0 w) (h : Two [] W0.heap.size w d m S R) (hF : Fit S R φ n) (a b : ByteArray) (sz names : Int) (Af Ab : Option Addr) (lf cf cb : Nat) (by_ : List Int) (hI : IntsAt W0 (.slice Ab by_.length cb) by_) :
    Calls Try.prog 18 #[.pointer (some ⟨d, 0, none⟩), .pointer (some ⟨m, 0, none⟩), deedV 7 a b sz Af lf cf names Ab by_.length cb] w fun e w' => e = .returned (.bool true) ∧ Done W0 w w' d m n := by
  unfold deedV
  have H := Aside0.mk h
  obtain ⟨S', φ', hc, hs⟩ := crash_sim hF.sim names by_
  have hS : SmallS S' n := hF.s.crash hc (by rw [hs.made]; show R.made ≤ _; rw [← hF.sim.made]; exact hF.s.steps)
  have hR : SmallR (R.crashR names by_) n := hF.r.crash hF.sim.nok names by_
  have HFit : Aside0 (Fit S' (R.crashR names by_) φ' n) := ⟨⟨hs, hS, hR, hF.le⟩⟩
  have HW := Aside0.mk hW
  obtain ⟨lb, hlb⟩ : ∃ lb, lb = by_.length := ⟨_, rfl⟩
  have CD : Aside0 (∀ {X : List (Nat × Obj)} {w1 : World}, Below W0.heap.size W0 w1 → Two X W0.heap.size w1 d m S R → Calls Try.prog 13 #[.pointer (some ⟨d, 0, none⟩), .agg #[.int .i64 names, .slice Ab lb cb]] w1 fun e w' => e = .returned (.tuple #[]) ∧ Two X W0.heap.size w' d m S' R ∧ Below W0.heap.size w1 w') := ⟨fun hb h1 => by rw [hlb]; exact crash_two h1 hF names by_ (ints_below hI hb) (ints_lt hI) hc⟩
  have CR : Aside0 (∀ {X : List (Nat × Obj)} {w1 : World}, Below W0.heap.size W0 w1 → Two X W0.heap.size w1 d m S' R → Calls Try.prog 35 #[.pointer (some ⟨m, 0, none⟩), .agg #[.int .i64 names, .slice Ab lb cb]] w1 fun e w' => e = .returned (.tuple #[]) ∧ Two X W0.heap.size w' d m S' (R.crashR names by_) ∧ Below W0.heap.size w1 w') := ⟨fun hb h1 => by rw [hlb]; exact crash_twoR hF h1 names by_ (ints_below hI hb)⟩
  rw [← hlb]
  clear h hF hs hS hR hc hI hlb hW
  go_enter Try.func18, Try.ntmps18
  go_wp2_with (first
    | ((with_reducible refine gate_dst (N := 5) rfl ?_); refine box_event ?hg (N := 5) ?hd (cs := #[.int .i64 7, .string a, .string b, .int .i64 sz, .slice Af lf cf, .int .i64 names, .slice Ab lb cb]) (t := 55) ?hr ?_; (case hd => rfl); (case hg => rfl); (case hr => first | (go_simp; done) | (go_simp; rfl)); intro g hgb w1 hbox hb; have H1 := Aside0.mk (H.out.new hb (Nat.le_of_eq hgb.symm) hbox); have B1 := Aside0.mk (HW.out.trans (hb.mono H.out.size)); have Bq := Aside0.mk hb; have z0 := (blk_cell hbox 0).trans rfl; have z5 := (blk_cell hbox 5).trans rfl; have z6 := (blk_cell hbox 6).trans rfl; clear hbox hb hgb)
    | (go_at_call 13; (with_reducible refine (CD.out B1.out H1.out).mono ?_); rintro e w2 ⟨rfl, hT, hB⟩; have H2 := Aside0.mk hT; have B2 := Aside0.mk (B1.out.trans hB); have Bq2 := Aside0.mk hB; clear z0 z5 z6; have X2 := Aside0.mk (hT.at (List.mem_cons_self ..)); have z5 := (blk_cell X2.out 5).trans rfl; have z6 := (blk_cell X2.out 6).trans rfl; clear hT hB)
    | (go_at_call 35; (with_reducible refine (CR.out B2.out H2.out).mono ?_); rintro e w3 ⟨rfl, hT, hB⟩; have H3 := Aside0.mk hT; have B3 := Aside0.mk hB; clear hT hB)
    | go_in)
  go_ret
  have hB1 := H.out.size
  exact ⟨rfl, ⟨_, _, _, H3.out.less (fun _ hp => (List.not_mem_nil hp).elim), HFit.out⟩, ((Bq.out.mono hB1).trans Bq2.out).trans B3.out⟩
set_option maxRecDepth 100000 in
set_option maxHeartbeats 2000000 in
theorem do8 (h : Two [] W0.heap.size w d m S R) (hF : Fit S R φ n) (kind : Int) (hk : kind < 0 ∨ 7 < kind) (a b : ByteArray) (sz names : Int) (Af Ab : Option Addr) (lf cf lb cb : Nat) (hle : a.size ≤ 8388608) :
    Calls Try.prog 18 #[.pointer (some ⟨d, 0, none⟩), .pointer (some ⟨m, 0, none⟩), deedV kind a b sz Af lf cf names Ab lb cb] w fun e w' => e = .returned (.bool true) ∧ Done W0 w w' d m n := by
  unfold deedV
  have H := Aside0.mk h
  have HFit := Aside0.mk hF
  have hr := read_sim hF.sim a
  obtain ⟨s1, e1, hp⟩ : ∃ s1 e1, S.read a = (s1, e1) := ⟨_, _, rfl⟩
  have CD : Aside0 (∀ {X : List (Nat × Obj)} {w1 : World}, Two X W0.heap.size w1 d m S R → Calls Try.prog 14 #[.pointer (some ⟨d, 0, none⟩), .string a] w1 fun e w' => e = .returned (.tuple #[.string s1, .int .i64 e1]) ∧ w' = w1) := ⟨fun h1 => by have q := read_two h1 a hle; rw [hp] at q; exact q⟩
  have CR : Aside0 (∀ {X : List (Nat × Obj)} {w1 : World}, Two X W0.heap.size w1 d m S R → Calls Try.prog 36 #[.pointer (some ⟨m, 0, none⟩), .string a] w1 fun e w' => e = .returned (.tuple #[.string s1, .int .i64 e1]) ∧ Drawn0 w1 w') := ⟨fun h1 => by have q := read_twoR hF h1 a; rw [← hr, hp] at q; exact q⟩
  have k0 : (kind == 0) = false := by simp; omega
  have k1 : (kind == 1) = false := by simp; omega
  have k2 : (kind == 2) = false := by simp; omega
  have k3 : (kind == 3) = false := by simp; omega
  have k4 : (kind == 4) = false := by simp; omega
  have k5 : (kind == 5) = false := by simp; omega
  have k6 : (kind == 6) = false := by simp; omega
  have k7 : (kind == 7) = false := by simp; omega
  clear h hF hr hp hk hle
  go_enter Try.func18, Try.ntmps18
  go_wp2_with (first
    | ((with_reducible refine gate_dst (N := 5) rfl ?_); refine box_event ?hg (N := 5) ?hd (cs := #[.int .i64 kind, .string a, .string b, .int .i64 sz, .slice Af lf cf, .int .i64 names, .slice Ab lb cb]) (t := 55) ?hr ?_; (case hd => rfl); (case hg => rfl); (case hr => first | (go_simp; done) | (go_simp; rfl)); intro g hgb w1 hbox hb; have H1 := Aside0.mk (H.out.new hb (Nat.le_of_eq hgb.symm) hbox); have B1 := Aside0.mk hb; have z0 := (blk_cell hbox 0).trans rfl; have z1 := (blk_cell hbox 1).trans rfl; clear hbox hb hgb)
    | (go_at_call 14; (with_reducible refine (CD.out H1.out).mono ?_); rintro e w2 ⟨rfl, rfl⟩)
    | (go_at_call 36; (with_reducible refine (CR.out H1.out).mono ?_); rintro e w3 ⟨rfl, ⟨nd, rfl⟩⟩)
    | go_in)
  go_ret
  have hB1 := H.out.size
  exact ⟨rfl, ⟨_, _, _, (H1.out.drewN nd).less (fun _ hp => (List.not_mem_nil hp).elim), HFit.out⟩, pw_below_drewN (B1.out.mono hB1) nd⟩
end
end Go.Proofs.Ytokienfegjlocaa.Rf

/- A deed with both disks, walked: Plan. -/
namespace Go.Proofs.Ytokienfegjlocaa.Rf
open Go.RowKit Go.Maps Go.Sort Go.Proofs.YtokienfegjlocaaW.PrintWords Go.Proofs.Ytokienfegjlocaa.PRef Go.Proofs.Ytokienfegjlocaa.Dk

section
variable {W0 w : World} {d m : Nat} {S : DS} {R : RS} {φ : List Nat} {n : Nat}
theorem r41_own {w : World} {base : Nat} {ok : Nat → Prop} {v : Value} {l : List S41} (h : Kd.R k41 41 w base ok v l) : Kd.R k41 41 w base (fun k => v.ownBlock = some k) v l := by
  obtain ⟨h0, inner, ho, hr⟩ := h
  exact ⟨fun k hk => hk, inner, ho, ⟨hr.1, fun j p hj => by
    have := hr.2 j p hj
    have e := k41_openM this
    show k41.M w base _ p ((inner.drop (j * 3)).take 3)
    rw [show (inner.drop (j * 3)).take 3 = [.int .i64 p.f0, .int .i64 p.f1, .int .i64 p.f2] from e]
    exact k41_mkM _ _ _ p⟩⟩
theorem Two.poke {B : Nat} {g : Nat} {cs : Array Value} {t : TypeId} (h : Two [(g, .cells cs t (0, 0))] B w d m S R) (j : Nat) (u : Value) : Two [(g, .cells (cs.setIfInBounds j u) t (0, 0))] B (w.setCell ⟨g, j, none⟩ u) d m S R := by
  obtain ⟨own, mb, bs, vo, vp, rown, v0, v1, v2, v3, v4, hA, hR, hd, ho, hr, hx⟩ := h
  obtain ⟨x1, x2, x3⟩ := hx _ (List.mem_cons_self ..)
  exact ⟨own, mb, bs, vo, vp, rown, v0, v1, v2, v3, v4, hA.move (by rw [size_set]; exact Nat.le_refl _) (fun k hk => heap_set_ne (fun (e : k = g) => x2 (by rw [← e]; exact hk)) u), hR.far x3 j u, hd, ho, hr, fun p hp => by
    rcases List.mem_cons.1 hp with rfl | hp
    · exact ⟨blk_set (show w.heap[g]? = some (.cells cs t (0, 0)) from x1) j u, x2, x3⟩
    · exact (List.not_mem_nil hp).elim⟩
/-- the block of a row of faults -/
theorem row_blk {w : World} {base : Nat} {ok : Nat → Prop} {v : Value} {l : List S41} (h : Kd.R k41 41 w base ok v l) (hl : 0 < l.length) : ∃ g c cs, v = .slice (some ⟨g, 0, none⟩) l.length c ∧ w.heap[g]? = some (.cells cs 41 (0, 0)) ∧ base ≤ g ∧ l.length * 3 ≤ cs.size := by
  obtain ⟨g, c, rfl, hb, hg, cs, hc⟩ := Kd.R_form h hl
  refine ⟨g, c, cs, rfl, hc, hb, ?_⟩
  obtain ⟨x, hx⟩ : ∃ x, l[l.length - 1]? = some x := ⟨_, List.getElem?_eq_getElem (by omega)⟩
  obtain ⟨g2, c2, cl, he, _, _, hcl, hce⟩ := row_at h hx
  cases he
  have hcl2 := k41_open hcl
  subst hcl2
  have h2 := hce 2 _ rfl
  rw [show k41.sz = 3 from rfl] at h2
  have h3 := blk_cell hc ((l.length - 1) * 3 + 2)
  rw [h2] at h3
  have h4 := (Array.getElem?_eq_some_iff.1 h3.symm).1
  omega
set_option maxRecDepth 100000 in
set_option maxHeartbeats 4000000 in
theorem do6 (hW : Below W0.heap.size W0 w) (h : Two [] W0.heap.size w d m S R) (hF : Fit S R φ n) (a b : ByteArray) (sz names : Int) (Af Ab : Option Addr) (cf lb cb : Nat) (fl : List S41) (hC : Kd.C k41 W0 Af fl.length fl) (hcf : fl.length ≤ cf) (hle : n + fl.length ≤ 8388608) :
    Calls Try.prog 18 #[.pointer (some ⟨d, 0, none⟩), .pointer (some ⟨m, 0, none⟩), deedV 6 a b sz Af fl.length cf names Ab lb cb] w fun e w' => e = .returned (.bool true) ∧ Done W0 w w' d m (n + fl.length) := by
  unfold deedV
  have H := Aside0.mk h
  have HW := Aside0.mk hW
  obtain ⟨l2, hl2⟩ : ∃ l2, l2 = fl.map (laterF R.made) := ⟨_, rfl⟩
  have hlen : l2.length = fl.length := by rw [hl2, List.length_map]
  obtain ⟨hs, he⟩ := plan_sim hF.sim l2
  have hS : SmallS (S.planned (l2.map toF)).1 (n + fl.length) := (hF.s.plan _).mono (by omega)
  have hR : SmallR (R.planR l2).1 (n + fl.length) := (hF.r.plan _).mono (by omega)
  obtain ⟨S', r1, hp⟩ : ∃ S' r1, S.planned (l2.map toF) = (S', r1) := ⟨_, _, rfl⟩
  have HL : Aside0 (∀ {w1 : World}, Below W0.heap.size W0 w1 → Calls Try.prog 33 #[.slice Af fl.length cf, .int .i64 R.made] w1 fun e w' => ∃ v, e = .returned v ∧ Kd.R k41 41 w' w1.heap.size (fun _ => True) v l2 ∧ Below w1.heap.size w1 w') :=
    ⟨fun hb => lodestarlaw02_later.calls (fl.length + 1) Af cf fl R.made l2 _ (Kd.C_below hC hb) hcf (by rw [hl2]; exact later_f fl R.made hF.sim.pos (by have := hF.s.steps; have := hF.sim.made; have := hF.le; omega) (by have := hF.le; omega))⟩
  have CD : Aside0 (∀ {X : List (Nat × Obj)} {w1 : World} {base : Nat} {ok : Nat → Prop} {v : Value}, Kd.R k41 41 w1 base ok v l2 → Two X W0.heap.size w1 d m S R → Calls Try.prog 16 #[.pointer (some ⟨d, 0, none⟩), v] w1 fun e w' => e = .returned (.int .i64 r1) ∧ Two X W0.heap.size w' d m S' R ∧ Below W0.heap.size w1 w') := ⟨fun hv h1 => by have q := plan_two h1 hv; rw [hp] at q; exact q⟩
  have CR : Aside0 (∀ {X : List (Nat × Obj)} {w1 : World} {base : Nat} {ok : Nat → Prop} {v : Value}, Kd.R k41 41 w1 base ok v l2 → Two X W0.heap.size w1 d m S' R → Calls Try.prog 34 #[.pointer (some ⟨m, 0, none⟩), v] w1 fun e w' => e = .returned (.int .i64 r1) ∧ Two X W0.heap.size w' d m S' (R.planR l2).1 ∧ Below W0.heap.size w1 w') := ⟨fun hv h1 => by have q := plan_twoR h1 hv; rw [← he, hp] at q; exact q⟩
  rw [hp] at hs hS
  have HFit : Aside0 (Fit S' (R.planR l2).1 φ (n + fl.length)) := ⟨⟨hs, hS, hR, hle⟩⟩
  have HLE : Aside0 (l2.length ≤ 8388608) := ⟨by omega⟩
  clear h hF hs hS hR hp hC hcf hle hl2 he hW hlen
  go_enter Try.func18, Try.ntmps18
  go_wp2_with (first
    | ((with_reducible refine gate_dst (N := 5) rfl ?_); refine box_event ?hg (N := 5) ?hd (cs := #[.int .i64 6, .string a, .string b, .int .i64 sz, .slice Af fl.length cf, .int .i64 names, .slice Ab lb cb]) (t := 55) ?hr ?_; (case hd => rfl); (case hg => rfl); (case hr => first | (go_simp; done) | (go_simp; rfl)); intro g hgb w1 hbox hb; have H1 := Aside0.mk (H.out.below hb); have H1d := Aside0.mk H1.out.drew; have B1 := Aside0.mk (below_drew1 (HW.out.trans (hb.mono H.out.size))); have Bq := Aside0.mk (below_drew1 hb); have HLd := Aside0.mk (HL.out B1.out); have z0 := (blk_cell hbox 0).trans rfl; have z4 := (blk_cell hbox 4).trans rfl; have k5 := H1.out.madeCell; clear hbox hb hgb)
    | go_in)
  go_region_with (go_at_call 33; (with_reducible refine (HLd.out).mono ?_); rintro e w2 ⟨v2, rfl, hR2, hb2⟩; obtain ⟨A2, c2, rfl⟩ := Kd.R_slice hR2; have R2 := Aside0.mk hR2; have B2 := Aside0.mk hb2; have H2 := Aside0.mk (H1d.out.below hb2); clear hR2 hb2 z0 z4 k5)
  all_goals (
    have hB1 : W0.heap.size ≤ w1.drew.heap.size := B1.out.size
    have BQ2 : Aside0 (Below W0.heap.size w w2) := ⟨(Bq.out.mono H.out.size).trans (B2.out.mono hB1)⟩
    rcases Nat.eq_zero_or_pos l2.length with h0 | h0
    · have hd0 : decide ((0 : Int) < (l2.length : Int)) = false := by rw [h0]; rfl
      have hd2 : decide (0 < l2.length) = false := by rw [h0]; rfl
      obtain ⟨X, hX, hXR⟩ : ∃ X, Two X W0.heap.size w2 d m S R ∧ ∀ {w3 : World} {S3 : DS} {R3 : RS}, Two X W0.heap.size w3 d m S3 R3 → Kd.R k41 41 w3 w1.drew.heap.size (fun k => (Value.slice A2 l2.length c2).ownBlock = some k) (.slice A2 l2.length c2) l2 := by
        cases hown : (Value.slice A2 l2.length c2).ownBlock with
        | none => exact ⟨[], H2.out, fun {w3 _ _} _ => by
            have q := Kd.R_move (w1 := w3) (r41_own R2.out) (fun k hk => by rw [hown] at hk; cases hk)
            rw [hown] at q; exact q⟩
        | some k =>
          obtain ⟨cs, hc⟩ := Kd.R_typed R2.out k hown
          exact ⟨[(k, .cells cs 41 (0, 0))], H1d.out.new B2.out (Kd.R_base R2.out k hown) hc, fun {w3 _ _} h3 => by
            have q := Kd.R_move (w1 := w3) (r41_own R2.out) (fun k2 hk => by
              rw [hown] at hk
              obtain rfl : k = k2 := Option.some.inj hk
              exact (h3.at (List.mem_cons_self ..)).trans hc.symm)
            rw [hown] at q; exact q⟩
      have HX := Aside0.mk hX
      have HXR : Aside0 (∀ {w3 : World} {S3 : DS} {R3 : RS}, Two X W0.heap.size w3 d m S3 R3 → Kd.R k41 41 w3 w1.drew.heap.size (fun k => (Value.slice A2 l2.length c2).ownBlock = some k) (.slice A2 l2.length c2) l2) := ⟨hXR⟩
      clear h0 hB1 hX hXR
      go_wp2_with (first
        | (go_at_call 16; (with_reducible refine (CD.out R2.out HX.out).mono ?_); rintro e w3 ⟨rfl, hT, hB⟩; have H3 := Aside0.mk hT; have B3 := Aside0.mk hB; have R3 := Aside0.mk (HXR.out hT); clear hT hB)
        | (go_at_call 34; (with_reducible refine (CR.out R3.out H3.out).mono ?_); rintro e w4 ⟨rfl, hT, hB⟩; have H4 := Aside0.mk hT; have B4 := Aside0.mk hB; clear hT hB)
        | go_in)
      go_loopw [14] (fun vi wr => vi = .int .i64 0 ∧ Aside0 (wr = w4)) (fun _ _ => 0)
      case atStart => exact ⟨rfl, ⟨rfl⟩⟩
      case round =>
        obtain ⟨rfl, hw⟩ := hrel
        go_wp2
        go_ret
        rw [hw.out]
        exact ⟨rfl, ⟨_, _, _, H4.out.less (fun _ hp => (List.not_mem_nil hp).elim), HFit.out⟩, (BQ2.out.trans B3.out).trans B4.out⟩
    · obtain ⟨gl, c3, cs0, he, hbk, hge, hcs⟩ := row_blk R2.out h0
      cases he
      have H2n : Aside0 (Two [(gl, .cells cs0 41 (0, 0))] W0.heap.size w2 d m S R) := ⟨H1d.out.new B2.out hge hbk⟩
      have HGB : Aside0 (W0.heap.size ≤ gl) := ⟨by omega⟩
      have HCS := Aside0.mk hcs
      have HBK := Aside0.mk hbk
      clear h0 hB1 hbk hge hcs
      go_wp2_with (first
        | (go_at_call 16; (with_reducible refine (CD.out R2.out H2n.out).mono ?_); rintro e w3 ⟨rfl, hT, hB⟩; have H3 := Aside0.mk hT; have B3 := Aside0.mk hB; have E3 := Aside0.mk (hT.at (List.mem_cons_self ..)); have R3 := Aside0.mk (Kd.R_move (w1 := w3) (r41_own R2.out) (fun k hk => by obtain rfl : gl = k := Option.some.inj hk; exact E3.out.trans HBK.out.symm)); clear hT hB)
        | (go_at_call 34; (with_reducible refine (CR.out R3.out H3.out).mono ?_); rintro e w4 ⟨rfl, hT, hB⟩; have H4 := Aside0.mk hT; have B4 := Aside0.mk hB; clear hT hB)
        | go_in)
      go_loopw [14] (fun vi wr => ∃ (i : Nat) (cs : Array Value), vi = .int .i64 i ∧ i ≤ l2.length ∧ Aside0 (Two [(gl, .cells cs 41 (0, 0))] W0.heap.size wr d m S' (R.planR l2).1) ∧ Aside0 (l2.length * 3 ≤ cs.size) ∧ Aside0 (Below W0.heap.size w4 wr)) (fun vi _ => l2.length - (intOf vi).toNat)
      case atStart => exact ⟨0, cs0, rfl, Nat.zero_le _, H4, HCS, ⟨Below.refl _ _⟩⟩
      case round =>
        obtain ⟨i, cs, rfl, hi, HT, HS, HB⟩ := hrel
        by_cases ht : i < l2.length
        · have hd1 : decide ((i : Int) < (l2.length : Int)) = true := by simpa using ht
          have hbk := HT.out.at (List.mem_cons_self ..)
          have hq := HS.out
          obtain ⟨u0, e0⟩ : ∃ u, cs[i * 3]? = some u := ⟨_, Array.getElem?_eq_getElem (by omega)⟩
          obtain ⟨u1, e1⟩ : ∃ u, cs[i * 3 + 1]? = some u := ⟨_, Array.getElem?_eq_getElem (by omega)⟩
          obtain ⟨u2, e2⟩ : ∃ u, cs[i * 3 + 2]? = some u := ⟨_, Array.getElem?_eq_getElem (by omega)⟩
          have y0 := (blk_cell hbk (i * 3)).trans e0
          have y1 := (blk_cell hbk (i * 3 + 1)).trans e1
          have y2 := (blk_cell hbk (i * 3 + 2)).trans e2
          have yf0 := blk_frozen hbk (i * 3)
          have yf1 := blk_frozen hbk (i * 3 + 1)
          have yf2 := blk_frozen hbk (i * 3 + 2)
          have hlx := HLE.out
          clear e0 e1 e2 hbk hq
          go_wp2
          have hms := meas ht
          exact ⟨⟨i + 1, _, by simp, by omega, ⟨((HT.out.poke (i * 3) (.int .i64 1)).poke (i * 3 + 1) (.int .i64 3)).poke (i * 3 + 2) (.int .i64 0)⟩, ⟨by simp only [Array.size_setIfInBounds]; exact HS.out⟩, ⟨((HB.out.setCell HGB.out _).setCell HGB.out _).setCell HGB.out _⟩⟩, by simpa [intOf] using hms⟩
        · have hd1 : decide ((i : Int) < (l2.length : Int)) = false := by simpa using ht
          go_wp2
          go_ret
          exact ⟨rfl, ⟨_, _, _, HT.out.less (fun _ hp => (List.not_mem_nil hp).elim), HFit.out⟩, ((BQ2.out.trans B3.out).trans B4.out).trans HB.out⟩)
end
end Go.Proofs.Ytokienfegjlocaa.Rf

/- Do both disks tell the same? Walked. -/
namespace Go.Proofs.Ytokienfegjlocaa.Rf
open Go.RowKit Go.Maps Go.Sort Go.Proofs.YtokienfegjlocaaW.PrintWords Go.Proofs.Ytokienfegjlocaa.PRef Go.Proofs.Ytokienfegjlocaa.Dk

section
variable {B : Nat} {w : World} {d m : Nat} {S : DS} {R : RS} {φ : List Nat} {n : Nat} {X : List (Nat × Obj)}
theorem read_in (h : Two X B w d m S R) {name : ByteArray} (hn : name.data.toList ∈ S.names) :
    Calls Try.prog 14 #[.pointer (some ⟨d, 0, none⟩), .string name] w fun e w' => e = .returned (.tuple #[.string (S.read name).1, .int .i64 (S.read name).2]) ∧ w' = w := by
  obtain ⟨own, mb, bs, vo, vp, rown, v0, v1, v2, v3, v4, hA, hR, hd, ho, hr, hx⟩ := h
  have := strKeys_le hA.mp Try.underlying9 name.data.toList ((List.mergeSort_perm _ _).mem_iff.1 hn)
  exact read_calls hA name (by rw [Array.length_toList] at this; exact this)
theorem names_get (h : Sim S R φ) {i : Nat} {x : S95} (hx : R.now[i]? = some x) : (S.names.map encStr)[i]? = some (.string x.f0) := by
  rw [names_sim h, List.getElem?_map, List.getElem?_map, hx]
  show some (Value.string ⟨x.f0.data.toList.toArray⟩) = _
  rw [Array.toArray_toList]
set_option maxRecDepth 100000 in
set_option maxHeartbeats 4000000 in
theorem like_calls (h : Two [] B w d m S R) (hF : Fit S R φ n) :
    Calls Try.prog 19 #[.pointer (some ⟨d, 0, none⟩), .pointer (some ⟨m, 0, none⟩)] w fun e w' => e = .returned (.bool true) ∧ Two [] B w' d m S R ∧ Below B w w' := by
  have H := Aside0.mk h
  have HF := Aside0.mk hF
  obtain ⟨N, hN⟩ : ∃ N, N = R.now.length := ⟨_, rfl⟩
  have hN1 : S.names.length = N := by rw [names_sim hF.sim, List.length_map, hN]
  have HN := Aside0.mk hN
  have HN1 := Aside0.mk hN1
  have hNl : N ≤ 1099511627776 := by rw [hN]; exact hF.now
  have CN : Aside0 (∀ {w1 : World}, Two [] B w1 d m S R → Calls Try.prog 22 #[.pointer (some ⟨d, 0, none⟩)] w1 fun e w' => ∃ v, e = .returned v ∧ w'.ownsRow w1.heap.size 9 1 v N (S.names.map encStr) ∧ Below w1.heap.size w1 w') := ⟨fun h1 => by rw [← hN1]; exact names_two h1 hF⟩
  have CNR : Aside0 (∀ {w1 : World}, Two [] B w1 d m S R → Calls Try.prog 37 #[.pointer (some ⟨m, 0, none⟩)] w1 fun e w' => ∃ v, e = .returned v ∧ w'.ownsRow w1.heap.size 9 1 v N (namesV R.now) ∧ Below w1.heap.size w1 w') := ⟨fun h1 => by rw [hN]; exact names_twoR h1 hF⟩
  have CS : Aside0 (∀ {w1 : World}, Two [] B w1 d m S R → Calls Try.prog 17 #[.pointer (some ⟨d, 0, none⟩)] w1 fun e w' => e = .returned (.int .i64 R.made) ∧ w' = w1) := ⟨fun h1 => by rw [← hF.sim.made]; exact steps_two h1⟩
  clear h hF hN hN1
  go_enter Try.func19, Try.ntmps19
  go_wp2_with (first
    | (go_at_call 22; (with_reducible refine (CN.out H.out).mono ?_); rintro e w2 ⟨va, rfl, hr, hb⟩; obtain ⟨A1, c1, hva⟩ := own_slice hr; subst hva; have R1 := Aside0.mk hr; have B1 := Aside0.mk hb; have H2 := Aside0.mk (H.out.below hb); clear hr hb)
    | (go_at_call 37; (with_reducible refine (CNR.out H2.out).mono ?_); rintro e w3 ⟨vb, rfl, hr, hb⟩; obtain ⟨A2, c2, hvb⟩ := own_slice hr; subst hvb; have R2 := Aside0.mk hr; have B2 := Aside0.mk hb; have H3 := Aside0.mk (H2.out.below hb); have R1b := Aside0.mk (row_move R1.out (fun k hk => hb.block k (R1.out.lt k hk).2)); have k5 := H3.out.madeCell; have H3d := Aside0.mk H3.out.drew; clear hr hb)
    | go_in)
  go_quiet (first | (go_at_call 17; exact Calls.quiet_of_same (CS.out (H3.out.drewN _))))
  go_wp2
  go_loopw [7] (fun vi wr => ∃ i : Nat, vi = .int .i64 i ∧ i ≤ N ∧ Aside0 (Below w3.heap.size w3 wr)) (fun vi _ => N - (intOf vi).toNat)
  case atStart => exact ⟨0, rfl, Nat.zero_le _, ⟨pw_below_drewN (Below.refl _ _) _⟩⟩
  case round =>
    obtain ⟨i, rfl, hi, HB⟩ := hrel
    clear k5
    have HT := Aside0.mk (H3.out.below HB.out)
    by_cases ht : i < N
    · have hd1 : decide ((i : Int) < (N : Int)) = true := by simpa using ht
      obtain ⟨x, hx⟩ : ∃ x, R.now[i]? = some x := ⟨_, List.getElem?_eq_getElem (by rw [← HN.out]; exact ht)⟩
      obtain ⟨s1, e1, hp⟩ : ∃ s1 e1, S.read x.f0 = (s1, e1) := ⟨_, _, rfl⟩
      have hr := read_sim HF.out.sim x.f0
      have hin : x.f0.data.toList ∈ S.names := by
        rw [names_sim HF.out.sim]
        exact List.mem_map.2 ⟨x, List.mem_of_getElem? hx, rfl⟩
      have CD : Aside0 (∀ {w1 : World}, Two [] B w1 d m S R → Calls Try.prog 14 #[.pointer (some ⟨d, 0, none⟩), .string x.f0] w1 fun e w' => e = .returned (.tuple #[.string s1, .int .i64 e1]) ∧ w' = w1) := ⟨fun h1 => by have q := read_in h1 hin; rw [hp] at q; exact q⟩
      have CR : Aside0 (∀ {w1 : World}, Two [] B w1 d m S R → Calls Try.prog 36 #[.pointer (some ⟨m, 0, none⟩), .string x.f0] w1 fun e w' => e = .returned (.tuple #[.string s1, .int .i64 e1]) ∧ Drawn0 w1 w') := ⟨fun h1 => by have q := read_twoR HF.out h1 x.f0; rw [← hr, hp] at q; exact q⟩
      have cc1 : (S.names.map encStr)[i]? = some (.string x.f0) := names_get HF.out.sim hx
      have cc2 : (namesV R.now)[i]? = some (.string x.f0) := by unfold namesV; rw [List.getElem?_map, hx]; rfl
      have R1w := row_move R1b.out (fun k hk => HB.out.block k (R1b.out.lt k hk).2)
      have R2w := row_move R2.out (fun k hk => HB.out.block k (R2.out.lt k hk).2)
      obtain ⟨g1, q1, hg1⟩ : ∃ g c, (Value.slice A1 N c1 : Value) = .slice (some ⟨g, 0, none⟩) N c := by
        rcases R1w.2 with ⟨_, h9⟩ | ⟨g, cap, cur, he, _⟩
        · omega
        · exact ⟨g, cap, he⟩
      obtain ⟨g2, q2, hg2⟩ : ∃ g c, (Value.slice A2 N c2 : Value) = .slice (some ⟨g, 0, none⟩) N c := by
        rcases R2w.2 with ⟨_, h9⟩ | ⟨g, cap, cur, he, _⟩
        · omega
        · exact ⟨g, cap, he⟩
      injection hg1 with hA1 _ hc1
      subst hA1 hc1
      injection hg2 with hA2 _ hc2
      subst hA2 hc2
      have y1 := (R1w.cellAt i (by omega)).trans cc1
      have y2 := (R2w.cellAt i (by omega)).trans cc2
      clear R1w R2w cc1 cc2 hx hp hr hin
      go_wp2_with (first
        | (go_at_call 14; (with_reducible refine (CD.out HT.out).mono ?_); rintro e w5 ⟨rfl, rfl⟩)
        | (go_at_call 36; (with_reducible refine (CR.out HT.out).mono ?_); rintro e w5 ⟨rfl, ⟨nd, rfl⟩⟩)
        | go_in)
      go_quiet (fail)
      go_wp2
      have hms := meas ht
      exact ⟨⟨i + 1, by simp, by omega, ⟨pw_below_drewN HB.out _⟩⟩, by simpa [intOf] using hms⟩
    · have hd1 : decide ((i : Int) < (N : Int)) = false := by simpa using ht
      go_wp2
      go_ret
      have hB := H.out.size
      have h2 := B1.out.size
      exact ⟨rfl, HT.out, (B1.out.mono hB).trans ((B2.out.mono (Nat.le_trans hB h2)).trans (HB.out.mono (Nat.le_trans hB (Nat.le_trans h2 B2.out.size))))⟩
end
end Go.Proofs.Ytokienfegjlocaa.Rf
