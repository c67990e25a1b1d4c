/- The document's log's Sync; Has and Read beside any disk of the program's; walked. -/
import Derived.Test.YtomhgoahhlnjpaaGreatDoorPlF
import Derived.Deep.RegionWith
import Derived.BigQuiet
namespace Go.Proofs.YtomhgoahhlnjpaaGreatDoor.Pl
open Go.RowKit Go.Maps Go.Sort Go.Proofs.YtomhgoahhlnjpaaGreatDoorW.PrintWords Go.Proofs.YtomhgoahhlnjpaaGreatDoor.PRef Go.Proofs.YtomhgoahhlnjpaaGreatDoor.Dk Go.Proofs.YtomhgoahhlnjpaaGreatDoor.Rf Go.Proofs.YtomhgoahhlnjpaaGreatDoor.WalN Go.Proofs.YtomhgoahhlnjpaaGreatDoor.PWal Go.Proofs.YtomhgoahhlnjpaaGreatDoor.WalB

section
variable {X : List (Nat × Obj)} {B : Nat} {w : World} {d m g : Nat} {S S2 : DS} {R : RS} {φ : List Nat} {n : Nat}
theorem read_any (hF : Fit S2 R φ n) (h : Two X B w d m S R) (name : ByteArray) :
    Calls Tryz.prog 9 #[.pointer (some ⟨m, 0, none⟩), .string name] w fun e w' => e = .returned (.tuple #[.string (R.readR name).1, .int .i64 (R.readR name).2]) ∧ Drawn0 w w' := by
  obtain ⟨own, mb, bs, vo, vp, rown, v0, v1, v2, v3, v4, hA, hR, hd, ho, hr, hx⟩ := h
  exact read_r hR hF.ok name hF.now
theorem has_r {own : Nat → Prop} {v0 v1 v2 v3 v4 : Value} (h : RAt own w m R v0 v1 v2 v3 v4) (name : ByteArray) (hl : R.now.length ≤ 1099511627776) :
    Calls Tryz.prog 36 #[.pointer (some ⟨m, 0, none⟩), .string name] w fun e w' => e = .returned (.bool (!decide (findI R.now name < 0))) ∧ Drawn0 w w' := by
  obtain ⟨x0, x1, x2, x3, x4, x5⟩ := h.cells
  obtain ⟨A, c, rfl, hlc, hC⟩ := Kd.R_reads h.now
  have HF := Aside0.mk (lodestarref02_find.calls (R.now.length + 1) A c R.now name _ w hC hlc (find_f R.now name hl))
  clear h hlc hC hl x0 x2 x3 x4 x5
  generalize findI R.now name = z at HF ⊢
  by_cases hz : z < 0
  · have hd : decide (0 ≤ z) = false := by simp; omega
    rw [decide_eq_true hz]
    go_enter Tryz.func36, Tryz.ntmps36
    go_wp2_with (first
      | (go_at_call 48; (with_reducible refine (HF.out).mono ?_); rintro e w1 ⟨rfl, hd1⟩; have HD := Aside0.mk hd1; clear hd1)
      | go_in)
    go_ret
    exact ⟨rfl, HD.out⟩
  · have hd : decide (0 ≤ z) = true := by simp; omega
    rw [decide_eq_false hz]
    go_enter Tryz.func36, Tryz.ntmps36
    go_wp2_with (first
      | (go_at_call 48; (with_reducible refine (HF.out).mono ?_); rintro e w1 ⟨rfl, hd1⟩; have HD := Aside0.mk hd1; clear hd1)
      | go_in)
    go_ret
    exact ⟨rfl, HD.out⟩
theorem has_any (hF : Fit S2 R φ n) (h : Two X B w d m S R) (name : ByteArray) :
    Calls Tryz.prog 36 #[.pointer (some ⟨m, 0, none⟩), .string name] w fun e w' => e = .returned (.bool (!decide (findI R.now name < 0))) ∧ Drawn0 w w' := by
  obtain ⟨own, mb, bs, vo, vp, rown, v0, v1, v2, v3, v4, hA, hR, hd, ho, hr, hx⟩ := h
  exact has_r hR name hF.now
set_option maxRecDepth 100000 in
set_option maxHeartbeats 4000000 in
theorem logsync_twoR (l : Lg) (h : Two ((g, logR m l.sz l.last l.br) :: X) B w d m S R) (hX : ∀ x ∈ X, x.1 ≠ g) (hgB : B ≤ g) (hF : Fit S2 R φ n) :
    Calls Tryz.prog 20 #[.pointer (some ⟨g, 0, none⟩)] w fun e w' => e = .returned (.int .i64 (synR R l).2.2) ∧ Two ((g, logR m (synR R l).2.1.sz (synR R l).2.1.last (synR R l).2.1.br) :: X) B w' d m S (synR R l).1 ∧ Below B w w' := by
  obtain ⟨sz, last, br⟩ := l
  dsimp only at h
  have hB := h.size
  have hb := h.at (List.mem_cons_self ..)
  have x0 := blk_cell hb 0
  have x1 := blk_cell hb 1
  have x4 := blk_cell hb 4
  have hgl := blk_lt hb
  have HP := Aside0.mk h
  have L0 := Aside0.mk h.drew
  have B0 : Aside0 (Below B w w.drew) := ⟨below_drew1 (Below.refl B w)⟩
  have HgB := Aside0.mk hgB
  have HX := Aside0.mk hX
  have CS : Aside0 (∀ {w1 : World}, Two ((g, logR m sz last false) :: X) B w1 d m S R → Calls Tryz.prog 41 #[.pointer (some ⟨m, 0, none⟩), .string nLog] w1 fun e w' => e = .returned (.int .i64 (R.syncR nLog).2) ∧ Two ((g, logR m sz last false) :: X) B w' d m S (R.syncR nLog).1 ∧ Below B w1 w') := ⟨fun hl => sync_twoR hF hl nLog⟩
  unfold synR
  dsimp only
  clear h hX hB hgB hF hb
  cases br with
  | true =>
    rw [if_pos rfl]
    dsimp only
    go_enter Tryz.func20, Tryz.ntmps20
    go_wp2
    go_ret
    exact ⟨rfl, HP.out, Below.refl _ _⟩
  | false =>
    rw [if_neg (by decide)]
    obtain ⟨R1, we, hw⟩ : ∃ R1 we, R.syncR nLog = (R1, we) := ⟨_, _, rfl⟩
    rw [hw] at CS ⊢
    dsimp only at CS ⊢
    clear hw
    by_cases hwe : we = 0
    · subst hwe
      rw [if_pos rfl]
      go_enter Tryz.func20, Tryz.ntmps20
      go_wp2
      go_region_with (go_at_call 41; (with_reducible refine (CS.out L0.out).mono ?_); rintro e w1 ⟨rfl, hl, hb⟩; have L1 := Aside0.mk (And.intro hl (B0.out.trans hb)); have hlg := hl.at (List.mem_cons_self ..); have v4 := blk_frozen hlg 4; have u4 := blk_cell hlg 4; have hgl4 := blk_lt hlg; clear hlg hl hb)
      all_goals
        go_wp2
        go_ret
        exact ⟨rfl, L1.out.1, L1.out.2⟩
    · rw [if_neg hwe]
      have hz : (we == 0) = false := by simpa using hwe
      clear hwe
      go_enter Tryz.func20, Tryz.ntmps20
      go_wp2
      go_region_with (go_at_call 41; (with_reducible refine (CS.out L0.out).mono ?_); rintro e w1 ⟨rfl, hl, hb⟩; have L1 := Aside0.mk (And.intro hl (B0.out.trans hb)); have hlg := hl.at (List.mem_cons_self ..); have v4 := blk_frozen hlg 4; have u4 := blk_cell hlg 4; have hgl4 := blk_lt hlg; clear hlg hl hb)
      all_goals
        go_wp2
        go_ret
        have p1 := two_put L1.out.1 4 (.bool true) (cs' := #[.pointer (some ⟨m, 0, none⟩), .string nLog, .int .i64 last, .int .i64 sz, .bool true]) rfl HX.out
        exact ⟨rfl, p1, L1.out.2.setCell HgB.out _⟩
end
end Go.Proofs.YtomhgoahhlnjpaaGreatDoor.Pl
