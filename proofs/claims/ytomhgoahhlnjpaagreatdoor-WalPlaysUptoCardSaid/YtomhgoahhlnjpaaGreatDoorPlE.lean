/- The log's Open on any disk, walked. -/
import Derived.Test.YtomhgoahhlnjpaaGreatDoorPlAD
namespace Go.Proofs.YtomhgoahhlnjpaaGreatDoor.Pl
open Go.RowKit Go.Maps Go.Sort Go.Proofs.YtomhgoahhlnjpaaGreatDoorW.PrintWords Go.Proofs.YtomhgoahhlnjpaaGreatDoor.PRef Go.Proofs.YtomhgoahhlnjpaaGreatDoor.Dk Go.Proofs.YtomhgoahhlnjpaaGreatDoor.Rf Go.Proofs.YtomhgoahhlnjpaaGreatDoor.WalN Go.Proofs.YtomhgoahhlnjpaaGreatDoor.PWal Go.Proofs.YtomhgoahhlnjpaaGreatDoor.WalB

/-- what Open leaves: no log, or a log and its records -/
def OpenPost (X : List (Nat × Obj)) (B : Nat) (w : World) (d m : Nat) (R : RS) (T : DS × Option (List S61 × Int) × Int) (ev : Ending) (w' : World) : Prop :=
  match T.2.1 with
  | none => ev = .returned (.tuple #[.pointer none, .slice none 0 0, .int .i64 T.2.2]) ∧ Two X B w' d m T.1 R ∧ Below B w w'
  | some (l, sz) => ∃ (A : Option Addr) (c g : Nat) (Y : List (Nat × Obj)), ev = .returned (.tuple #[.pointer (some ⟨g, 0, none⟩), .slice A l.length c, .int .i64 T.2.2]) ∧ l.length ≤ c ∧ Kd.C k61 w' A l.length l ∧
      Two ((g, logO d sz (lastOf l) false) :: (Y ++ X)) B w' d m T.1 R ∧ (∀ y ∈ Y, ∃ cs, y.2 = .cells cs 61 (0, 0)) ∧ (∀ ad, A = some ad → 0 < l.length → ∃ y ∈ Y, y.1 = ad.block) ∧ Below B w w' ∧ B ≤ g
theorem read_size {S : DS} {n : Nat} (h : SmallS S n) (a : ByteArray) : (S.read a).1.size ≤ n := by
  unfold DS.read
  split
  · dsimp only
    split
    · exact h.file _
    · exact Nat.zero_le _
  · exact Nat.zero_le _
theorem begun_size {S : DS} {n k : Nat} (h : SmallS S n) (hk : n ≤ k) : (begunD S).2.1.size ≤ k := by
  unfold begunD
  split
  · split
    · exact Nat.zero_le _
    · exact Nat.zero_le _
  · exact Nat.le_trans (read_size h nLog) hk
section
variable {X : List (Nat × Obj)} {B : Nat} {w : World} {d m : Nat} {S : DS} {R : RS} {φ : List Nat} {n : Nat} {p : Addr}
set_option maxRecDepth 100000 in
set_option maxHeartbeats 8000000 in
theorem open_two (h : Two X B w d m S R) (hF : Fit S R φ n) (hn : n + 20 ≤ 8388608) (hG : Gl (.pointer (some p)) w) (h1 : 1 < B) :
    Calls Tryz.prog 15 #[.pointer (some ⟨d, 0, none⟩), .string nLog] w (OpenPost X B w d m R (openD S)) := by
  have HBg := Aside0.mk (begun_two h hF (by omega) hG h1)
  have H := Aside0.mk h
  have HG := Aside0.mk hG
  have H1 := Aside0.mk h1
  obtain ⟨φ1, hs1, _⟩ := begun_sim hF.sim
  have F1 : Fit (begunD S).1 (begunR R).1 φ1 (n + 6) := ⟨hs1, begunD_small hF.s, begunR_small hF.r, by omega⟩
  have F2 : Fit (cutD (begunD S).1 (SCAN (begunD S).2.1)).1 (cutR (begunR R).1 (SCAN (begunD S).2.1)).1 φ1 (n + 7) := ⟨(cutD_sim hs1 _).1, cutD_small F1.s _, cutR_small F1.r _, by omega⟩
  have CA : Aside0 (∀ {w1 : World} (e : Int), Below B w w1 → Calls Tryz.prog 33 #[.int .i64 e] w1 fun ev w' => ev = .returned (errV p e) ∧ w' = w1) := ⟨fun e hb => asked_any (Gl.low HG.out hb H1.out) e⟩
  have CC : Aside0 (∀ {w1 : World} (e : Int), Below B w w1 → Calls Tryz.prog 32 #[errV p e] w1 fun ev w' => ev = .returned (.int .i64 e) ∧ Below w1.heap.size w1 w') := ⟨fun e hb => code_any (Gl.low HG.out hb H1.out) e⟩
  have hz0 : (begunD S).2.1.size ≤ 8388608 := begun_size hF.s (by omega)
  unfold openD endD
  obtain ⟨S1, z, e1, hb⟩ : ∃ S1 z e1, begunD S = (S1, z, e1) := ⟨_, _, _, rfl⟩
  rw [hb] at HBg F1 F2 hz0 ⊢
  dsimp only at HBg F1 F2 hz0 ⊢
  obtain ⟨l, sz, e2, hsc⟩ : ∃ l sz e2, SCAN z = (l, sz, e2) := ⟨_, _, _, rfl⟩
  have HSc : Aside0 (wal_Scan.f (2 * z.size + 40) z = some (l, sz, e2)) := ⟨by rw [walScan z _ (by omega) (Nat.le_refl _), hsc]⟩
  have hll := SCAN_length z
  rw [hsc] at F2 hll ⊢
  dsimp only at hll ⊢
  have HLL : Aside0 (l.length ≤ 8388608) := ⟨by omega⟩
  have CCut : Aside0 (∀ {X : List (Nat × Obj)} {w1 : World}, Two X B w1 d m S1 R → Calls Tryz.prog 34 #[.pointer (some ⟨d, 0, none⟩), .string nLog, .int .i64 sz] w1 fun e w' => e = .returned (.int .i64 (S1.cut nLog sz).2) ∧ Two X B w' d m (S1.cut nLog sz).1 R ∧ Below B w1 w') := ⟨fun h2 => cut_two h2 F1 nLog sz (by decide)⟩
  have CSync : Aside0 (∀ {X : List (Nat × Obj)} {w1 : World}, Two X B w1 d m (cutD S1 (l, sz, e2)).1 R → Calls Tryz.prog 35 #[.pointer (some ⟨d, 0, none⟩), .string nLog] w1 fun e w' => e = .returned (.int .i64 ((cutD S1 (l, sz, e2)).1.sync nLog).2) ∧ Two X B w' d m ((cutD S1 (l, sz, e2)).1.sync nLog).1 R ∧ Below B w1 w') := ⟨fun h2 => sync_two h2 F2 nLog (by decide)⟩
  clear h hF hn hG h1 hs1 F1 F2 hb hsc hz0 hll
  by_cases he1 : e1 = 0
  · subst he1
    simp only [if_true]
    by_cases he2 : e2 = 90
    · subst he2
      simp only [if_true]
      go_enter Tryz.func15, Tryz.ntmps15
      go_wp2_with (first
        | (go_at_call 31; (with_reducible refine (HBg.out).mono ?_); rintro e w1 ⟨rfl, hT, hB⟩; have L1 := Aside0.mk hT; have B1 := Aside0.mk hB; clear hT hB)
        | (go_at_call 32; (with_reducible refine (CC.out 0 B1.out).mono ?_); rintro e w2 ⟨rfl, hb⟩; have L2 := Aside0.mk (L1.out.below hb); have B2 := Aside0.mk (B1.out.trans (hb.mono L1.out.size)); clear hb)
        | (go_at_call 13; (with_reducible refine (wal_Scan.calls _ z l sz 90 _ HSc.out).mono ?_); rintro e w3 ⟨v0, rfl, hR, hb⟩; obtain ⟨A, c, rfl, hlc, hC⟩ := Kd.R_reads hR; have HR := Aside0.mk hR; have HC3 := Aside0.mk hC; have HLC := Aside0.mk hlc; have L3 := Aside0.mk (L2.out.below hb); have B3 := Aside0.mk (B2.out.trans (hb.mono L2.out.size)); clear hR hlc hC hb)
        | go_in)
      go_ret3
      exact ⟨rfl, L3.out, B3.out⟩
    · have hz2 : (e2 == 90) = false := by simpa using he2
      simp only [if_neg he2]
      by_cases he3 : e2 = 91
      · subst he3
        have hc : cutD S1 (l, sz, 91) = S1.cut nLog sz := if_pos rfl
        rw [hc] at CSync ⊢
        obtain ⟨S2, e3, hq⟩ : ∃ S2 e3, S1.cut nLog sz = (S2, e3) := ⟨_, _, rfl⟩
        rw [hq] at CCut CSync ⊢
        dsimp only at CCut CSync ⊢
        clear hq hc
        by_cases hx3 : e3 = 0
        · subst hx3
          simp only [if_true]
          obtain ⟨S3, e4, hq4⟩ : ∃ S3 e4, (S2).sync nLog = (S3, e4) := ⟨_, _, rfl⟩
          rw [hq4] at CSync ⊢
          dsimp only at CSync ⊢
          clear hq4
          by_cases he4 : e4 = 0
          · subst he4
            simp only [if_true]
            by_cases hl0 : l.length = 0
            · have hd : decide ((0 : Int) < (l.length : Int)) = false := by rw [hl0]; rfl
              go_enter Tryz.func15, Tryz.ntmps15
              go_wp2_with (first
                | (go_at_call 31; (with_reducible refine (HBg.out).mono ?_); rintro e w1 ⟨rfl, hT, hB⟩; have L1 := Aside0.mk hT; have B1 := Aside0.mk hB; clear hT hB)
                | (go_at_call 32; (with_reducible refine (CC.out 0 B1.out).mono ?_); rintro e w2 ⟨rfl, hb⟩; have L2 := Aside0.mk (L1.out.below hb); have B2 := Aside0.mk (B1.out.trans (hb.mono L1.out.size)); clear hb)
                | (go_at_call 13; (with_reducible refine (wal_Scan.calls _ z l sz 91 _ HSc.out).mono ?_); rintro e w3 ⟨v0, rfl, hR, hb⟩; obtain ⟨A, c, rfl, hlc, hC⟩ := Kd.R_reads hR; have HR := Aside0.mk hR; have HC3 := Aside0.mk hC; have HLC := Aside0.mk hlc; have L3 := Aside0.mk (L2.out.below hb); have B3 := Aside0.mk (B2.out.trans (hb.mono L2.out.size)); clear hR hlc hC hb)
                | (go_at_call 34; (with_reducible refine (CCut.out L3.out).mono ?_); rintro e w4 ⟨rfl, hT, hB⟩; have L4 := Aside0.mk hT; have B4 := Aside0.mk (B3.out.trans hB); clear hT hB)
                | (go_at_call 33; (with_reducible refine (CA.out 0 B4.out).mono ?_); rintro e wx ⟨rfl, rfl⟩)
                | (go_at_call 32; (with_reducible refine (CC.out 0 B4.out).mono ?_); rintro e w5 ⟨rfl, hb⟩; have L5 := Aside0.mk (L4.out.below hb); have B5 := Aside0.mk (B4.out.trans (hb.mono L4.out.size));  clear hb)
                | (go_at_call 35; (with_reducible refine (CSync.out L5.out).mono ?_); rintro e w6 ⟨rfl, hT, hB⟩; have L6 := Aside0.mk hT; have B6 := Aside0.mk (B5.out.trans hB); clear hT hB)
                | (go_at_call 33; (with_reducible refine (CA.out 0 B6.out).mono ?_); rintro e wx ⟨rfl, rfl⟩)
                | (go_at_call 32; (with_reducible refine (CC.out 0 B6.out).mono ?_); rintro e w7 ⟨rfl, hb⟩; have L7 := Aside0.mk (L6.out.below hb); have B7 := Aside0.mk (B6.out.trans (hb.mono L6.out.size));  clear hb)
                | go_in)
              go_ret3
              have hle : l = [] := List.eq_nil_of_length_eq_zero hl0
              have hlast : lastOf l = 0 := by rw [hle]; rfl
              have hb8 := (Below.refl w7.heap.size w7).alloc (Nat.le_refl _) (logO d sz (lastOf l) false)
              have L8 := L7.out.new hb8 (Nat.le_refl _) (heap_alloc_new w7 (logO d sz (lastOf l) false))
              have hbe := B7.out.trans (hb8.mono L7.out.size)
              have hw : w7.alloc (.cells #[.pointer (some ⟨d, 0, none⟩), .string nLog, .int .i64 sz, .int .i64 0, .bool false] 85) = w7.alloc (logO d sz (lastOf l) false) := by rw [hlast]; rfl
              rw [hw]
              exact ⟨A, c, w7.heap.size, [], (by rw [hl0]; rfl), HLC.out, ⟨rfl, (by rw [hl0]; omega), fun h => (by omega)⟩, L8, (fun y hy => by cases hy), (fun ad _ h => by omega), hbe, L7.out.size⟩
            · obtain ⟨q, hq⟩ : ∃ q, l.length = q + 1 := ⟨l.length - 1, by omega⟩
              have hd : decide ((0 : Int) < (l.length : Int)) = true := by simp; omega
              have HQ := Aside0.mk hq
              have hq2 : q ≤ 8388608 := by have := HLL.out; omega
              go_enter Tryz.func15, Tryz.ntmps15
              go_wp2_with (first
                | (go_at_call 31; (with_reducible refine (HBg.out).mono ?_); rintro e w1 ⟨rfl, hT, hB⟩; have L1 := Aside0.mk hT; have B1 := Aside0.mk hB; clear hT hB)
                | (go_at_call 32; (with_reducible refine (CC.out 0 B1.out).mono ?_); rintro e w2 ⟨rfl, hb⟩; have L2 := Aside0.mk (L1.out.below hb); have B2 := Aside0.mk (B1.out.trans (hb.mono L1.out.size)); clear hb)
                | (go_at_call 13; (with_reducible refine (wal_Scan.calls _ z l sz 91 _ HSc.out).mono ?_); rintro e w3 ⟨v0, rfl, hR, hb⟩; obtain ⟨A, c, rfl, hlc, hC⟩ := Kd.R_reads hR; have HR := Aside0.mk hR; have HC3 := Aside0.mk hC; have HLC := Aside0.mk hlc; obtain ⟨gr, cs, rfl, hgr, hrow⟩ := rows_of hR HQ.out; have L3 := Aside0.mk (L2.out.new hb hgr hrow); have B3 := Aside0.mk (B2.out.trans (hb.mono L2.out.size)); clear hR hlc hC hb)
                | (go_at_call 34; (with_reducible refine (CCut.out L3.out).mono ?_); rintro e w4 ⟨rfl, hT, hB⟩; have L4 := Aside0.mk hT; have B4 := Aside0.mk (B3.out.trans hB); clear hT hB)
                | (go_at_call 33; (with_reducible refine (CA.out 0 B4.out).mono ?_); rintro e wx ⟨rfl, rfl⟩)
                | (go_at_call 32; (with_reducible refine (CC.out 0 B4.out).mono ?_); rintro e w5 ⟨rfl, hb⟩; have L5 := Aside0.mk (L4.out.below hb); have B5 := Aside0.mk (B4.out.trans (hb.mono L4.out.size));  clear hb)
                | (go_at_call 35; (with_reducible refine (CSync.out L5.out).mono ?_); rintro e w6 ⟨rfl, hT, hB⟩; have L6 := Aside0.mk hT; have B6 := Aside0.mk (B5.out.trans hB); clear hT hB)
                | (go_at_call 33; (with_reducible refine (CA.out 0 B6.out).mono ?_); rintro e wx ⟨rfl, rfl⟩)
                | (go_at_call 32; (with_reducible refine (CC.out 0 B6.out).mono ?_); rintro e w7 ⟨rfl, hb⟩; have L7 := Aside0.mk (L6.out.below hb); have B7 := Aside0.mk (B6.out.trans (hb.mono L6.out.size)); have hx3 := L3.out.at (List.mem_cons_self ..); have hx7 := L7.out.at (List.mem_cons_self ..); have HC7 := Aside0.mk (c61_move HC3.out (fun ad hA => by cases hA; exact hx7.trans hx3.symm)); have x0 := (last_cell' HC7.out HQ.out); have hgl := blk_lt hx7; clear hx3 hx7; clear hb)
                | go_in)
              go_ret3
              have hb8 := (Below.refl w7.heap.size w7).alloc (Nat.le_refl _) (logO d sz (lastOf l) false)
              have L8 := L7.out.new hb8 (Nat.le_refl _) (heap_alloc_new w7 (logO d sz (lastOf l) false))
              have hbe := B7.out.trans (hb8.mono L7.out.size)
              have HC8 := c61_move HC7.out (w' := w7.alloc (logO d sz (lastOf l) false)) (fun ad hA => by cases hA; exact hb8.block gr hgl)
              exact ⟨some ⟨gr, 0, none⟩, c, w7.heap.size, [(gr, .cells cs 61 (0, 0))], (by rw [HQ.out]; rfl), HLC.out, HC8, L8, (fun y hy => by rw [List.mem_singleton.1 hy]; exact ⟨cs, rfl⟩), (fun ad hA _ => ⟨_, List.mem_cons_self .., by cases hA; rfl⟩), hbe, L7.out.size⟩
          · have hz4 : (e4 == 0) = false := by simpa using he4
            simp only [if_neg he4]
            go_enter Tryz.func15, Tryz.ntmps15
            go_wp2_with (first
              | (go_at_call 31; (with_reducible refine (HBg.out).mono ?_); rintro e w1 ⟨rfl, hT, hB⟩; have L1 := Aside0.mk hT; have B1 := Aside0.mk hB; clear hT hB)
              | (go_at_call 32; (with_reducible refine (CC.out 0 B1.out).mono ?_); rintro e w2 ⟨rfl, hb⟩; have L2 := Aside0.mk (L1.out.below hb); have B2 := Aside0.mk (B1.out.trans (hb.mono L1.out.size)); clear hb)
              | (go_at_call 13; (with_reducible refine (wal_Scan.calls _ z l sz 91 _ HSc.out).mono ?_); rintro e w3 ⟨v0, rfl, hR, hb⟩; obtain ⟨A, c, rfl, hlc, hC⟩ := Kd.R_reads hR; have HR := Aside0.mk hR; have HC3 := Aside0.mk hC; have HLC := Aside0.mk hlc; have L3 := Aside0.mk (L2.out.below hb); have B3 := Aside0.mk (B2.out.trans (hb.mono L2.out.size)); clear hR hlc hC hb)
              | (go_at_call 34; (with_reducible refine (CCut.out L3.out).mono ?_); rintro e w4 ⟨rfl, hT, hB⟩; have L4 := Aside0.mk hT; have B4 := Aside0.mk (B3.out.trans hB); clear hT hB)
              | (go_at_call 33; (with_reducible refine (CA.out 0 B4.out).mono ?_); rintro e wx ⟨rfl, rfl⟩)
              | (go_at_call 32; (with_reducible refine (CC.out 0 B4.out).mono ?_); rintro e w5 ⟨rfl, hb⟩; have L5 := Aside0.mk (L4.out.below hb); have B5 := Aside0.mk (B4.out.trans (hb.mono L4.out.size));  clear hb)
              | (go_at_call 35; (with_reducible refine (CSync.out L5.out).mono ?_); rintro e w6 ⟨rfl, hT, hB⟩; have L6 := Aside0.mk hT; have B6 := Aside0.mk (B5.out.trans hB); clear hT hB)
              | (go_at_call 33; (with_reducible refine (CA.out e4 B6.out).mono ?_); rintro e wx ⟨rfl, rfl⟩)
              | (go_at_call 32; (with_reducible refine (CC.out e4 B6.out).mono ?_); rintro e w7 ⟨rfl, hb⟩; have L7 := Aside0.mk (L6.out.below hb); have B7 := Aside0.mk (B6.out.trans (hb.mono L6.out.size));  clear hb)
              | go_in)
            go_ret3
            exact ⟨rfl, L7.out, B7.out⟩
        · have hz3 : (e3 == 0) = false := by simpa using hx3
          simp only [if_neg hx3]
          go_enter Tryz.func15, Tryz.ntmps15
          go_wp2_with (first
            | (go_at_call 31; (with_reducible refine (HBg.out).mono ?_); rintro e w1 ⟨rfl, hT, hB⟩; have L1 := Aside0.mk hT; have B1 := Aside0.mk hB; clear hT hB)
            | (go_at_call 32; (with_reducible refine (CC.out 0 B1.out).mono ?_); rintro e w2 ⟨rfl, hb⟩; have L2 := Aside0.mk (L1.out.below hb); have B2 := Aside0.mk (B1.out.trans (hb.mono L1.out.size)); clear hb)
            | (go_at_call 13; (with_reducible refine (wal_Scan.calls _ z l sz 91 _ HSc.out).mono ?_); rintro e w3 ⟨v0, rfl, hR, hb⟩; obtain ⟨A, c, rfl, hlc, hC⟩ := Kd.R_reads hR; have HR := Aside0.mk hR; have HC3 := Aside0.mk hC; have HLC := Aside0.mk hlc; have L3 := Aside0.mk (L2.out.below hb); have B3 := Aside0.mk (B2.out.trans (hb.mono L2.out.size)); clear hR hlc hC hb)
            | (go_at_call 34; (with_reducible refine (CCut.out L3.out).mono ?_); rintro e w4 ⟨rfl, hT, hB⟩; have L4 := Aside0.mk hT; have B4 := Aside0.mk (B3.out.trans hB); clear hT hB)
            | (go_at_call 33; (with_reducible refine (CA.out e3 B4.out).mono ?_); rintro e wx ⟨rfl, rfl⟩)
            | (go_at_call 32; (with_reducible refine (CC.out e3 B4.out).mono ?_); rintro e w5 ⟨rfl, hb⟩; have L5 := Aside0.mk (L4.out.below hb); have B5 := Aside0.mk (B4.out.trans (hb.mono L4.out.size));  clear hb)
            | go_in)
          go_ret3
          exact ⟨rfl, L5.out, B5.out⟩
      · have hz3 : (e2 == 91) = false := by simpa using he3
        have hc : cutD S1 (l, sz, e2) = (S1, 0) := if_neg he3
        rw [hc] at CSync ⊢
        dsimp only at CSync ⊢
        simp only [if_true]
        clear hc
        obtain ⟨S3, e4, hq4⟩ : ∃ S3 e4, (S1).sync nLog = (S3, e4) := ⟨_, _, rfl⟩
        rw [hq4] at CSync ⊢
        dsimp only at CSync ⊢
        clear hq4
        by_cases he4 : e4 = 0
        · subst he4
          simp only [if_true]
          by_cases hl0 : l.length = 0
          · have hd : decide ((0 : Int) < (l.length : Int)) = false := by rw [hl0]; rfl
            go_enter Tryz.func15, Tryz.ntmps15
            go_wp2_with (first
              | (go_at_call 31; (with_reducible refine (HBg.out).mono ?_); rintro e w1 ⟨rfl, hT, hB⟩; have L1 := Aside0.mk hT; have B1 := Aside0.mk hB; clear hT hB)
              | (go_at_call 32; (with_reducible refine (CC.out 0 B1.out).mono ?_); rintro e w2 ⟨rfl, hb⟩; have L2 := Aside0.mk (L1.out.below hb); have B2 := Aside0.mk (B1.out.trans (hb.mono L1.out.size)); clear hb)
              | (go_at_call 13; (with_reducible refine (wal_Scan.calls _ z l sz e2 _ HSc.out).mono ?_); rintro e w3 ⟨v0, rfl, hR, hb⟩; obtain ⟨A, c, rfl, hlc, hC⟩ := Kd.R_reads hR; have HR := Aside0.mk hR; have HC3 := Aside0.mk hC; have HLC := Aside0.mk hlc; have L3 := Aside0.mk (L2.out.below hb); have B3 := Aside0.mk (B2.out.trans (hb.mono L2.out.size)); clear hR hlc hC hb)
              | (go_at_call 35; (with_reducible refine (CSync.out L3.out).mono ?_); rintro e w6 ⟨rfl, hT, hB⟩; have L6 := Aside0.mk hT; have B6 := Aside0.mk (B3.out.trans hB); clear hT hB)
              | (go_at_call 33; (with_reducible refine (CA.out 0 B6.out).mono ?_); rintro e wx ⟨rfl, rfl⟩)
              | (go_at_call 32; (with_reducible refine (CC.out 0 B6.out).mono ?_); rintro e w7 ⟨rfl, hb⟩; have L7 := Aside0.mk (L6.out.below hb); have B7 := Aside0.mk (B6.out.trans (hb.mono L6.out.size));  clear hb)
              | go_in)
            go_ret3
            have hle : l = [] := List.eq_nil_of_length_eq_zero hl0
            have hlast : lastOf l = 0 := by rw [hle]; rfl
            have hb8 := (Below.refl w7.heap.size w7).alloc (Nat.le_refl _) (logO d sz (lastOf l) false)
            have L8 := L7.out.new hb8 (Nat.le_refl _) (heap_alloc_new w7 (logO d sz (lastOf l) false))
            have hbe := B7.out.trans (hb8.mono L7.out.size)
            have hw : w7.alloc (.cells #[.pointer (some ⟨d, 0, none⟩), .string nLog, .int .i64 sz, .int .i64 0, .bool false] 85) = w7.alloc (logO d sz (lastOf l) false) := by rw [hlast]; rfl
            rw [hw]
            exact ⟨A, c, w7.heap.size, [], (by rw [hl0]; rfl), HLC.out, ⟨rfl, (by rw [hl0]; omega), fun h => (by omega)⟩, L8, (fun y hy => by cases hy), (fun ad _ h => by omega), hbe, L7.out.size⟩
          · obtain ⟨q, hq⟩ : ∃ q, l.length = q + 1 := ⟨l.length - 1, by omega⟩
            have hd : decide ((0 : Int) < (l.length : Int)) = true := by simp; omega
            have HQ := Aside0.mk hq
            have hq2 : q ≤ 8388608 := by have := HLL.out; omega
            go_enter Tryz.func15, Tryz.ntmps15
            go_wp2_with (first
              | (go_at_call 31; (with_reducible refine (HBg.out).mono ?_); rintro e w1 ⟨rfl, hT, hB⟩; have L1 := Aside0.mk hT; have B1 := Aside0.mk hB; clear hT hB)
              | (go_at_call 32; (with_reducible refine (CC.out 0 B1.out).mono ?_); rintro e w2 ⟨rfl, hb⟩; have L2 := Aside0.mk (L1.out.below hb); have B2 := Aside0.mk (B1.out.trans (hb.mono L1.out.size)); clear hb)
              | (go_at_call 13; (with_reducible refine (wal_Scan.calls _ z l sz e2 _ HSc.out).mono ?_); rintro e w3 ⟨v0, rfl, hR, hb⟩; obtain ⟨A, c, rfl, hlc, hC⟩ := Kd.R_reads hR; have HR := Aside0.mk hR; have HC3 := Aside0.mk hC; have HLC := Aside0.mk hlc; obtain ⟨gr, cs, rfl, hgr, hrow⟩ := rows_of hR HQ.out; have L3 := Aside0.mk (L2.out.new hb hgr hrow); have B3 := Aside0.mk (B2.out.trans (hb.mono L2.out.size)); clear hR hlc hC hb)
              | (go_at_call 35; (with_reducible refine (CSync.out L3.out).mono ?_); rintro e w6 ⟨rfl, hT, hB⟩; have L6 := Aside0.mk hT; have B6 := Aside0.mk (B3.out.trans hB); clear hT hB)
              | (go_at_call 33; (with_reducible refine (CA.out 0 B6.out).mono ?_); rintro e wx ⟨rfl, rfl⟩)
              | (go_at_call 32; (with_reducible refine (CC.out 0 B6.out).mono ?_); rintro e w7 ⟨rfl, hb⟩; have L7 := Aside0.mk (L6.out.below hb); have B7 := Aside0.mk (B6.out.trans (hb.mono L6.out.size)); have hx3 := L3.out.at (List.mem_cons_self ..); have hx7 := L7.out.at (List.mem_cons_self ..); have HC7 := Aside0.mk (c61_move HC3.out (fun ad hA => by cases hA; exact hx7.trans hx3.symm)); have x0 := (last_cell' HC7.out HQ.out); have hgl := blk_lt hx7; clear hx3 hx7; clear hb)
              | go_in)
            go_ret3
            have hb8 := (Below.refl w7.heap.size w7).alloc (Nat.le_refl _) (logO d sz (lastOf l) false)
            have L8 := L7.out.new hb8 (Nat.le_refl _) (heap_alloc_new w7 (logO d sz (lastOf l) false))
            have hbe := B7.out.trans (hb8.mono L7.out.size)
            have HC8 := c61_move HC7.out (w' := w7.alloc (logO d sz (lastOf l) false)) (fun ad hA => by cases hA; exact hb8.block gr hgl)
            exact ⟨some ⟨gr, 0, none⟩, c, w7.heap.size, [(gr, .cells cs 61 (0, 0))], (by rw [HQ.out]; rfl), HLC.out, HC8, L8, (fun y hy => by rw [List.mem_singleton.1 hy]; exact ⟨cs, rfl⟩), (fun ad hA _ => ⟨_, List.mem_cons_self .., by cases hA; rfl⟩), hbe, L7.out.size⟩
        · have hz4 : (e4 == 0) = false := by simpa using he4
          simp only [if_neg he4]
          go_enter Tryz.func15, Tryz.ntmps15
          go_wp2_with (first
            | (go_at_call 31; (with_reducible refine (HBg.out).mono ?_); rintro e w1 ⟨rfl, hT, hB⟩; have L1 := Aside0.mk hT; have B1 := Aside0.mk hB; clear hT hB)
            | (go_at_call 32; (with_reducible refine (CC.out 0 B1.out).mono ?_); rintro e w2 ⟨rfl, hb⟩; have L2 := Aside0.mk (L1.out.below hb); have B2 := Aside0.mk (B1.out.trans (hb.mono L1.out.size)); clear hb)
            | (go_at_call 13; (with_reducible refine (wal_Scan.calls _ z l sz e2 _ HSc.out).mono ?_); rintro e w3 ⟨v0, rfl, hR, hb⟩; obtain ⟨A, c, rfl, hlc, hC⟩ := Kd.R_reads hR; have HR := Aside0.mk hR; have HC3 := Aside0.mk hC; have HLC := Aside0.mk hlc; have L3 := Aside0.mk (L2.out.below hb); have B3 := Aside0.mk (B2.out.trans (hb.mono L2.out.size)); clear hR hlc hC hb)
            | (go_at_call 35; (with_reducible refine (CSync.out L3.out).mono ?_); rintro e w6 ⟨rfl, hT, hB⟩; have L6 := Aside0.mk hT; have B6 := Aside0.mk (B3.out.trans hB); clear hT hB)
            | (go_at_call 33; (with_reducible refine (CA.out e4 B6.out).mono ?_); rintro e wx ⟨rfl, rfl⟩)
            | (go_at_call 32; (with_reducible refine (CC.out e4 B6.out).mono ?_); rintro e w7 ⟨rfl, hb⟩; have L7 := Aside0.mk (L6.out.below hb); have B7 := Aside0.mk (B6.out.trans (hb.mono L6.out.size));  clear hb)
            | go_in)
          go_ret3
          exact ⟨rfl, L7.out, B7.out⟩
  · have hz : (e1 == 0) = false := by simpa using he1
    simp only [if_neg he1]
    go_enter Tryz.func15, Tryz.ntmps15
    go_wp2_with (first
      | (go_at_call 31; (with_reducible refine (HBg.out).mono ?_); rintro e w1 ⟨rfl, hT, hB⟩; have L1 := Aside0.mk hT; have B1 := Aside0.mk hB; clear hT hB)
      | (go_at_call 32; (with_reducible refine (CC.out e1 B1.out).mono ?_); rintro e w2 ⟨rfl, hb⟩; have L2 := Aside0.mk (L1.out.below hb); have B2 := Aside0.mk (B1.out.trans (hb.mono L1.out.size)); clear hb)
      | go_in)
    go_ret3
    exact ⟨rfl, L2.out, B2.out⟩
end
end Go.Proofs.YtomhgoahhlnjpaaGreatDoor.Pl
