/- The document's log's Open on any disk, walked. -/
import Derived.Test.YtomhgoahhlnjpaaGreatDoorPlJ
namespace Go.Proofs.YtomhgoahhlnjpaaGreatDoor.Pl
open Go.RowKit Go.Maps Go.Sort Go.Proofs.YtomhgoahhlnjpaaGreatDoorW.PrintWords Go.Proofs.YtomhgoahhlnjpaaGreatDoor.PRef Go.Proofs.YtomhgoahhlnjpaaGreatDoor.Dk Go.Proofs.YtomhgoahhlnjpaaGreatDoor.Rf Go.Proofs.YtomhgoahhlnjpaaGreatDoor.WalN Go.Proofs.YtomhgoahhlnjpaaGreatDoor.PWal Go.Proofs.YtomhgoahhlnjpaaGreatDoor.WalB

/-- what the document's Open leaves: no log, or a log and its records -/
def OpenPostR (X : List (Nat × Obj)) (B : Nat) (w : World) (d m : Nat) (S : DS) (T : RS × Option (List S61 × Int) × Int) (ev : Ending) (w' : World) : Prop :=
  match T.2.1 with
  | none => ev = .returned (.tuple #[.pointer none, .slice none 0 0, .int .i64 T.2.2]) ∧ Two X B w' d m S T.1 ∧ Below B w w'
  | some (l, sz) => ∃ (A : Option Addr) (c g : Nat) (Y : List (Nat × Obj)), ev = .returned (.tuple #[.pointer (some ⟨g, 0, none⟩), .slice A l.length c, .int .i64 T.2.2]) ∧ l.length ≤ c ∧ Kd.C k61 w' A l.length l ∧
      Two ((g, logR m sz (lastOf l) false) :: (Y ++ X)) B w' d m S T.1 ∧ (∀ y ∈ Y, ∃ cs, y.2 = .cells cs 61 (0, 0)) ∧ (∀ ad, A = some ad → 0 < l.length → ∃ y ∈ Y, y.1 = ad.block) ∧ Below B w w' ∧ w.heap.size ≤ g
section
variable {X : List (Nat × Obj)} {B : Nat} {w w' w0 : World} {d m : Nat} {S S2 : DS} {R : RS} {φ : List Nat} {n : Nat}
theorem two_drawn (h : Two X B w d m S R) (hd : Drawn0 w w') : Two X B w' d m S R := by
  obtain ⟨nd, rfl⟩ := hd
  exact h.drewN nd
theorem below_drawn (h : Below B w0 w) (hd : Drawn0 w w') : Below B w0 w' := by
  obtain ⟨nd, rfl⟩ := hd
  exact pw_below_drewN h nd
set_option maxRecDepth 100000 in
set_option maxHeartbeats 8000000 in
theorem open_twoR (h : Two X B w d m S R) (hF : Fit S2 R φ n) (hn : n + 20 ≤ 8388608) :
    Calls Tryz.prog 16 #[.pointer (some ⟨m, 0, none⟩), .string nLog] w (OpenPostR X B w d m S (openR R)) := by
  have H := Aside0.mk h
  have HH := has_any hF h nLog
  obtain ⟨φ1, hs1, hbe⟩ := begun_sim hF.sim
  have F1 : Fit (begunD S2).1 (begunR R).1 φ1 (n + 6) := ⟨hs1, begunD_small hF.s, begunR_small hF.r, by omega⟩
  have F2 : Fit (cutD (begunD S2).1 (SCAN (begunR R).2.1)).1 (cutR (begunR R).1 (SCAN (begunR R).2.1)).1 φ1 (n + 7) := ⟨(cutD_sim hs1 _).1, cutD_small F1.s _, cutR_small F1.r _, by omega⟩
  have hz0 : (begunR R).2.1.size ≤ 8388608 := by rw [← hbe]; exact begun_size hF.s (by omega)
  obtain ⟨φ2, hs2, hw2⟩ := write_sim hF.sim nLog ⟨#[]⟩
  have Fw : Fit (S2.write nLog ⟨#[]⟩).1 (R.writeR nLog ⟨#[]⟩).1 φ2 (n + 5) := ⟨hs2, (hF.s.write nLog ⟨#[]⟩).mono (by show n + 3 + 0 + 2 ≤ n + 5; omega), (hF.r.write nLog ⟨#[]⟩).mono (by show n + 0 + 2 ≤ n + 5; omega), by omega⟩
  have CW : Aside0 (∀ {w1 : World}, Two X B w1 d m S R → Calls Tryz.prog 37 #[.pointer (some ⟨m, 0, none⟩), .string nLog, .string ⟨#[]⟩] w1 fun e w' => e = .returned (.tuple #[.int .i64 (R.writeR nLog ⟨#[]⟩).2.1, .int .i64 (R.writeR nLog ⟨#[]⟩).2.2]) ∧ Two X B w' d m S (R.writeR nLog ⟨#[]⟩).1 ∧ Below B w1 w') := ⟨fun h2 => write_twoR hF h2 nLog ⟨#[]⟩ (by decide)⟩
  have CN : Aside0 (∀ {w1 : World}, Two X B w1 d m S (R.writeR nLog ⟨#[]⟩).1 → Calls Tryz.prog 38 #[.pointer (some ⟨m, 0, none⟩)] w1 fun e w' => e = .returned (.int .i64 (R.writeR nLog ⟨#[]⟩).1.syncNamesR.2) ∧ Two X B w' d m S (R.writeR nLog ⟨#[]⟩).1.syncNamesR.1 ∧ Below B w1 w') := ⟨fun h2 => syncNames_twoR Fw h2⟩
  have CRd : Aside0 (∀ {w1 : World}, Two X B w1 d m S (begunR R).1 → Calls Tryz.prog 9 #[.pointer (some ⟨m, 0, none⟩), .string nLog] w1 fun e w' => e = .returned (.tuple #[.string ((begunR R).1.readR nLog).1, .int .i64 ((begunR R).1.readR nLog).2]) ∧ Drawn0 w1 w') := ⟨fun h2 => read_any F1 h2 nLog⟩
  clear h hF hn hbe hs1 hs2 hw2 Fw
  unfold openR endR
  by_cases hf : findI R.now nLog < 0
  · rw [decide_eq_true hf] at HH
    have HQ := Aside0.mk HH
    clear HH
    by_cases hwe : (R.writeR nLog ⟨#[]⟩).2.2 = 0
    · by_cases hse : (R.writeR nLog ⟨#[]⟩).1.syncNamesR.2 = 0
      · have hbg : begunR R = ((R.writeR nLog ⟨#[]⟩).1.syncNamesR.1, ((R.writeR nLog ⟨#[]⟩).1.syncNamesR.1.readR nLog).1, ((R.writeR nLog ⟨#[]⟩).1.syncNamesR.1.readR nLog).2) := by unfold begunR; rw [if_pos hf, if_pos hwe, if_pos hse]
        rw [hbg] at CRd F1 F2 hz0 ⊢
        rw [hse] at CN
        rw [hwe] at CW
        clear hbg hse hwe hf
        obtain ⟨k1, hk1⟩ : ∃ k1, k1 = (R.writeR nLog ⟨#[]⟩).2.1 := ⟨_, rfl⟩
        rw [← hk1] at CW
        clear hk1
        generalize (R.writeR nLog ⟨#[]⟩).1 = Rw at CW CN CRd F1 F2 hz0 ⊢
        generalize Rw.syncNamesR.1 = R1 at CN CRd F1 F2 hz0 ⊢
        dsimp only at CRd F1 F2 hz0 ⊢
        obtain ⟨z, e1, hrd⟩ : ∃ z e1, R1.readR nLog = (z, e1) := ⟨_, _, rfl⟩
        rw [hrd] at CRd F2 hz0 ⊢
        dsimp only at CRd F2 hz0 ⊢
        obtain ⟨l, sz, e2, hsc⟩ : ∃ l sz e2, SCAN z = (l, sz, e2) := ⟨_, _, _, rfl⟩
        have HSc : Aside0 (lodestarref09_Scan.f (12 * z.size + 400) z = some (l, sz, e2)) := ⟨by rw [refScan z _ (by omega) (Nat.le_refl _), hsc]⟩
        have hll := SCAN_length z
        rw [hsc] at F2 hll ⊢
        dsimp only at hll ⊢
        have HLL : Aside0 (l.length ≤ 8388608) := ⟨by omega⟩
        have CCut : Aside0 (∀ {X : List (Nat × Obj)} {w1 : World}, Two X B w1 d m S R1 → Calls Tryz.prog 40 #[.pointer (some ⟨m, 0, none⟩), .string nLog, .int .i64 sz] w1 fun e w' => e = .returned (.int .i64 (R1.cutR nLog sz).2) ∧ Two X B w' d m S (R1.cutR nLog sz).1 ∧ Below B w1 w') := ⟨fun h2 => cut_twoR F1 h2 nLog sz⟩
        have CSync : Aside0 (∀ {X : List (Nat × Obj)} {w1 : World}, Two X B w1 d m S (cutR R1 (l, sz, e2)).1 → Calls Tryz.prog 41 #[.pointer (some ⟨m, 0, none⟩), .string nLog] w1 fun e w' => e = .returned (.int .i64 ((cutR R1 (l, sz, e2)).1.syncR nLog).2) ∧ Two X B w' d m S ((cutR R1 (l, sz, e2)).1.syncR nLog).1 ∧ Below B w1 w') := ⟨fun h2 => sync_twoR F2 h2 nLog⟩
        clear F1 F2 hrd hsc hz0 hll
        by_cases he1 : e1 = 0
        · subst he1
          simp only [if_true]
          by_cases he2 : e2 = 90
          · subst he2
            simp only [if_true]
            go_enter Tryz.func16, Tryz.ntmps16
            go_wp2_with (first
              | (go_at_call 36; (with_reducible refine (HQ.out).mono ?_); rintro e w1 ⟨rfl, hd⟩; have L1 := Aside0.mk (two_drawn H.out hd); have B1 := Aside0.mk (below_drawn (Below.refl B w) hd); clear hd)
              | (go_at_call 37; (with_reducible refine (CW.out L1.out).mono ?_); rintro e wa ⟨rfl, hT, hB⟩; have La := Aside0.mk hT; have Ba := Aside0.mk (B1.out.trans hB); clear hT hB)
              | (go_at_call 38; (with_reducible refine (CN.out La.out).mono ?_); rintro e wb ⟨rfl, hT, hB⟩; have Lb := Aside0.mk hT; have Bb := Aside0.mk (Ba.out.trans hB); clear hT hB)
              | (go_at_call 9; (with_reducible refine (CRd.out Lb.out).mono ?_); rintro e w2 ⟨rfl, hd⟩; have L2 := Aside0.mk (two_drawn Lb.out hd); have B2 := Aside0.mk (below_drawn Bb.out hd); clear hd)
              | (go_at_call 39; (with_reducible refine (lodestarref09_Scan.calls _ z l sz 90 _ HSc.out).mono ?_); rintro e w3 ⟨v0, rfl, hR, hb⟩; obtain ⟨A, c, rfl, hlc, hC⟩ := Kd.R_reads hR; have HR := Aside0.mk hR; have HC3 := Aside0.mk hC; have HLC := Aside0.mk hlc; have L3 := Aside0.mk (L2.out.below hb); have B3 := Aside0.mk (B2.out.trans (hb.mono L2.out.size)); clear hR hlc hC hb)
              | go_in)
            go_ret3
            exact ⟨rfl, L3.out, B3.out⟩
          · have hz2 : (e2 == 90) = false := by simpa using he2
            simp only [if_neg he2]
            by_cases he3 : e2 = 91
            · subst he3
              have hc : cutR R1 (l, sz, 91) = R1.cutR nLog sz := if_pos rfl
              rw [hc] at CSync ⊢
              obtain ⟨R2, e3, hq⟩ : ∃ R2 e3, R1.cutR nLog sz = (R2, e3) := ⟨_, _, rfl⟩
              rw [hq] at CCut CSync ⊢
              dsimp only at CCut CSync ⊢
              clear hq hc
              by_cases hx3 : e3 = 0
              · subst hx3
                simp only [if_true]
                obtain ⟨R3, e4, hq4⟩ : ∃ R3 e4, (R2).syncR nLog = (R3, e4) := ⟨_, _, rfl⟩
                rw [hq4] at CSync ⊢
                dsimp only at CSync ⊢
                clear hq4
                by_cases he4 : e4 = 0
                · subst he4
                  simp only [if_true]
                  by_cases hl0 : l.length = 0
                  · have hd : decide ((0 : Int) < (l.length : Int)) = false := by rw [hl0]; rfl
                    go_enter Tryz.func16, Tryz.ntmps16
                    go_wp2_with (first
                      | (go_at_call 36; (with_reducible refine (HQ.out).mono ?_); rintro e w1 ⟨rfl, hd⟩; have L1 := Aside0.mk (two_drawn H.out hd); have B1 := Aside0.mk (below_drawn (Below.refl B w) hd); clear hd)
                      | (go_at_call 37; (with_reducible refine (CW.out L1.out).mono ?_); rintro e wa ⟨rfl, hT, hB⟩; have La := Aside0.mk hT; have Ba := Aside0.mk (B1.out.trans hB); clear hT hB)
                      | (go_at_call 38; (with_reducible refine (CN.out La.out).mono ?_); rintro e wb ⟨rfl, hT, hB⟩; have Lb := Aside0.mk hT; have Bb := Aside0.mk (Ba.out.trans hB); clear hT hB)
                      | (go_at_call 9; (with_reducible refine (CRd.out Lb.out).mono ?_); rintro e w2 ⟨rfl, hd⟩; have L2 := Aside0.mk (two_drawn Lb.out hd); have B2 := Aside0.mk (below_drawn Bb.out hd); clear hd)
                      | (go_at_call 39; (with_reducible refine (lodestarref09_Scan.calls _ z l sz 91 _ HSc.out).mono ?_); rintro e w3 ⟨v0, rfl, hR, hb⟩; obtain ⟨A, c, rfl, hlc, hC⟩ := Kd.R_reads hR; have HR := Aside0.mk hR; have HC3 := Aside0.mk hC; have HLC := Aside0.mk hlc; have L3 := Aside0.mk (L2.out.below hb); have B3 := Aside0.mk (B2.out.trans (hb.mono L2.out.size)); clear hR hlc hC hb)
                      | (go_at_call 40; (with_reducible refine (CCut.out L3.out).mono ?_); rintro e w4 ⟨rfl, hT, hB⟩; have L4 := Aside0.mk hT; have B4 := Aside0.mk (B3.out.trans hB); clear hT hB)
                      | (go_at_call 41; (with_reducible refine (CSync.out L4.out).mono ?_); rintro e w7 ⟨rfl, hT, hB⟩; have L7 := Aside0.mk hT; have B7 := Aside0.mk (B4.out.trans hB); clear hT hB)
                      | go_in)
                    go_ret3
                    have hle : l = [] := List.eq_nil_of_length_eq_zero hl0
                    have hlast : lastOf l = 0 := by rw [hle]; rfl
                    have hb8 := (Below.refl w7.heap.size w7).alloc (Nat.le_refl _) (logR m sz (lastOf l) false)
                    have L8 := L7.out.new hb8 (Nat.le_refl _) (heap_alloc_new w7 (logR m sz (lastOf l) false))
                    have hbe := B7.out.trans (hb8.mono L7.out.size)
                    have hw : w7.alloc (.cells #[.pointer (some ⟨m, 0, none⟩), .string nLog, .int .i64 0, .int .i64 sz, .bool false] 53) = w7.alloc (logR m sz (lastOf l) false) := by rw [hlast]; rfl
                    rw [hw]
                    exact ⟨A, c, w7.heap.size, [], (by rw [hl0]; rfl), HLC.out, ⟨rfl, (by rw [hl0]; omega), fun h => (by omega)⟩, L8, (fun y hy => by cases hy), (fun ad _ h => by omega), hbe, B7.out.size⟩
                  · obtain ⟨q, hq⟩ : ∃ q, l.length = q + 1 := ⟨l.length - 1, by omega⟩
                    have hd : decide ((0 : Int) < (l.length : Int)) = true := by simp; omega
                    have HQL := Aside0.mk hq
                    have hq2 : q ≤ 8388608 := by have := HLL.out; omega
                    go_enter Tryz.func16, Tryz.ntmps16
                    go_wp2_with (first
                      | (go_at_call 36; (with_reducible refine (HQ.out).mono ?_); rintro e w1 ⟨rfl, hd⟩; have L1 := Aside0.mk (two_drawn H.out hd); have B1 := Aside0.mk (below_drawn (Below.refl B w) hd); clear hd)
                      | (go_at_call 37; (with_reducible refine (CW.out L1.out).mono ?_); rintro e wa ⟨rfl, hT, hB⟩; have La := Aside0.mk hT; have Ba := Aside0.mk (B1.out.trans hB); clear hT hB)
                      | (go_at_call 38; (with_reducible refine (CN.out La.out).mono ?_); rintro e wb ⟨rfl, hT, hB⟩; have Lb := Aside0.mk hT; have Bb := Aside0.mk (Ba.out.trans hB); clear hT hB)
                      | (go_at_call 9; (with_reducible refine (CRd.out Lb.out).mono ?_); rintro e w2 ⟨rfl, hd⟩; have L2 := Aside0.mk (two_drawn Lb.out hd); have B2 := Aside0.mk (below_drawn Bb.out hd); clear hd)
                      | (go_at_call 39; (with_reducible refine (lodestarref09_Scan.calls _ z l sz 91 _ HSc.out).mono ?_); rintro e w3 ⟨v0, rfl, hR, hb⟩; obtain ⟨A, c, rfl, hlc, hC⟩ := Kd.R_reads hR; have HR := Aside0.mk hR; have HC3 := Aside0.mk hC; have HLC := Aside0.mk hlc; obtain ⟨gr, cs, rfl, hgr, hrow⟩ := rows_of hR HQL.out; have L3 := Aside0.mk (L2.out.new hb hgr hrow); have B3 := Aside0.mk (B2.out.trans (hb.mono L2.out.size)); clear hR hlc hC hb)
                      | (go_at_call 40; (with_reducible refine (CCut.out L3.out).mono ?_); rintro e w4 ⟨rfl, hT, hB⟩; have L4 := Aside0.mk hT; have B4 := Aside0.mk (B3.out.trans hB); clear hT hB)
                      | (go_at_call 41; (with_reducible refine (CSync.out L4.out).mono ?_); rintro e w7 ⟨rfl, hT, hB⟩; have L7 := Aside0.mk hT; have B7 := Aside0.mk (B4.out.trans hB); have hx3 := L3.out.at (List.mem_cons_self ..); have hx7 := hT.at (List.mem_cons_self ..); have HC7 := Aside0.mk (c61_move HC3.out (fun ad hA => by cases hA; exact hx7.trans hx3.symm)); have x0 := (last_cell' HC7.out HQL.out); have hgl := blk_lt hx7; clear hx3 hx7; clear hT hB)
                      | go_in)
                    go_ret3
                    have hb8 := (Below.refl w7.heap.size w7).alloc (Nat.le_refl _) (logR m sz (lastOf l) false)
                    have L8 := L7.out.new hb8 (Nat.le_refl _) (heap_alloc_new w7 (logR m sz (lastOf l) false))
                    have hbe := B7.out.trans (hb8.mono L7.out.size)
                    have HC8 := c61_move HC7.out (w' := w7.alloc (logR m sz (lastOf l) false)) (fun ad hA => by cases hA; exact hb8.block gr hgl)
                    exact ⟨some ⟨gr, 0, none⟩, c, w7.heap.size, [(gr, .cells cs 61 (0, 0))], (by rw [HQL.out]; rfl), HLC.out, HC8, L8, (fun y hy => by rw [List.mem_singleton.1 hy]; exact ⟨cs, rfl⟩), (fun ad hA _ => ⟨_, List.mem_cons_self .., by cases hA; rfl⟩), hbe, B7.out.size⟩
                · have hz4 : (e4 == 0) = false := by simpa using he4
                  simp only [if_neg he4]
                  go_enter Tryz.func16, Tryz.ntmps16
                  go_wp2_with (first
                    | (go_at_call 36; (with_reducible refine (HQ.out).mono ?_); rintro e w1 ⟨rfl, hd⟩; have L1 := Aside0.mk (two_drawn H.out hd); have B1 := Aside0.mk (below_drawn (Below.refl B w) hd); clear hd)
                    | (go_at_call 37; (with_reducible refine (CW.out L1.out).mono ?_); rintro e wa ⟨rfl, hT, hB⟩; have La := Aside0.mk hT; have Ba := Aside0.mk (B1.out.trans hB); clear hT hB)
                    | (go_at_call 38; (with_reducible refine (CN.out La.out).mono ?_); rintro e wb ⟨rfl, hT, hB⟩; have Lb := Aside0.mk hT; have Bb := Aside0.mk (Ba.out.trans hB); clear hT hB)
                    | (go_at_call 9; (with_reducible refine (CRd.out Lb.out).mono ?_); rintro e w2 ⟨rfl, hd⟩; have L2 := Aside0.mk (two_drawn Lb.out hd); have B2 := Aside0.mk (below_drawn Bb.out hd); clear hd)
                    | (go_at_call 39; (with_reducible refine (lodestarref09_Scan.calls _ z l sz 91 _ HSc.out).mono ?_); rintro e w3 ⟨v0, rfl, hR, hb⟩; obtain ⟨A, c, rfl, hlc, hC⟩ := Kd.R_reads hR; have HR := Aside0.mk hR; have HC3 := Aside0.mk hC; have HLC := Aside0.mk hlc; have L3 := Aside0.mk (L2.out.below hb); have B3 := Aside0.mk (B2.out.trans (hb.mono L2.out.size)); clear hR hlc hC hb)
                    | (go_at_call 40; (with_reducible refine (CCut.out L3.out).mono ?_); rintro e w4 ⟨rfl, hT, hB⟩; have L4 := Aside0.mk hT; have B4 := Aside0.mk (B3.out.trans hB); clear hT hB)
                    | (go_at_call 41; (with_reducible refine (CSync.out L4.out).mono ?_); rintro e w7 ⟨rfl, hT, hB⟩; have L7 := Aside0.mk hT; have B7 := Aside0.mk (B4.out.trans hB); clear hT hB)
                    | go_in)
                  go_ret3
                  exact ⟨rfl, L7.out, B7.out⟩
              · have hz3 : (e3 == 0) = false := by simpa using hx3
                simp only [if_neg hx3]
                go_enter Tryz.func16, Tryz.ntmps16
                go_wp2_with (first
                  | (go_at_call 36; (with_reducible refine (HQ.out).mono ?_); rintro e w1 ⟨rfl, hd⟩; have L1 := Aside0.mk (two_drawn H.out hd); have B1 := Aside0.mk (below_drawn (Below.refl B w) hd); clear hd)
                  | (go_at_call 37; (with_reducible refine (CW.out L1.out).mono ?_); rintro e wa ⟨rfl, hT, hB⟩; have La := Aside0.mk hT; have Ba := Aside0.mk (B1.out.trans hB); clear hT hB)
                  | (go_at_call 38; (with_reducible refine (CN.out La.out).mono ?_); rintro e wb ⟨rfl, hT, hB⟩; have Lb := Aside0.mk hT; have Bb := Aside0.mk (Ba.out.trans hB); clear hT hB)
                  | (go_at_call 9; (with_reducible refine (CRd.out Lb.out).mono ?_); rintro e w2 ⟨rfl, hd⟩; have L2 := Aside0.mk (two_drawn Lb.out hd); have B2 := Aside0.mk (below_drawn Bb.out hd); clear hd)
                  | (go_at_call 39; (with_reducible refine (lodestarref09_Scan.calls _ z l sz 91 _ HSc.out).mono ?_); rintro e w3 ⟨v0, rfl, hR, hb⟩; obtain ⟨A, c, rfl, hlc, hC⟩ := Kd.R_reads hR; have HR := Aside0.mk hR; have HC3 := Aside0.mk hC; have HLC := Aside0.mk hlc; have L3 := Aside0.mk (L2.out.below hb); have B3 := Aside0.mk (B2.out.trans (hb.mono L2.out.size)); clear hR hlc hC hb)
                  | (go_at_call 40; (with_reducible refine (CCut.out L3.out).mono ?_); rintro e w4 ⟨rfl, hT, hB⟩; have L4 := Aside0.mk hT; have B4 := Aside0.mk (B3.out.trans hB); clear hT hB)
                  | go_in)
                go_ret3
                exact ⟨rfl, L4.out, B4.out⟩
            · have hz3 : (e2 == 91) = false := by simpa using he3
              have hc : cutR R1 (l, sz, e2) = (R1, 0) := if_neg he3
              rw [hc] at CSync ⊢
              dsimp only at CSync ⊢
              simp only [if_true]
              clear hc
              obtain ⟨R3, e4, hq4⟩ : ∃ R3 e4, (R1).syncR nLog = (R3, e4) := ⟨_, _, rfl⟩
              rw [hq4] at CSync ⊢
              dsimp only at CSync ⊢
              clear hq4
              by_cases he4 : e4 = 0
              · subst he4
                simp only [if_true]
                by_cases hl0 : l.length = 0
                · have hd : decide ((0 : Int) < (l.length : Int)) = false := by rw [hl0]; rfl
                  go_enter Tryz.func16, Tryz.ntmps16
                  go_wp2_with (first
                    | (go_at_call 36; (with_reducible refine (HQ.out).mono ?_); rintro e w1 ⟨rfl, hd⟩; have L1 := Aside0.mk (two_drawn H.out hd); have B1 := Aside0.mk (below_drawn (Below.refl B w) hd); clear hd)
                    | (go_at_call 37; (with_reducible refine (CW.out L1.out).mono ?_); rintro e wa ⟨rfl, hT, hB⟩; have La := Aside0.mk hT; have Ba := Aside0.mk (B1.out.trans hB); clear hT hB)
                    | (go_at_call 38; (with_reducible refine (CN.out La.out).mono ?_); rintro e wb ⟨rfl, hT, hB⟩; have Lb := Aside0.mk hT; have Bb := Aside0.mk (Ba.out.trans hB); clear hT hB)
                    | (go_at_call 9; (with_reducible refine (CRd.out Lb.out).mono ?_); rintro e w2 ⟨rfl, hd⟩; have L2 := Aside0.mk (two_drawn Lb.out hd); have B2 := Aside0.mk (below_drawn Bb.out hd); clear hd)
                    | (go_at_call 39; (with_reducible refine (lodestarref09_Scan.calls _ z l sz e2 _ HSc.out).mono ?_); rintro e w3 ⟨v0, rfl, hR, hb⟩; obtain ⟨A, c, rfl, hlc, hC⟩ := Kd.R_reads hR; have HR := Aside0.mk hR; have HC3 := Aside0.mk hC; have HLC := Aside0.mk hlc; have L3 := Aside0.mk (L2.out.below hb); have B3 := Aside0.mk (B2.out.trans (hb.mono L2.out.size)); clear hR hlc hC hb)
                    | (go_at_call 41; (with_reducible refine (CSync.out L3.out).mono ?_); rintro e w7 ⟨rfl, hT, hB⟩; have L7 := Aside0.mk hT; have B7 := Aside0.mk (B3.out.trans hB); clear hT hB)
                    | go_in)
                  go_ret3
                  have hle : l = [] := List.eq_nil_of_length_eq_zero hl0
                  have hlast : lastOf l = 0 := by rw [hle]; rfl
                  have hb8 := (Below.refl w7.heap.size w7).alloc (Nat.le_refl _) (logR m sz (lastOf l) false)
                  have L8 := L7.out.new hb8 (Nat.le_refl _) (heap_alloc_new w7 (logR m sz (lastOf l) false))
                  have hbe := B7.out.trans (hb8.mono L7.out.size)
                  have hw : w7.alloc (.cells #[.pointer (some ⟨m, 0, none⟩), .string nLog, .int .i64 0, .int .i64 sz, .bool false] 53) = w7.alloc (logR m sz (lastOf l) false) := by rw [hlast]; rfl
                  rw [hw]
                  exact ⟨A, c, w7.heap.size, [], (by rw [hl0]; rfl), HLC.out, ⟨rfl, (by rw [hl0]; omega), fun h => (by omega)⟩, L8, (fun y hy => by cases hy), (fun ad _ h => by omega), hbe, B7.out.size⟩
                · obtain ⟨q, hq⟩ : ∃ q, l.length = q + 1 := ⟨l.length - 1, by omega⟩
                  have hd : decide ((0 : Int) < (l.length : Int)) = true := by simp; omega
                  have HQL := Aside0.mk hq
                  have hq2 : q ≤ 8388608 := by have := HLL.out; omega
                  go_enter Tryz.func16, Tryz.ntmps16
                  go_wp2_with (first
                    | (go_at_call 36; (with_reducible refine (HQ.out).mono ?_); rintro e w1 ⟨rfl, hd⟩; have L1 := Aside0.mk (two_drawn H.out hd); have B1 := Aside0.mk (below_drawn (Below.refl B w) hd); clear hd)
                    | (go_at_call 37; (with_reducible refine (CW.out L1.out).mono ?_); rintro e wa ⟨rfl, hT, hB⟩; have La := Aside0.mk hT; have Ba := Aside0.mk (B1.out.trans hB); clear hT hB)
                    | (go_at_call 38; (with_reducible refine (CN.out La.out).mono ?_); rintro e wb ⟨rfl, hT, hB⟩; have Lb := Aside0.mk hT; have Bb := Aside0.mk (Ba.out.trans hB); clear hT hB)
                    | (go_at_call 9; (with_reducible refine (CRd.out Lb.out).mono ?_); rintro e w2 ⟨rfl, hd⟩; have L2 := Aside0.mk (two_drawn Lb.out hd); have B2 := Aside0.mk (below_drawn Bb.out hd); clear hd)
                    | (go_at_call 39; (with_reducible refine (lodestarref09_Scan.calls _ z l sz e2 _ HSc.out).mono ?_); rintro e w3 ⟨v0, rfl, hR, hb⟩; obtain ⟨A, c, rfl, hlc, hC⟩ := Kd.R_reads hR; have HR := Aside0.mk hR; have HC3 := Aside0.mk hC; have HLC := Aside0.mk hlc; obtain ⟨gr, cs, rfl, hgr, hrow⟩ := rows_of hR HQL.out; have L3 := Aside0.mk (L2.out.new hb hgr hrow); have B3 := Aside0.mk (B2.out.trans (hb.mono L2.out.size)); clear hR hlc hC hb)
                    | (go_at_call 41; (with_reducible refine (CSync.out L3.out).mono ?_); rintro e w7 ⟨rfl, hT, hB⟩; have L7 := Aside0.mk hT; have B7 := Aside0.mk (B3.out.trans hB); have hx3 := L3.out.at (List.mem_cons_self ..); have hx7 := hT.at (List.mem_cons_self ..); have HC7 := Aside0.mk (c61_move HC3.out (fun ad hA => by cases hA; exact hx7.trans hx3.symm)); have x0 := (last_cell' HC7.out HQL.out); have hgl := blk_lt hx7; clear hx3 hx7; clear hT hB)
                    | go_in)
                  go_ret3
                  have hb8 := (Below.refl w7.heap.size w7).alloc (Nat.le_refl _) (logR m sz (lastOf l) false)
                  have L8 := L7.out.new hb8 (Nat.le_refl _) (heap_alloc_new w7 (logR m sz (lastOf l) false))
                  have hbe := B7.out.trans (hb8.mono L7.out.size)
                  have HC8 := c61_move HC7.out (w' := w7.alloc (logR m sz (lastOf l) false)) (fun ad hA => by cases hA; exact hb8.block gr hgl)
                  exact ⟨some ⟨gr, 0, none⟩, c, w7.heap.size, [(gr, .cells cs 61 (0, 0))], (by rw [HQL.out]; rfl), HLC.out, HC8, L8, (fun y hy => by rw [List.mem_singleton.1 hy]; exact ⟨cs, rfl⟩), (fun ad hA _ => ⟨_, List.mem_cons_self .., by cases hA; rfl⟩), hbe, B7.out.size⟩
              · have hz4 : (e4 == 0) = false := by simpa using he4
                simp only [if_neg he4]
                go_enter Tryz.func16, Tryz.ntmps16
                go_wp2_with (first
                  | (go_at_call 36; (with_reducible refine (HQ.out).mono ?_); rintro e w1 ⟨rfl, hd⟩; have L1 := Aside0.mk (two_drawn H.out hd); have B1 := Aside0.mk (below_drawn (Below.refl B w) hd); clear hd)
                  | (go_at_call 37; (with_reducible refine (CW.out L1.out).mono ?_); rintro e wa ⟨rfl, hT, hB⟩; have La := Aside0.mk hT; have Ba := Aside0.mk (B1.out.trans hB); clear hT hB)
                  | (go_at_call 38; (with_reducible refine (CN.out La.out).mono ?_); rintro e wb ⟨rfl, hT, hB⟩; have Lb := Aside0.mk hT; have Bb := Aside0.mk (Ba.out.trans hB); clear hT hB)
                  | (go_at_call 9; (with_reducible refine (CRd.out Lb.out).mono ?_); rintro e w2 ⟨rfl, hd⟩; have L2 := Aside0.mk (two_drawn Lb.out hd); have B2 := Aside0.mk (below_drawn Bb.out hd); clear hd)
                  | (go_at_call 39; (with_reducible refine (lodestarref09_Scan.calls _ z l sz e2 _ HSc.out).mono ?_); rintro e w3 ⟨v0, rfl, hR, hb⟩; obtain ⟨A, c, rfl, hlc, hC⟩ := Kd.R_reads hR; have HR := Aside0.mk hR; have HC3 := Aside0.mk hC; have HLC := Aside0.mk hlc; have L3 := Aside0.mk (L2.out.below hb); have B3 := Aside0.mk (B2.out.trans (hb.mono L2.out.size)); clear hR hlc hC hb)
                  | (go_at_call 41; (with_reducible refine (CSync.out L3.out).mono ?_); rintro e w7 ⟨rfl, hT, hB⟩; have L7 := Aside0.mk hT; have B7 := Aside0.mk (B3.out.trans hB); clear hT hB)
                  | go_in)
                go_ret3
                exact ⟨rfl, L7.out, B7.out⟩
        · have hz : (e1 == 0) = false := by simpa using he1
          simp only [if_neg he1]
          go_enter Tryz.func16, Tryz.ntmps16
          go_wp2_with (first
            | (go_at_call 36; (with_reducible refine (HQ.out).mono ?_); rintro e w1 ⟨rfl, hd⟩; have L1 := Aside0.mk (two_drawn H.out hd); have B1 := Aside0.mk (below_drawn (Below.refl B w) hd); clear hd)
            | (go_at_call 37; (with_reducible refine (CW.out L1.out).mono ?_); rintro e wa ⟨rfl, hT, hB⟩; have La := Aside0.mk hT; have Ba := Aside0.mk (B1.out.trans hB); clear hT hB)
            | (go_at_call 38; (with_reducible refine (CN.out La.out).mono ?_); rintro e wb ⟨rfl, hT, hB⟩; have Lb := Aside0.mk hT; have Bb := Aside0.mk (Ba.out.trans hB); clear hT hB)
            | (go_at_call 9; (with_reducible refine (CRd.out Lb.out).mono ?_); rintro e w2 ⟨rfl, hd⟩; have L2 := Aside0.mk (two_drawn Lb.out hd); have B2 := Aside0.mk (below_drawn Bb.out hd); clear hd)
            | go_in)
          go_ret3
          exact ⟨rfl, L2.out, B2.out⟩
      · have hbg : begunR R = ((R.writeR nLog ⟨#[]⟩).1.syncNamesR.1, ⟨#[]⟩, (R.writeR nLog ⟨#[]⟩).1.syncNamesR.2) := by unfold begunR; rw [if_pos hf, if_pos hwe, if_neg hse]
        rw [hbg]
        dsimp only
        rw [if_neg hse]
        rw [hwe] at CW
        obtain ⟨k1, hk1⟩ : ∃ k1, k1 = (R.writeR nLog ⟨#[]⟩).2.1 := ⟨_, rfl⟩
        rw [← hk1] at CW
        generalize (R.writeR nLog ⟨#[]⟩).1 = Rw at CW CN hse ⊢
        obtain ⟨R1, se, hq⟩ : ∃ R1 se, Rw.syncNamesR = (R1, se) := ⟨_, _, rfl⟩
        rw [hq] at CN hse ⊢
        dsimp only at CN hse ⊢
        have hz : (se == 0) = false := by simpa using hse
        clear hbg F1 F2 hz0 CRd hk1 hq hse hwe hf
        go_enter Tryz.func16, Tryz.ntmps16
        go_wp2_with (first
          | (go_at_call 36; (with_reducible refine (HQ.out).mono ?_); rintro e w1 ⟨rfl, hd⟩; have L1 := Aside0.mk (two_drawn H.out hd); have B1 := Aside0.mk (below_drawn (Below.refl B w) hd); clear hd)
          | (go_at_call 37; (with_reducible refine (CW.out L1.out).mono ?_); rintro e wa ⟨rfl, hT, hB⟩; have La := Aside0.mk hT; have Ba := Aside0.mk (B1.out.trans hB); clear hT hB)
          | (go_at_call 38; (with_reducible refine (CN.out La.out).mono ?_); rintro e wb ⟨rfl, hT, hB⟩; have Lb := Aside0.mk hT; have Bb := Aside0.mk (Ba.out.trans hB); clear hT hB)
          | go_in)
        go_ret3
        exact ⟨rfl, Lb.out, Bb.out⟩
    · have hbg : begunR R = ((R.writeR nLog ⟨#[]⟩).1, ⟨#[]⟩, (R.writeR nLog ⟨#[]⟩).2.2) := by unfold begunR; rw [if_pos hf, if_neg hwe]
      rw [hbg]
      dsimp only
      rw [if_neg hwe]
      obtain ⟨R1, k1, we, hq⟩ : ∃ R1 k1 we, R.writeR nLog ⟨#[]⟩ = (R1, k1, we) := ⟨_, _, _, rfl⟩
      rw [hq] at CW hwe ⊢
      dsimp only at CW hwe ⊢
      have hz : (we == 0) = false := by simpa using hwe
      clear hbg F1 F2 hz0 CRd CN hq hwe hf
      go_enter Tryz.func16, Tryz.ntmps16
      go_wp2_with (first
        | (go_at_call 36; (with_reducible refine (HQ.out).mono ?_); rintro e w1 ⟨rfl, hd⟩; have L1 := Aside0.mk (two_drawn H.out hd); have B1 := Aside0.mk (below_drawn (Below.refl B w) hd); clear hd)
        | (go_at_call 37; (with_reducible refine (CW.out L1.out).mono ?_); rintro e wa ⟨rfl, hT, hB⟩; have La := Aside0.mk hT; have Ba := Aside0.mk (B1.out.trans hB); clear hT hB)
        | go_in)
      go_ret3
      exact ⟨rfl, La.out, Ba.out⟩
  · rw [decide_eq_false hf] at HH
    have HQ := Aside0.mk HH
    clear HH
    have hbg : begunR R = (R, (R.readR nLog).1, (R.readR nLog).2) := by unfold begunR; rw [if_neg hf]
    rw [hbg] at CRd F1 F2 hz0 ⊢
    clear hbg hf CW CN
    obtain ⟨R1, hR1⟩ : ∃ R1, R1 = R := ⟨_, rfl⟩
    rw [← hR1] at CRd F1 F2 hz0 H ⊢
    clear hR1
    dsimp only at CRd F1 F2 hz0 ⊢
    obtain ⟨z, e1, hrd⟩ : ∃ z e1, R1.readR nLog = (z, e1) := ⟨_, _, rfl⟩
    rw [hrd] at CRd F2 hz0 ⊢
    dsimp only at CRd F2 hz0 ⊢
    obtain ⟨l, sz, e2, hsc⟩ : ∃ l sz e2, SCAN z = (l, sz, e2) := ⟨_, _, _, rfl⟩
    have HSc : Aside0 (lodestarref09_Scan.f (12 * z.size + 400) z = some (l, sz, e2)) := ⟨by rw [refScan z _ (by omega) (Nat.le_refl _), hsc]⟩
    have hll := SCAN_length z
    rw [hsc] at F2 hll ⊢
    dsimp only at hll ⊢
    have HLL : Aside0 (l.length ≤ 8388608) := ⟨by omega⟩
    have CCut : Aside0 (∀ {X : List (Nat × Obj)} {w1 : World}, Two X B w1 d m S R1 → Calls Tryz.prog 40 #[.pointer (some ⟨m, 0, none⟩), .string nLog, .int .i64 sz] w1 fun e w' => e = .returned (.int .i64 (R1.cutR nLog sz).2) ∧ Two X B w' d m S (R1.cutR nLog sz).1 ∧ Below B w1 w') := ⟨fun h2 => cut_twoR F1 h2 nLog sz⟩
    have CSync : Aside0 (∀ {X : List (Nat × Obj)} {w1 : World}, Two X B w1 d m S (cutR R1 (l, sz, e2)).1 → Calls Tryz.prog 41 #[.pointer (some ⟨m, 0, none⟩), .string nLog] w1 fun e w' => e = .returned (.int .i64 ((cutR R1 (l, sz, e2)).1.syncR nLog).2) ∧ Two X B w' d m S ((cutR R1 (l, sz, e2)).1.syncR nLog).1 ∧ Below B w1 w') := ⟨fun h2 => sync_twoR F2 h2 nLog⟩
    clear F1 F2 hrd hsc hz0 hll
    by_cases he1 : e1 = 0
    · subst he1
      simp only [if_true]
      by_cases he2 : e2 = 90
      · subst he2
        simp only [if_true]
        go_enter Tryz.func16, Tryz.ntmps16
        go_wp2_with (first
          | (go_at_call 36; (with_reducible refine (HQ.out).mono ?_); rintro e w1 ⟨rfl, hd⟩; have L1 := Aside0.mk (two_drawn H.out hd); have B1 := Aside0.mk (below_drawn (Below.refl B w) hd); clear hd)
          | (go_at_call 9; (with_reducible refine (CRd.out L1.out).mono ?_); rintro e w2 ⟨rfl, hd⟩; have L2 := Aside0.mk (two_drawn L1.out hd); have B2 := Aside0.mk (below_drawn B1.out hd); clear hd)
          | (go_at_call 39; (with_reducible refine (lodestarref09_Scan.calls _ z l sz 90 _ HSc.out).mono ?_); rintro e w3 ⟨v0, rfl, hR, hb⟩; obtain ⟨A, c, rfl, hlc, hC⟩ := Kd.R_reads hR; have HR := Aside0.mk hR; have HC3 := Aside0.mk hC; have HLC := Aside0.mk hlc; have L3 := Aside0.mk (L2.out.below hb); have B3 := Aside0.mk (B2.out.trans (hb.mono L2.out.size)); clear hR hlc hC hb)
          | go_in)
        go_ret3
        exact ⟨rfl, L3.out, B3.out⟩
      · have hz2 : (e2 == 90) = false := by simpa using he2
        simp only [if_neg he2]
        by_cases he3 : e2 = 91
        · subst he3
          have hc : cutR R1 (l, sz, 91) = R1.cutR nLog sz := if_pos rfl
          rw [hc] at CSync ⊢
          obtain ⟨R2, e3, hq⟩ : ∃ R2 e3, R1.cutR nLog sz = (R2, e3) := ⟨_, _, rfl⟩
          rw [hq] at CCut CSync ⊢
          dsimp only at CCut CSync ⊢
          clear hq hc
          by_cases hx3 : e3 = 0
          · subst hx3
            simp only [if_true]
            obtain ⟨R3, e4, hq4⟩ : ∃ R3 e4, (R2).syncR nLog = (R3, e4) := ⟨_, _, rfl⟩
            rw [hq4] at CSync ⊢
            dsimp only at CSync ⊢
            clear hq4
            by_cases he4 : e4 = 0
            · subst he4
              simp only [if_true]
              by_cases hl0 : l.length = 0
              · have hd : decide ((0 : Int) < (l.length : Int)) = false := by rw [hl0]; rfl
                go_enter Tryz.func16, Tryz.ntmps16
                go_wp2_with (first
                  | (go_at_call 36; (with_reducible refine (HQ.out).mono ?_); rintro e w1 ⟨rfl, hd⟩; have L1 := Aside0.mk (two_drawn H.out hd); have B1 := Aside0.mk (below_drawn (Below.refl B w) hd); clear hd)
                  | (go_at_call 9; (with_reducible refine (CRd.out L1.out).mono ?_); rintro e w2 ⟨rfl, hd⟩; have L2 := Aside0.mk (two_drawn L1.out hd); have B2 := Aside0.mk (below_drawn B1.out hd); clear hd)
                  | (go_at_call 39; (with_reducible refine (lodestarref09_Scan.calls _ z l sz 91 _ HSc.out).mono ?_); rintro e w3 ⟨v0, rfl, hR, hb⟩; obtain ⟨A, c, rfl, hlc, hC⟩ := Kd.R_reads hR; have HR := Aside0.mk hR; have HC3 := Aside0.mk hC; have HLC := Aside0.mk hlc; have L3 := Aside0.mk (L2.out.below hb); have B3 := Aside0.mk (B2.out.trans (hb.mono L2.out.size)); clear hR hlc hC hb)
                  | (go_at_call 40; (with_reducible refine (CCut.out L3.out).mono ?_); rintro e w4 ⟨rfl, hT, hB⟩; have L4 := Aside0.mk hT; have B4 := Aside0.mk (B3.out.trans hB); clear hT hB)
                  | (go_at_call 41; (with_reducible refine (CSync.out L4.out).mono ?_); rintro e w7 ⟨rfl, hT, hB⟩; have L7 := Aside0.mk hT; have B7 := Aside0.mk (B4.out.trans hB); clear hT hB)
                  | go_in)
                go_ret3
                have hle : l = [] := List.eq_nil_of_length_eq_zero hl0
                have hlast : lastOf l = 0 := by rw [hle]; rfl
                have hb8 := (Below.refl w7.heap.size w7).alloc (Nat.le_refl _) (logR m sz (lastOf l) false)
                have L8 := L7.out.new hb8 (Nat.le_refl _) (heap_alloc_new w7 (logR m sz (lastOf l) false))
                have hbe := B7.out.trans (hb8.mono L7.out.size)
                have hw : w7.alloc (.cells #[.pointer (some ⟨m, 0, none⟩), .string nLog, .int .i64 0, .int .i64 sz, .bool false] 53) = w7.alloc (logR m sz (lastOf l) false) := by rw [hlast]; rfl
                rw [hw]
                exact ⟨A, c, w7.heap.size, [], (by rw [hl0]; rfl), HLC.out, ⟨rfl, (by rw [hl0]; omega), fun h => (by omega)⟩, L8, (fun y hy => by cases hy), (fun ad _ h => by omega), hbe, B7.out.size⟩
              · obtain ⟨q, hq⟩ : ∃ q, l.length = q + 1 := ⟨l.length - 1, by omega⟩
                have hd : decide ((0 : Int) < (l.length : Int)) = true := by simp; omega
                have HQL := Aside0.mk hq
                have hq2 : q ≤ 8388608 := by have := HLL.out; omega
                go_enter Tryz.func16, Tryz.ntmps16
                go_wp2_with (first
                  | (go_at_call 36; (with_reducible refine (HQ.out).mono ?_); rintro e w1 ⟨rfl, hd⟩; have L1 := Aside0.mk (two_drawn H.out hd); have B1 := Aside0.mk (below_drawn (Below.refl B w) hd); clear hd)
                  | (go_at_call 9; (with_reducible refine (CRd.out L1.out).mono ?_); rintro e w2 ⟨rfl, hd⟩; have L2 := Aside0.mk (two_drawn L1.out hd); have B2 := Aside0.mk (below_drawn B1.out hd); clear hd)
                  | (go_at_call 39; (with_reducible refine (lodestarref09_Scan.calls _ z l sz 91 _ HSc.out).mono ?_); rintro e w3 ⟨v0, rfl, hR, hb⟩; obtain ⟨A, c, rfl, hlc, hC⟩ := Kd.R_reads hR; have HR := Aside0.mk hR; have HC3 := Aside0.mk hC; have HLC := Aside0.mk hlc; obtain ⟨gr, cs, rfl, hgr, hrow⟩ := rows_of hR HQL.out; have L3 := Aside0.mk (L2.out.new hb hgr hrow); have B3 := Aside0.mk (B2.out.trans (hb.mono L2.out.size)); clear hR hlc hC hb)
                  | (go_at_call 40; (with_reducible refine (CCut.out L3.out).mono ?_); rintro e w4 ⟨rfl, hT, hB⟩; have L4 := Aside0.mk hT; have B4 := Aside0.mk (B3.out.trans hB); clear hT hB)
                  | (go_at_call 41; (with_reducible refine (CSync.out L4.out).mono ?_); rintro e w7 ⟨rfl, hT, hB⟩; have L7 := Aside0.mk hT; have B7 := Aside0.mk (B4.out.trans hB); have hx3 := L3.out.at (List.mem_cons_self ..); have hx7 := hT.at (List.mem_cons_self ..); have HC7 := Aside0.mk (c61_move HC3.out (fun ad hA => by cases hA; exact hx7.trans hx3.symm)); have x0 := (last_cell' HC7.out HQL.out); have hgl := blk_lt hx7; clear hx3 hx7; clear hT hB)
                  | go_in)
                go_ret3
                have hb8 := (Below.refl w7.heap.size w7).alloc (Nat.le_refl _) (logR m sz (lastOf l) false)
                have L8 := L7.out.new hb8 (Nat.le_refl _) (heap_alloc_new w7 (logR m sz (lastOf l) false))
                have hbe := B7.out.trans (hb8.mono L7.out.size)
                have HC8 := c61_move HC7.out (w' := w7.alloc (logR m sz (lastOf l) false)) (fun ad hA => by cases hA; exact hb8.block gr hgl)
                exact ⟨some ⟨gr, 0, none⟩, c, w7.heap.size, [(gr, .cells cs 61 (0, 0))], (by rw [HQL.out]; rfl), HLC.out, HC8, L8, (fun y hy => by rw [List.mem_singleton.1 hy]; exact ⟨cs, rfl⟩), (fun ad hA _ => ⟨_, List.mem_cons_self .., by cases hA; rfl⟩), hbe, B7.out.size⟩
            · have hz4 : (e4 == 0) = false := by simpa using he4
              simp only [if_neg he4]
              go_enter Tryz.func16, Tryz.ntmps16
              go_wp2_with (first
                | (go_at_call 36; (with_reducible refine (HQ.out).mono ?_); rintro e w1 ⟨rfl, hd⟩; have L1 := Aside0.mk (two_drawn H.out hd); have B1 := Aside0.mk (below_drawn (Below.refl B w) hd); clear hd)
                | (go_at_call 9; (with_reducible refine (CRd.out L1.out).mono ?_); rintro e w2 ⟨rfl, hd⟩; have L2 := Aside0.mk (two_drawn L1.out hd); have B2 := Aside0.mk (below_drawn B1.out hd); clear hd)
                | (go_at_call 39; (with_reducible refine (lodestarref09_Scan.calls _ z l sz 91 _ HSc.out).mono ?_); rintro e w3 ⟨v0, rfl, hR, hb⟩; obtain ⟨A, c, rfl, hlc, hC⟩ := Kd.R_reads hR; have HR := Aside0.mk hR; have HC3 := Aside0.mk hC; have HLC := Aside0.mk hlc; have L3 := Aside0.mk (L2.out.below hb); have B3 := Aside0.mk (B2.out.trans (hb.mono L2.out.size)); clear hR hlc hC hb)
                | (go_at_call 40; (with_reducible refine (CCut.out L3.out).mono ?_); rintro e w4 ⟨rfl, hT, hB⟩; have L4 := Aside0.mk hT; have B4 := Aside0.mk (B3.out.trans hB); clear hT hB)
                | (go_at_call 41; (with_reducible refine (CSync.out L4.out).mono ?_); rintro e w7 ⟨rfl, hT, hB⟩; have L7 := Aside0.mk hT; have B7 := Aside0.mk (B4.out.trans hB); clear hT hB)
                | go_in)
              go_ret3
              exact ⟨rfl, L7.out, B7.out⟩
          · have hz3 : (e3 == 0) = false := by simpa using hx3
            simp only [if_neg hx3]
            go_enter Tryz.func16, Tryz.ntmps16
            go_wp2_with (first
              | (go_at_call 36; (with_reducible refine (HQ.out).mono ?_); rintro e w1 ⟨rfl, hd⟩; have L1 := Aside0.mk (two_drawn H.out hd); have B1 := Aside0.mk (below_drawn (Below.refl B w) hd); clear hd)
              | (go_at_call 9; (with_reducible refine (CRd.out L1.out).mono ?_); rintro e w2 ⟨rfl, hd⟩; have L2 := Aside0.mk (two_drawn L1.out hd); have B2 := Aside0.mk (below_drawn B1.out hd); clear hd)
              | (go_at_call 39; (with_reducible refine (lodestarref09_Scan.calls _ z l sz 91 _ HSc.out).mono ?_); rintro e w3 ⟨v0, rfl, hR, hb⟩; obtain ⟨A, c, rfl, hlc, hC⟩ := Kd.R_reads hR; have HR := Aside0.mk hR; have HC3 := Aside0.mk hC; have HLC := Aside0.mk hlc; have L3 := Aside0.mk (L2.out.below hb); have B3 := Aside0.mk (B2.out.trans (hb.mono L2.out.size)); clear hR hlc hC hb)
              | (go_at_call 40; (with_reducible refine (CCut.out L3.out).mono ?_); rintro e w4 ⟨rfl, hT, hB⟩; have L4 := Aside0.mk hT; have B4 := Aside0.mk (B3.out.trans hB); clear hT hB)
              | go_in)
            go_ret3
            exact ⟨rfl, L4.out, B4.out⟩
        · have hz3 : (e2 == 91) = false := by simpa using he3
          have hc : cutR R1 (l, sz, e2) = (R1, 0) := if_neg he3
          rw [hc] at CSync ⊢
          dsimp only at CSync ⊢
          simp only [if_true]
          clear hc
          obtain ⟨R3, e4, hq4⟩ : ∃ R3 e4, (R1).syncR nLog = (R3, e4) := ⟨_, _, rfl⟩
          rw [hq4] at CSync ⊢
          dsimp only at CSync ⊢
          clear hq4
          by_cases he4 : e4 = 0
          · subst he4
            simp only [if_true]
            by_cases hl0 : l.length = 0
            · have hd : decide ((0 : Int) < (l.length : Int)) = false := by rw [hl0]; rfl
              go_enter Tryz.func16, Tryz.ntmps16
              go_wp2_with (first
                | (go_at_call 36; (with_reducible refine (HQ.out).mono ?_); rintro e w1 ⟨rfl, hd⟩; have L1 := Aside0.mk (two_drawn H.out hd); have B1 := Aside0.mk (below_drawn (Below.refl B w) hd); clear hd)
                | (go_at_call 9; (with_reducible refine (CRd.out L1.out).mono ?_); rintro e w2 ⟨rfl, hd⟩; have L2 := Aside0.mk (two_drawn L1.out hd); have B2 := Aside0.mk (below_drawn B1.out hd); clear hd)
                | (go_at_call 39; (with_reducible refine (lodestarref09_Scan.calls _ z l sz e2 _ HSc.out).mono ?_); rintro e w3 ⟨v0, rfl, hR, hb⟩; obtain ⟨A, c, rfl, hlc, hC⟩ := Kd.R_reads hR; have HR := Aside0.mk hR; have HC3 := Aside0.mk hC; have HLC := Aside0.mk hlc; have L3 := Aside0.mk (L2.out.below hb); have B3 := Aside0.mk (B2.out.trans (hb.mono L2.out.size)); clear hR hlc hC hb)
                | (go_at_call 41; (with_reducible refine (CSync.out L3.out).mono ?_); rintro e w7 ⟨rfl, hT, hB⟩; have L7 := Aside0.mk hT; have B7 := Aside0.mk (B3.out.trans hB); clear hT hB)
                | go_in)
              go_ret3
              have hle : l = [] := List.eq_nil_of_length_eq_zero hl0
              have hlast : lastOf l = 0 := by rw [hle]; rfl
              have hb8 := (Below.refl w7.heap.size w7).alloc (Nat.le_refl _) (logR m sz (lastOf l) false)
              have L8 := L7.out.new hb8 (Nat.le_refl _) (heap_alloc_new w7 (logR m sz (lastOf l) false))
              have hbe := B7.out.trans (hb8.mono L7.out.size)
              have hw : w7.alloc (.cells #[.pointer (some ⟨m, 0, none⟩), .string nLog, .int .i64 0, .int .i64 sz, .bool false] 53) = w7.alloc (logR m sz (lastOf l) false) := by rw [hlast]; rfl
              rw [hw]
              exact ⟨A, c, w7.heap.size, [], (by rw [hl0]; rfl), HLC.out, ⟨rfl, (by rw [hl0]; omega), fun h => (by omega)⟩, L8, (fun y hy => by cases hy), (fun ad _ h => by omega), hbe, B7.out.size⟩
            · obtain ⟨q, hq⟩ : ∃ q, l.length = q + 1 := ⟨l.length - 1, by omega⟩
              have hd : decide ((0 : Int) < (l.length : Int)) = true := by simp; omega
              have HQL := Aside0.mk hq
              have hq2 : q ≤ 8388608 := by have := HLL.out; omega
              go_enter Tryz.func16, Tryz.ntmps16
              go_wp2_with (first
                | (go_at_call 36; (with_reducible refine (HQ.out).mono ?_); rintro e w1 ⟨rfl, hd⟩; have L1 := Aside0.mk (two_drawn H.out hd); have B1 := Aside0.mk (below_drawn (Below.refl B w) hd); clear hd)
                | (go_at_call 9; (with_reducible refine (CRd.out L1.out).mono ?_); rintro e w2 ⟨rfl, hd⟩; have L2 := Aside0.mk (two_drawn L1.out hd); have B2 := Aside0.mk (below_drawn B1.out hd); clear hd)
                | (go_at_call 39; (with_reducible refine (lodestarref09_Scan.calls _ z l sz e2 _ HSc.out).mono ?_); rintro e w3 ⟨v0, rfl, hR, hb⟩; obtain ⟨A, c, rfl, hlc, hC⟩ := Kd.R_reads hR; have HR := Aside0.mk hR; have HC3 := Aside0.mk hC; have HLC := Aside0.mk hlc; obtain ⟨gr, cs, rfl, hgr, hrow⟩ := rows_of hR HQL.out; have L3 := Aside0.mk (L2.out.new hb hgr hrow); have B3 := Aside0.mk (B2.out.trans (hb.mono L2.out.size)); clear hR hlc hC hb)
                | (go_at_call 41; (with_reducible refine (CSync.out L3.out).mono ?_); rintro e w7 ⟨rfl, hT, hB⟩; have L7 := Aside0.mk hT; have B7 := Aside0.mk (B3.out.trans hB); have hx3 := L3.out.at (List.mem_cons_self ..); have hx7 := hT.at (List.mem_cons_self ..); have HC7 := Aside0.mk (c61_move HC3.out (fun ad hA => by cases hA; exact hx7.trans hx3.symm)); have x0 := (last_cell' HC7.out HQL.out); have hgl := blk_lt hx7; clear hx3 hx7; clear hT hB)
                | go_in)
              go_ret3
              have hb8 := (Below.refl w7.heap.size w7).alloc (Nat.le_refl _) (logR m sz (lastOf l) false)
              have L8 := L7.out.new hb8 (Nat.le_refl _) (heap_alloc_new w7 (logR m sz (lastOf l) false))
              have hbe := B7.out.trans (hb8.mono L7.out.size)
              have HC8 := c61_move HC7.out (w' := w7.alloc (logR m sz (lastOf l) false)) (fun ad hA => by cases hA; exact hb8.block gr hgl)
              exact ⟨some ⟨gr, 0, none⟩, c, w7.heap.size, [(gr, .cells cs 61 (0, 0))], (by rw [HQL.out]; rfl), HLC.out, HC8, L8, (fun y hy => by rw [List.mem_singleton.1 hy]; exact ⟨cs, rfl⟩), (fun ad hA _ => ⟨_, List.mem_cons_self .., by cases hA; rfl⟩), hbe, B7.out.size⟩
          · have hz4 : (e4 == 0) = false := by simpa using he4
            simp only [if_neg he4]
            go_enter Tryz.func16, Tryz.ntmps16
            go_wp2_with (first
              | (go_at_call 36; (with_reducible refine (HQ.out).mono ?_); rintro e w1 ⟨rfl, hd⟩; have L1 := Aside0.mk (two_drawn H.out hd); have B1 := Aside0.mk (below_drawn (Below.refl B w) hd); clear hd)
              | (go_at_call 9; (with_reducible refine (CRd.out L1.out).mono ?_); rintro e w2 ⟨rfl, hd⟩; have L2 := Aside0.mk (two_drawn L1.out hd); have B2 := Aside0.mk (below_drawn B1.out hd); clear hd)
              | (go_at_call 39; (with_reducible refine (lodestarref09_Scan.calls _ z l sz e2 _ HSc.out).mono ?_); rintro e w3 ⟨v0, rfl, hR, hb⟩; obtain ⟨A, c, rfl, hlc, hC⟩ := Kd.R_reads hR; have HR := Aside0.mk hR; have HC3 := Aside0.mk hC; have HLC := Aside0.mk hlc; have L3 := Aside0.mk (L2.out.below hb); have B3 := Aside0.mk (B2.out.trans (hb.mono L2.out.size)); clear hR hlc hC hb)
              | (go_at_call 41; (with_reducible refine (CSync.out L3.out).mono ?_); rintro e w7 ⟨rfl, hT, hB⟩; have L7 := Aside0.mk hT; have B7 := Aside0.mk (B3.out.trans hB); clear hT hB)
              | go_in)
            go_ret3
            exact ⟨rfl, L7.out, B7.out⟩
    · have hz : (e1 == 0) = false := by simpa using he1
      simp only [if_neg he1]
      go_enter Tryz.func16, Tryz.ntmps16
      go_wp2_with (first
        | (go_at_call 36; (with_reducible refine (HQ.out).mono ?_); rintro e w1 ⟨rfl, hd⟩; have L1 := Aside0.mk (two_drawn H.out hd); have B1 := Aside0.mk (below_drawn (Below.refl B w) hd); clear hd)
        | (go_at_call 9; (with_reducible refine (CRd.out L1.out).mono ?_); rintro e w2 ⟨rfl, hd⟩; have L2 := Aside0.mk (two_drawn L1.out hd); have B2 := Aside0.mk (below_drawn B1.out hd); clear hd)
        | go_in)
      go_ret3
      exact ⟨rfl, L2.out, B2.out⟩
end
end Go.Proofs.YtomhgoahhlnjpaaGreatDoor.Pl
