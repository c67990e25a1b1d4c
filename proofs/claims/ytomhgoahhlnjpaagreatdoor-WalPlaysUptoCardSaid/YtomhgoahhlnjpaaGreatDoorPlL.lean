/- Both logs opened: pair.open, walked. -/
import Derived.Test.YtomhgoahhlnjpaaGreatDoorPlE
import Derived.Test.YtomhgoahhlnjpaaGreatDoorPlF
import Derived.Test.YtomhgoahhlnjpaaGreatDoorPlK
namespace Go.Proofs.YtomhgoahhlnjpaaGreatDoor.Pl
open Go.RowKit Go.Maps Go.Sort Go.Proofs.YtomhgoahhlnjpaaGreatDoorW.PrintWords Go.Proofs.YtomhgoahhlnjpaaGreatDoor.PRef Go.Proofs.YtomhgoahhlnjpaaGreatDoor.Dk Go.Proofs.YtomhgoahhlnjpaaGreatDoor.Rf Go.Proofs.YtomhgoahhlnjpaaGreatDoor.WalN Go.Proofs.YtomhgoahhlnjpaaGreatDoor.PWal Go.Proofs.YtomhgoahhlnjpaaGreatDoor.WalB

/-- the pair's block -/
def pairO (d m : Nat) (lv mv : Value) (nx : Int) : Obj := .cells #[.pointer (some ⟨d, 0, none⟩), .pointer (some ⟨m, 0, none⟩), lv, mv, .int .i64 nx] 36 (0, 0)
/-- both disks and the pair; no log, or both logs, with the same numbers -/
def St (B P : Nat) (w : World) (d m : Nat) (S : DS) (R : RS) : Option Lg → Prop
  | none => ∃ nx, Two [(P, pairO d m (.pointer none) (.pointer none) nx)] B w d m S R
  | some l => ∃ g k nx, Two [(g, logO d l.sz l.last l.br), (k, logR m l.sz l.last l.br), (P, pairO d m (.pointer (some ⟨g, 0, none⟩)) (.pointer (some ⟨k, 0, none⟩)) nx)] B w d m S R ∧ B ≤ g ∧ B ≤ k
def OkL (L : Option Lg) (n : Nat) : Prop := ∀ l, L = some l → LgOk l n
/-- what a deed leaves -/
def Done (B P : Nat) (w w' : World) (d m n : Nat) : Prop := (∃ S R φ L, St B P w' d m S R L ∧ Fit S R φ n ∧ OkL L n) ∧ Below B w w'
section
variable {X : List (Nat × Obj)} {B P : Nat} {w : World} {d m : Nat} {S : DS} {R : RS} {φ : List Nat} {n : Nat} {p : Addr}
theorem cells_ne {w : World} {g k : Nat} {c1 c2 : Array Value} {t1 t2 : TypeId} (h1 : w.heap[g]? = some (.cells c1 t1 (0, 0))) (h2 : w.heap[k]? = some (.cells c2 t2 (0, 0))) (ht : t1 ≠ t2) : g ≠ k := by
  rintro rfl
  have h := h1.symm.trans h2
  injection h with h
  injection h with _ h _
  exact ht h
theorem row_still {A : Option Addr} {l : List S61} {Y : List (Nat × Obj)} {X X2 : List (Nat × Obj)} {w1 w2 : World} {S1 : DS} {R1 R2 : RS} {o1 o2 : Nat × Obj} {Y2 : List (Nat × Obj)} (h : Kd.C k61 w1 A l.length l) (hA : ∀ ad, A = some ad → 0 < l.length → ∃ y ∈ Y, y.1 = ad.block)
    (h1 : Two (o1 :: (Y ++ X)) B w1 d m S1 R1) (h2 : Two (o2 :: (Y2 ++ (o1 :: (Y ++ X2)))) B w2 d m S1 R2) : Kd.C k61 w2 A l.length l := by
  by_cases h0 : 0 < l.length
  · refine c61_move h (fun ad ha => ?_)
    obtain ⟨y, hy, he⟩ := hA ad ha h0
    have e1 := h1.at (g := y.1) (o := y.2) (List.mem_cons_of_mem _ (List.mem_append_left _ hy))
    have e2 := h2.at (g := y.1) (o := y.2) (List.mem_cons_of_mem _ (List.mem_append_right _ (List.mem_cons_of_mem _ (List.mem_append_left _ hy))))
    rw [← he]
    exact e2.trans e1.symm
  · have hl : l = [] := List.eq_nil_of_length_eq_zero (by omega)
    subst hl
    exact ⟨rfl, h.2.1, fun hx => absurd hx (by decide)⟩
/-- rows of records left behind -/
theorem three {w : World} {S1 : DS} {R1 : RS} {o1 o2 o3 : Nat × Obj} {Y Y2 : List (Nat × Obj)} (h : Two (o2 :: (Y2 ++ (o1 :: (Y ++ [o3])))) B w d m S1 R1) : Two [o3, o1, o2] B w d m S1 R1 :=
  h.less (fun x hx => by
    simp only [List.mem_cons, List.mem_append, List.not_mem_nil, or_false] at hx ⊢
    rcases hx with rfl | rfl | rfl
    · exact .inr (.inr (.inr (.inr rfl)))
    · exact .inr (.inr (.inl rfl))
    · exact .inl rfl)
theorem turn3 {o1 o2 o3 : Nat × Obj} : ∀ x ∈ [o1, o2, o3], x ∈ [o3, o1, o2] := fun x hx => by
  simp only [List.mem_cons, List.not_mem_nil, or_false] at hx ⊢
  rcases hx with rfl | rfl | rfl
  · exact .inr (.inl rfl)
  · exact .inr (.inr rfl)
  · exact .inl rfl
theorem open_len (h : SmallS S n) {l : List S61} {sz : Int} (ho : (openD S).2.1 = some (l, sz)) : l.length ≤ n := by
  have hz := begun_size h (Nat.le_refl n)
  have hs := SCAN_length (begunD S).2.1
  have e : (l, sz) = ((SCAN (begunD S).2.1).1, (SCAN (begunD S).2.1).2.1) := by
    unfold openD at ho
    split at ho
    · split at ho
      · cases ho
      · unfold endD at ho
        split at ho
        · split at ho
          · exact (Option.some.inj ho).symm
          · cases ho
        · cases ho
    · cases ho
  injection e with e1 e2
  subst e1
  omega
set_option maxRecDepth 100000 in
set_option maxHeartbeats 4000000 in
theorem opened_calls {lv mv : Value} {nx : Int} (h : Two [(P, pairO d m lv mv nx)] B w d m S R) (hP : B ≤ P) (hF : Fit S R φ n) (hn : n + 20 ≤ 8388608) (hG : Gl (.pointer (some p)) w) (h1 : 1 < B) :
    Calls Tryz.prog 6 #[.pointer (some ⟨P, 0, none⟩)] w fun e w' => e = .returned (.bool true) ∧ Done B P w w' d m (n + 8) := by
  obtain ⟨φ1, hF1, he⟩ := open_fit hF (by omega)
  have CO := open_two h hF hn hG h1
  have CR : ∀ {X : List (Nat × Obj)} {w1 : World} {S0 : DS}, Two X B w1 d m S0 R → Calls Tryz.prog 16 #[.pointer (some ⟨m, 0, none⟩), .string nLog] w1 (OpenPostR X B w1 d m S0 (openR R)) := fun h2 => open_twoR h2 hF hn
  have hok := fun {l : List S61} {sz : Int} (ho : (openD S).2.1 = some (l, sz)) => open_ok hF.s ho
  have her := open_err S
  obtain ⟨S1, o, e, hp⟩ : ∃ S1 o e, openD S = (S1, o, e) := ⟨_, _, _, rfl⟩
  obtain ⟨R1, o2, e2, hq⟩ : ∃ R1 o e, openR R = (R1, o, e) := ⟨_, _, _, rfl⟩
  rw [hp, hq] at he hF1
  rw [hp] at CO hok her
  rw [hq] at CR
  dsimp only at he hF1 hok her
  injection he with he1 he2
  subst he1 he2
  have hb := h.at (List.mem_cons_self ..)
  have hPl := blk_lt hb
  have HF1 := Aside0.mk hF1
  have HP := Aside0.mk hP
  cases o with
  | none =>
    have CO2 : Aside0 (Calls Tryz.prog 15 #[.pointer (some ⟨d, 0, none⟩), .string nLog] w fun ev w' => ev = .returned (.tuple #[.pointer none, .slice none 0 0, .int .i64 e]) ∧ Two [(P, pairO d m lv mv nx)] B w' d m S1 R ∧ Below B w w') := ⟨CO⟩
    have CR2 : Aside0 (∀ {w1 : World}, Two [(P, pairO d m lv mv nx)] B w1 d m S1 R → Calls Tryz.prog 16 #[.pointer (some ⟨m, 0, none⟩), .string nLog] w1 fun ev w' => ev = .returned (.tuple #[.pointer none, .slice none 0 0, .int .i64 e]) ∧ Two [(P, pairO d m lv mv nx)] B w' d m S1 R1 ∧ Below B w1 w') := ⟨fun h2 => CR h2⟩
    have hz : (e == 0) = false := by
      simp only [beq_eq_false_iff_ne]
      intro h0
      obtain ⟨x, hx⟩ := her.1 h0
      cases hx
    have hz2 : (!e != 0) = false := by rw [bne, hz]; rfl
    have CSm : Aside0 (∀ w1 : World, Calls Tryz.prog 14 #[.slice none 0 0, .slice none 0 0] w1 fun e w' => e = .returned (.bool true) ∧ Drawn0 w1 w') := ⟨fun w1 => lodestarref09_Same.calls 1 none 0 [] none 0 [] true w1 ⟨rfl, by decide, fun h => absurd h (by decide)⟩ (Nat.le_refl _) ⟨rfl, by decide, fun h => absurd h (by decide)⟩ (Nat.le_refl _) (same_self [] 1 (by decide) (by decide))⟩
    have z0 := blk_cell hb 0
    clear h hF hn hG h1 hP hF1 CO CR hok her hp hq hb
    go_enter Tryz.func6, Tryz.ntmps6
    go_wp2_with (first
      | (go_at_call 15; (with_reducible refine (CO2.out).mono ?_); rintro e w1 ⟨rfl, hT, hB⟩; have L1 := Aside0.mk hT; have B1 := Aside0.mk hB; have hb1 := hT.at (List.mem_cons_self ..); have z1 := blk_cell hb1 1; clear z0 hT hB hb1)
      | (go_at_call 16; (with_reducible refine (CR2.out L1.out).mono ?_); rintro e w2 ⟨rfl, hT, hB⟩; have L2 := Aside0.mk hT; have B2 := Aside0.mk (B1.out.trans hB); clear z1 hT hB)
      | (go_at_call 14; (with_reducible refine (CSm.out _).mono ?_); rintro e w3 ⟨rfl, hd⟩; have L3 := Aside0.mk (two_drawn L2.out hd); have B3 := Aside0.mk (below_drawn B2.out hd); have hb3 := L3.out.at (List.mem_cons_self ..); have v2 := blk_frozen hb3 2; have v3 := blk_frozen hb3 3; have v4 := blk_frozen hb3 4; have u2 := blk_cell hb3 2; have u3 := blk_cell hb3 3; have u4 := blk_cell hb3 4; have hPl3 := blk_lt hb3; clear hb3 hd)
      | go_in)
    go_ret
    have p1 := two_put L3.out 2 (.pointer none) (cs' := #[.pointer (some ⟨d, 0, none⟩), .pointer (some ⟨m, 0, none⟩), .pointer none, mv, .int .i64 nx]) rfl (fun x hx => by cases hx)
    have p2 := two_put p1 3 (.pointer none) (cs' := #[.pointer (some ⟨d, 0, none⟩), .pointer (some ⟨m, 0, none⟩), .pointer none, .pointer none, .int .i64 nx]) rfl (fun x hx => by cases hx)
    have p3 := two_put p2 4 (.int .i64 1) (cs' := #[.pointer (some ⟨d, 0, none⟩), .pointer (some ⟨m, 0, none⟩), .pointer none, .pointer none, .int .i64 1]) rfl (fun x hx => by cases hx)
    exact ⟨rfl, ⟨S1, R1, φ1, none, ⟨1, p3⟩, HF1.out, fun l hl => by cases hl⟩, ((B3.out.setCell HP.out _).setCell HP.out _).setCell HP.out _⟩
  | some x =>
    obtain ⟨l, sz⟩ := x
    obtain rfl : e = 0 := her.2 ⟨_, rfl⟩
    have hlen : l.length ≤ 1099511627776 := Nat.le_trans (open_len hF.s (by rw [hp])) (by omega)
    have HOK := Aside0.mk (LgOk.mono (hok rfl) (show n ≤ n + 8 by omega))
    have hls := HOK.out.l0
    have hll := HOK.out.l1
    dsimp only at hls hll
    have CO2 : Aside0 (Calls Tryz.prog 15 #[.pointer (some ⟨d, 0, none⟩), .string nLog] w fun ev w' => ∃ (A : Option Addr) (c g : Nat) (Y : List (Nat × Obj)), ev = .returned (.tuple #[.pointer (some ⟨g, 0, none⟩), .slice A l.length c, .int .i64 0]) ∧ l.length ≤ c ∧ Kd.C k61 w' A l.length l ∧
      Two ((g, logO d sz (lastOf l) false) :: (Y ++ [(P, pairO d m lv mv nx)])) B w' d m S1 R ∧ (∀ y ∈ Y, ∃ cs, y.2 = .cells cs 61 (0, 0)) ∧ (∀ ad, A = some ad → 0 < l.length → ∃ y ∈ Y, y.1 = ad.block) ∧ Below B w w' ∧ B ≤ g) := ⟨CO⟩
    have CR2 : Aside0 (∀ {X : List (Nat × Obj)} {w1 : World}, Two X B w1 d m S1 R → Calls Tryz.prog 16 #[.pointer (some ⟨m, 0, none⟩), .string nLog] w1 fun ev w' => ∃ (A : Option Addr) (c g : Nat) (Y : List (Nat × Obj)), ev = .returned (.tuple #[.pointer (some ⟨g, 0, none⟩), .slice A l.length c, .int .i64 0]) ∧ l.length ≤ c ∧ Kd.C k61 w' A l.length l ∧
      Two ((g, logR m sz (lastOf l) false) :: (Y ++ X)) B w' d m S1 R1 ∧ (∀ y ∈ Y, ∃ cs, y.2 = .cells cs 61 (0, 0)) ∧ (∀ ad, A = some ad → 0 < l.length → ∃ y ∈ Y, y.1 = ad.block) ∧ Below B w1 w' ∧ w1.heap.size ≤ g) := ⟨fun h2 => CR h2⟩
    have z0 := blk_cell hb 0
    have HLN : Aside0 (l.length ≤ 1099511627776) := ⟨hlen⟩
    clear h hF hn hG h1 hP hF1 CO CR hok her hp hq hb
    go_enter Tryz.func6, Tryz.ntmps6
    go_wp2_with (first
      | (go_at_call 15; (with_reducible refine (CO2.out).mono ?_); rintro e w1 ⟨A1, c1, g, Y, rfl, hc, hC, hT, hY, hA, hB, hg⟩; have L1 := Aside0.mk hT; have B1 := Aside0.mk hB; have hb1 := hT.at (List.mem_cons_of_mem _ (List.mem_append_right Y (List.mem_cons_self ..))); have z1 := blk_cell hb1 1; have HC1 := Aside0.mk hC; have Hc1 := Aside0.mk hc; have HA1 := Aside0.mk hA; have HY := Aside0.mk hY; have HgB := Aside0.mk hg; clear z0 hT hB hb1 hc hC hY hA hg)
      | (go_at_call 16; (with_reducible refine (CR2.out L1.out).mono ?_); rintro e w2 ⟨A2, c2, k, Y2, rfl, hc, hC, hT, hY, hA, hB, hg⟩; have L2 := Aside0.mk hT; have B2 := Aside0.mk (B1.out.trans hB); have HC2 := Aside0.mk hC; have Hc2 := Aside0.mk hc; have HkB := Aside0.mk (Nat.le_trans L1.out.size hg); have HC1b := Aside0.mk (row_still HC1.out HA1.out L1.out hT); clear z1 hT hB hc hC hY hA hg)
      | (go_at_call 14; (with_reducible refine (lodestarref09_Same.calls (l.length + 1) A1 c1 l A2 c2 l true _ HC1b.out Hc1.out HC2.out Hc2.out (same_self l _ HLN.out (Nat.lt_succ_self _))).mono ?_); rintro e w3 ⟨rfl, hd⟩; have L3 := Aside0.mk (two_drawn L2.out hd); have B3 := Aside0.mk (below_drawn B2.out hd); have L3p := Aside0.mk (three L3.out); have hb3 := L3p.out.at (List.mem_cons_self ..); have v2 := blk_frozen hb3 2; have v3 := blk_frozen hb3 3; have v4 := blk_frozen hb3 4; have u2 := blk_cell hb3 2; have u3 := blk_cell hb3 3; have u4 := blk_cell hb3 4; have hPl3 := blk_lt hb3; have hbk := L3p.out.at (List.mem_cons_of_mem _ (List.mem_cons_of_mem _ (List.mem_cons_self ..))); have y2 := blk_cell hbk 2; have hkP := cells_ne hbk hb3 (by decide); clear hb3 hbk hd)
      | go_in)
    go_ret
    have hPs : ∀ x ∈ [(g, logO d sz (lastOf l) false), (k, logR m sz (lastOf l) false)], x.1 ≠ P := fun x hx => by
      have hb3 := L3p.out.at (List.mem_cons_self ..)
      have hbx := L3p.out.at (List.mem_cons_of_mem _ hx)
      rcases List.mem_cons.1 hx with rfl | hx
      · exact cells_ne hbx hb3 (by decide)
      · rw [List.mem_singleton.1 hx] at hbx ⊢
        exact cells_ne hbx hb3 (by decide)
    have p1 := two_put L3p.out 2 (.pointer (some ⟨g, 0, none⟩)) (cs' := #[.pointer (some ⟨d, 0, none⟩), .pointer (some ⟨m, 0, none⟩), .pointer (some ⟨g, 0, none⟩), mv, .int .i64 nx]) rfl hPs
    have p2 := two_put p1 3 (.pointer (some ⟨k, 0, none⟩)) (cs' := #[.pointer (some ⟨d, 0, none⟩), .pointer (some ⟨m, 0, none⟩), .pointer (some ⟨g, 0, none⟩), .pointer (some ⟨k, 0, none⟩), .int .i64 nx]) rfl hPs
    have p3 := two_put p2 4 (.int .i64 1) (cs' := #[.pointer (some ⟨d, 0, none⟩), .pointer (some ⟨m, 0, none⟩), .pointer (some ⟨g, 0, none⟩), .pointer (some ⟨k, 0, none⟩), .int .i64 1]) rfl hPs
    have p4 := two_put p3 4 (.int .i64 (lastOf l + 1)) (cs' := #[.pointer (some ⟨d, 0, none⟩), .pointer (some ⟨m, 0, none⟩), .pointer (some ⟨g, 0, none⟩), .pointer (some ⟨k, 0, none⟩), .int .i64 (lastOf l + 1)]) rfl hPs
    exact ⟨rfl, ⟨S1, R1, φ1, some ⟨sz, lastOf l, false⟩, ⟨g, k, lastOf l + 1, p4.less turn3, HgB.out, HkB.out⟩, HF1.out, fun l hl => by cases hl; exact HOK.out⟩, (((B3.out.setCell HP.out _).setCell HP.out _).setCell HP.out _).setCell HP.out _⟩
end
end Go.Proofs.YtomhgoahhlnjpaaGreatDoor.Pl
