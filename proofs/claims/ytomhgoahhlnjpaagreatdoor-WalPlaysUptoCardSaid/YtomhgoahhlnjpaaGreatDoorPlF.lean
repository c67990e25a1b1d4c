/- A log's Append and Sync, in plain Lean: what is alike; broke, walked. -/
import Derived.Test.YtomhgoahhlnjpaaGreatDoorPlE
namespace Go.Proofs.YtomhgoahhlnjpaaGreatDoor.Pl
open Go.RowKit Go.Maps Go.Sort Go.Proofs.YtomhgoahhlnjpaaGreatDoorW.PrintWords Go.Proofs.YtomhgoahhlnjpaaGreatDoor.PRef Go.Proofs.YtomhgoahhlnjpaaGreatDoor.Dk Go.Proofs.YtomhgoahhlnjpaaGreatDoor.Rf Go.Proofs.YtomhgoahhlnjpaaGreatDoor.WalN Go.Proofs.YtomhgoahhlnjpaaGreatDoor.PWal Go.Proofs.YtomhgoahhlnjpaaGreatDoor.WalB

/-! ### records: numbers and sizes -/
theorem scanGo_in (s : ByteArray) : ∀ (f : Nat) (acc : List S61) (at_ : Nat), at_ ≤ s.size → Seqs acc → Seqs (scanGo s f acc at_).1 ∧ 0 ≤ (scanGo s f acc at_).2.1 ∧ (scanGo s f acc at_).2.1 ≤ (s.size : Int)
  | 0, acc, at_, h1, h2 => by rw [scanGo]; exact ⟨h2, by simp only; omega, by simp only; omega⟩
  | f + 1, acc, at_, h1, h2 => by
    rw [scanGo]
    by_cases h : at_ < s.size
    · rw [if_pos h]
      by_cases he : errAt acc (FIRST (s.extract at_ s.size)) = 0
      · rw [if_pos he]
        have h0 : (FIRST (s.extract at_ s.size)).2.2.2 = 0 := by
          unfold errAt at he
          by_cases h0 : (FIRST (s.extract at_ s.size)).2.2.2 = 0
          · exact h0
          · rw [if_neg h0] at he
            exact absurd he h0
        obtain ⟨i1, i2, i3, i4⟩ := FIRST_in _ h0
        rw [ByteArray.size_extract] at i4
        exact scanGo_in s f _ _ (by omega) (h2.snoc ⟨i1, i2⟩)
      · rw [if_neg he]
        exact ⟨h2, by simp only; omega, by simp only; omega⟩
    · rw [if_neg h]
      exact ⟨h2, by simp only; omega, by simp only; omega⟩
theorem SCAN_in (s : ByteArray) : Seqs (SCAN s).1 ∧ 0 ≤ (SCAN s).2.1 ∧ (SCAN s).2.1 ≤ (s.size : Int) := scanGo_in s _ _ _ (Nat.zero_le _) (fun _ h => by cases h)
theorem lastOf_in {l : List S61} (h : Seqs l) : 0 ≤ lastOf l ∧ lastOf l ≤ 4503599627370496 := by
  unfold lastOf
  cases hl : l.getLast? with
  | none => exact ⟨Int.le_refl _, by decide⟩
  | some x =>
    have := h x (List.mem_of_getLast? hl)
    exact ⟨by show 0 ≤ x.f0; omega, this.2⟩

/-! ### a log -/
structure Lg where
  sz : Int
  last : Int
  br : Bool
/-- numbers in reach -/
structure LgOk (l : Lg) (n : Nat) : Prop where
  s0 : 0 ≤ l.sz
  s1 : l.sz ≤ (n : Int)
  l0 : 0 ≤ l.last
  l1 : l.last ≤ 4503599627370496
theorem LgOk.mono {l : Lg} {n k : Nat} (h : LgOk l n) (hn : n ≤ k) : LgOk l k := ⟨h.s0, by have := h.s1; omega, h.l0, h.l1⟩
def appD (S : DS) (l : Lg) (q : Int) (b : ByteArray) : DS × Lg × Int :=
  if l.br = true then (S, l, 122) else
  if (FRAMES q b).2 = 0 then
    (if 0 < l.last ∧ q ≠ l.last + 1 then (S, l, 1)
     else if (S.write nLog (FRAMES q b).1).2.2 = 0 then ((S.write nLog (FRAMES q b).1).1, ⟨l.sz + ((FRAMES q b).1.size : Int), q, false⟩, 0)
     else ((S.write nLog (FRAMES q b).1).1, ⟨l.sz, l.last, true⟩, (S.write nLog (FRAMES q b).1).2.2))
  else (S, l, (FRAMES q b).2)
def appR (R : RS) (l : Lg) (q : Int) (b : ByteArray) : RS × Lg × Int :=
  if l.br = true then (R, l, 122) else
  if (FRAMES q b).2 = 0 then
    (if 0 < l.last ∧ q ≠ l.last + 1 then (R, l, 1)
     else if (R.writeR nLog (FRAMES q b).1).2.2 = 0 then ((R.writeR nLog (FRAMES q b).1).1, ⟨l.sz + ((FRAMES q b).1.size : Int), q, false⟩, 0)
     else ((R.writeR nLog (FRAMES q b).1).1, ⟨l.sz, l.last, true⟩, (R.writeR nLog (FRAMES q b).1).2.2))
  else (R, l, (FRAMES q b).2)
def synD (S : DS) (l : Lg) : DS × Lg × Int :=
  if l.br = true then (S, l, 122) else
  if (S.sync nLog).2 = 0 then ((S.sync nLog).1, ⟨l.sz, l.last, false⟩, 0) else ((S.sync nLog).1, ⟨l.sz, l.last, true⟩, (S.sync nLog).2)
def synR (R : RS) (l : Lg) : RS × Lg × Int :=
  if l.br = true then (R, l, 122) else
  if (R.syncR nLog).2 = 0 then ((R.syncR nLog).1, ⟨l.sz, l.last, false⟩, 0) else ((R.syncR nLog).1, ⟨l.sz, l.last, true⟩, (R.syncR nLog).2)
theorem frames_size (q : Int) (b : ByteArray) : (FRAMES q b).1.size ≤ 20 + b.size := by
  unfold FRAMES
  split
  · rw [FRAME_size]; exact Nat.le_refl _
  · exact Nat.zero_le _
theorem frames_in {q : Int} {b : ByteArray} (h : (FRAMES q b).2 = 0) : 1 ≤ q ∧ q ≤ 4503599627370496 := by
  unfold FRAMES at h
  by_cases ho : OkRec q b
  · exact ⟨ho.1, ho.2.1⟩
  · rw [if_neg ho] at h
    exact absurd h (by decide)
variable {S : DS} {R : RS} {φ : List Nat} {n : Nat}
theorem app_sim (h : Sim S R φ) (l : Lg) (q : Int) (b : ByteArray) : ∃ φ', Sim (appD S l q b).1 (appR R l q b).1 φ' ∧ (appD S l q b).2 = (appR R l q b).2 := by
  obtain ⟨φ', hs, hw⟩ := write_sim h nLog (FRAMES q b).1
  unfold appD appR
  split
  · exact ⟨φ, h, rfl⟩
  · split
    · split
      · exact ⟨φ, h, rfl⟩
      · rw [hw]
        split
        · exact ⟨φ', hs, rfl⟩
        · exact ⟨φ', hs, rfl⟩
    · exact ⟨φ, h, rfl⟩
theorem syn_sim (h : Sim S R φ) (l : Lg) : Sim (synD S l).1 (synR R l).1 φ ∧ (synD S l).2 = (synR R l).2 := by
  obtain ⟨hs, hw⟩ := sync_sim h nLog
  unfold synD synR
  split
  · exact ⟨h, rfl⟩
  · rw [hw]
    split
    · exact ⟨hs, rfl⟩
    · exact ⟨hs, rfl⟩
theorem appD_small (h : SmallS S n) (l : Lg) (q : Int) (b : ByteArray) : SmallS (appD S l q b).1 (n + b.size + 30) := by
  have hz := frames_size q b
  have hw : SmallS (S.write nLog (FRAMES q b).1).1 (n + b.size + 30) := (h.write nLog _).mono (by show n + 3 + _ + 2 ≤ _; omega)
  unfold appD
  split
  · exact h.mono (by omega)
  · split
    · split
      · exact h.mono (by omega)
      · split
        · exact hw
        · exact hw
    · exact h.mono (by omega)
theorem appR_small (h : SmallR R n) (l : Lg) (q : Int) (b : ByteArray) : SmallR (appR R l q b).1 (n + b.size + 30) := by
  have hz := frames_size q b
  have hw : SmallR (R.writeR nLog (FRAMES q b).1).1 (n + b.size + 30) := (h.write nLog _).mono (by omega)
  unfold appR
  split
  · exact h.mono (by omega)
  · split
    · split
      · exact h.mono (by omega)
      · split
        · exact hw
        · exact hw
    · exact h.mono (by omega)
theorem synD_small (h : SmallS S n) (l : Lg) : SmallS (synD S l).1 (n + 1) := by
  have hw := h.sync nLog
  unfold synD
  split
  · exact h.mono (by omega)
  · split
    · exact hw
    · exact hw
theorem synR_small (h : SmallR R n) (l : Lg) : SmallR (synR R l).1 (n + 1) := by
  have hw := h.sync nLog
  unfold synR
  split
  · exact h.mono (by omega)
  · split
    · exact hw
    · exact hw
theorem app_ok {l : Lg} (h : LgOk l n) (q : Int) (b : ByteArray) : LgOk (appD S l q b).2.1 (n + b.size + 30) := by
  have hz := frames_size q b
  have h0 := h.s0
  have h1 := h.s1
  unfold appD
  split
  · exact h.mono (by omega)
  · split
    · rename_i hf
      have hi := frames_in hf
      split
      · exact h.mono (by omega)
      · split
        · exact ⟨by show 0 ≤ l.sz + _; omega, by show l.sz + _ ≤ _; omega, by show 0 ≤ q; omega, hi.2⟩
        · exact ⟨h0, by show l.sz ≤ _; omega, h.l0, h.l1⟩
    · exact h.mono (by omega)
theorem syn_ok {l : Lg} (h : LgOk l n) : LgOk (synD S l).2.1 n := by
  unfold synD
  split
  · exact h
  · split
    · exact ⟨h.s0, h.s1, h.l0, h.l1⟩
    · exact ⟨h.s0, h.s1, h.l0, h.l1⟩
/-- Open leaves a log whose numbers are in reach -/
theorem open_ok (h : SmallS S n) {l : List S61} {sz : Int} (ho : (openD S).2.1 = some (l, sz)) : LgOk ⟨sz, lastOf l, false⟩ n := by
  have hz := begun_size h (Nat.le_refl n)
  have hs := SCAN_in (begunD S).2.1
  have e : (l, sz) = ((SCAN (begunD S).2.1).1, (SCAN (begunD S).2.1).2.1) := by
    unfold openD at ho
    split at ho
    · split at ho
      · cases ho
      · unfold endD at ho
        split at ho
        · split at ho
          · exact (Option.some.inj ho).symm
          · cases ho
        · cases ho
    · cases ho
  injection e with e1 e2
  subst e1 e2
  have hl := lastOf_in hs.1
  exact ⟨hs.2.1, by show (SCAN (begunD S).2.1).2.1 ≤ _; omega, hl.1, hl.2⟩
theorem open_err (S : DS) : (openD S).2.2 = 0 ↔ ∃ x, (openD S).2.1 = some x := by
  unfold openD endD
  split
  · rename_i h0
    split
    · rename_i h1
      exact ⟨fun h => absurd (show (90 : Int) = 0 from h) (by decide), fun ⟨x, h⟩ => by cases h⟩
    · split
      · split
        · exact ⟨fun _ => ⟨_, rfl⟩, fun _ => rfl⟩
        · rename_i h; exact ⟨fun h2 => absurd h2 h, fun ⟨x, h⟩ => by cases h⟩
      · rename_i h; exact ⟨fun h2 => absurd h2 h, fun ⟨x, h⟩ => by cases h⟩
  · rename_i h; exact ⟨fun h2 => absurd h2 h, fun ⟨x, h⟩ => by cases h⟩

/-! ### the blocks beside the disks -/
section
variable {X : List (Nat × Obj)} {B : Nat} {w w' : World} {d m g : Nat} {p : Addr}
theorem two_put {cs cs' : Array Value} {t : TypeId} (h : Two ((g, .cells cs t (0, 0)) :: X) B w d m S R) (j : Nat) (u : Value) (hc : cs.setIfInBounds j u = cs') (hX : ∀ x ∈ X, x.1 ≠ g) :
    Two ((g, .cells cs' t (0, 0)) :: X) B (w.setCell ⟨g, j, none⟩ u) d m S R := by
  obtain ⟨own, mb, bs, vo, vp, rown, v0, v1, v2, v3, v4, hA, hR, hd, ho, hr, hx⟩ := h
  obtain ⟨x1, x2, x3⟩ := hx _ (List.mem_cons_self ..)
  exact ⟨own, mb, bs, vo, vp, rown, v0, v1, v2, v3, v4, hA.move (by rw [size_set]; exact Nat.le_refl _) (fun k hk => heap_set_ne (fun (e : k = g) => x2 (by rw [← e]; exact hk)) u), hR.far x3 j u, hd, ho, hr, fun q hq => by
    rcases List.mem_cons.1 hq with rfl | hq
    · exact ⟨blk_put (show w.heap[g]? = some (.cells cs t (0, 0)) from x1) j u hc, x2, x3⟩
    · exact ⟨(heap_set_ne (hX q hq) u).trans (hx q (List.mem_cons_of_mem _ hq)).1, (hx q (List.mem_cons_of_mem _ hq)).2⟩⟩
theorem is_any {p : Addr} (e : Int) (w : World) : Calls Tryz.prog 53 #[errV p e, .iface 197 (.pointer (some p))] w fun ev w' => ev = .returned (.bool (decide (e = 0))) ∧ w' = w := by
  unfold errV
  by_cases he : e = 0
  · subst he
    rw [if_pos rfl]
    exact is_fine p w
  · rw [if_neg he, decide_eq_false he]
    exact is_refused e _ w
set_option maxHeartbeats 1000000 in
theorem broke_two {s l : Int} {br : Bool} (e : Int) (h : Two ((g, logO d s l br) :: X) B w d m S R) (hX : ∀ x ∈ X, x.1 ≠ g) (hgB : B ≤ g) (hG : Gl (.pointer (some p)) w) (h1 : 1 < B) :
    Calls Tryz.prog 43 #[.pointer (some ⟨g, 0, none⟩), .int .i64 e] w fun ev w' => ev = .returned (.int .i64 e) ∧ Two ((g, logO d s l (!decide (e = 0))) :: X) B w' d m S R ∧ Below B w w' := by
  have hb := h.at (List.mem_cons_self ..)
  have x4 := blk_cell hb 4
  have f4 := blk_frozen hb 4
  have hB := h.size
  have h0 := hG.fine
  have hp := two_put h 4 (.bool (!decide (e = 0))) (cs' := #[.pointer (some ⟨d, 0, none⟩), .string nLog, .int .i64 s, .int .i64 l, .bool (!decide (e = 0))]) rfl hX
  have hset : Below B w (w.setCell ⟨g, 4, none⟩ (.bool (!decide (e = 0)))) := (Below.refl B w).setCell hgB _
  have HP := Aside0.mk hp
  have HS := Aside0.mk hset
  have HG := Aside0.mk hG
  have H1 := Aside0.mk h1
  have HB := Aside0.mk hB
  have CA := Aside0.mk (asked_any hG e)
  have CI := Aside0.mk (fun w1 => is_any (p := p) e w1)
  have CC := Aside0.mk (code_any (Gl.low hG hset h1) e)
  generalize errV p e = ve at CA CI CC
  generalize (decide (e = 0)) = bz at *
  clear h hX hgB hG h1 hb hp hset hB
  go_enter Tryz.func43, Tryz.ntmps43
  go_wp2_with (first
    | (go_at_call 33; (with_reducible refine (CA.out).mono ?_); rintro e w1 ⟨rfl, rfl⟩)
    | (go_at_call 53; (with_reducible refine (CI.out _).mono ?_); rintro e w1 ⟨rfl, rfl⟩)
    | (go_at_call 32; (with_reducible refine (CC.out).mono ?_); rintro e w2 ⟨rfl, hb⟩; have L2 := Aside0.mk (And.intro (HP.out.below hb) (HS.out.trans (hb.mono (Nat.le_trans HB.out HS.out.size)))); clear hb)
    | go_in)
  go_ret
  exact ⟨rfl, L2.out.1, L2.out.2⟩
end
end Go.Proofs.YtomhgoahhlnjpaaGreatDoor.Pl
