/- A record's bytes, the record with which bytes begin, the records of any bytes: the program and the document answer the same. -/
import Derived.Test.YtmnmlicckmaegaaWalA
namespace Go.Proofs.Ytmnmlicckmaegaa.WalB
open Go.RowKit Go.Proofs.Ytmnmlicckmaegaa.PWal Go.Proofs.Ytmnmlicckmaegaa.WalA Go.Proofs.YtmnmlicckmaegaaW.PrintWords Go.Proofs.YtmnmlicckmaegaaW.PrintLast Go.Proofs.YtmnmlicckmaegaaW.PrintMore

def HEAD (n : Nat) (b : ByteArray) : ByteArray := FIX b.size 4 ++ FIX n 8
def FRAME (n : Nat) (b : ByteArray) : ByteArray := ((HEAD n b ++ SUM (HEAD n b)) ++ b) ++ SUM (FIX n 8 ++ b)
theorem HEAD_size (n : Nat) (b : ByteArray) : (HEAD n b).size = 12 := by rw [HEAD, ByteArray.size_append, FIX_size, FIX_size]
theorem FRAME_size (n : Nat) (b : ByteArray) : (FRAME n b).size = 20 + b.size := by
  simp only [FRAME, ByteArray.size_append, HEAD_size, SUM_size]
  omega
/-- a record that may be -/
def OkRec (a : Int) (b : ByteArray) : Prop := 1 ≤ a ∧ a ≤ 4503599627370496 ∧ b.size ≤ 16777216
instance (a : Int) (b : ByteArray) : Decidable (OkRec a b) := by unfold OkRec; infer_instance
def FRAMES (a : Int) (b : ByteArray) : ByteArray × Int := if OkRec a b then (FRAME a.toNat b, 0) else (⟨#[]⟩, 1)

theorem walFrame (a : Int) (b : ByteArray) (k : Nat) (hk : 20 ≤ k) : wal_Frame.f k a b = some (FRAMES a b) := by
  have hj : ∀ k, 11 ≤ k → wal_Frame.j0 k true a b = some ((⟨#[]⟩ : ByteArray), 1) := by
    intro k hk
    obtain ⟨k, rfl⟩ : ∃ m, k = m + 1 := ⟨k - 1, by omega⟩
    simp only [wal_Frame.j0]
    rw [if_pos trivial]
  unfold wal_Frame.f FRAMES
  by_cases h1 : a < 1
  · rw [if_pos h1, hj k (by omega), if_neg (by unfold OkRec; omega)]
  · rw [if_neg h1]
    by_cases h2 : a > 4503599627370496
    · rw [if_pos h2, hj k (by omega), if_neg (by unfold OkRec; omega)]
    · rw [if_neg h2]
      by_cases h3 : (b.size : Int) > 16777216
      · rw [decide_eq_true h3, hj k (by omega), if_neg (by unfold OkRec; omega)]
      · have hok : OkRec a b := by unfold OkRec; omega
        obtain ⟨k, rfl⟩ : ∃ m, k = m + 1 := ⟨k - 1, by omega⟩
        obtain ⟨n, rfl⟩ : ∃ n : Nat, a = n := ⟨a.toNat, by omega⟩
        rw [decide_eq_false h3, if_pos hok]
        simp only [wal_Frame.j0]
        have z1 := FIX_size b.size 4
        have z2 := FIX_size n 8
        rw [if_neg (by simp), show (8 : Int) = ((8 : Nat) : Int) from rfl, walFix n 8 k (by omega) (by omega) (by omega) (by omega)]
        simp only [Option.bind_some]
        rw [show (4 : Int) = ((4 : Nat) : Int) from rfl, walFix b.size 4 k (by omega) (by omega) (by omega) (by omega)]
        simp only [Option.bind_some]
        rw [if_pos (by omega), walSum _ k (by rw [ByteArray.size_append]; omega) (by omega)]
        simp only [Option.bind_some, ByteArray.size_append, SUM_size]
        rw [if_pos (by omega), if_pos (by omega), if_pos (by omega), walSum _ k (by rw [ByteArray.size_append]; omega) (by omega)]
        simp only [Option.bind_some, SUM_size]
        rw [if_pos (by omega)]
        simp [FRAME, HEAD]
theorem refFrame (a : Int) (b : ByteArray) (k : Nat) (hk : 10 * b.size + 200 ≤ k) : lodestarref09_Frame.f k a b = some (FRAMES a b) := by
  have hj : ∀ k, 11 ≤ k → lodestarref09_Frame.j0 k true a b = some ((⟨#[]⟩ : ByteArray), 1) := by
    intro k hk
    obtain ⟨k, rfl⟩ : ∃ m, k = m + 1 := ⟨k - 1, by omega⟩
    simp only [lodestarref09_Frame.j0]
    rw [if_pos trivial]
  unfold lodestarref09_Frame.f FRAMES
  by_cases h1 : a < 1
  · rw [if_pos h1, hj k (by omega), if_neg (by unfold OkRec; omega)]
  · rw [if_neg h1]
    by_cases h2 : a > 4503599627370496
    · rw [if_pos h2, hj k (by omega), if_neg (by unfold OkRec; omega)]
    · rw [if_neg h2]
      by_cases h3 : (b.size : Int) > 16777216
      · rw [decide_eq_true h3, hj k (by omega), if_neg (by unfold OkRec; omega)]
      · have hok : OkRec a b := by unfold OkRec; omega
        obtain ⟨k, rfl⟩ : ∃ m, k = m + 1 := ⟨k - 1, by omega⟩
        obtain ⟨n, rfl⟩ : ∃ n : Nat, a = n := ⟨a.toNat, by omega⟩
        rw [decide_eq_false h3, if_pos hok]
        simp only [lodestarref09_Frame.j0]
        have z1 := FIX_size b.size 4
        have z2 := FIX_size n 8
        rw [if_neg (by simp), u64w (by omega) (by omega), show (8 : Int) = ((8 : Nat) : Int) from rfl, refFixed n 8 k (by omega) (by omega) (by omega) (by omega)]
        simp only [Option.bind_some]
        rw [u64w (by omega) (by omega), show (4 : Int) = ((4 : Nat) : Int) from rfl, refFixed b.size 4 k (by omega) (by omega) (by omega) (by omega)]
        simp only [Option.bind_some]
        rw [if_pos (by omega), refSum' _ k (by rw [ByteArray.size_append]; omega) (by rw [ByteArray.size_append]; omega)]
        simp only [Option.bind_some, ByteArray.size_append, SUM_size]
        rw [if_pos (by omega), if_pos (by omega), if_pos (by omega), refSum' _ k (by rw [ByteArray.size_append]; omega) (by rw [ByteArray.size_append]; omega)]
        simp only [Option.bind_some, SUM_size]
        rw [if_pos (by omega)]
        simp [FRAME, HEAD]

/-! the record with which bytes begin -/
def NONE (e : Int) : Int × ByteArray × Int × Int := (0, ⟨#[]⟩, 0, e)
def FIRST (s : ByteArray) : Int × ByteArray × Int × Int :=
  if s.size < 16 then NONE 91
  else if (SUM (s.extract 0 12)).toList = (s.extract 12 16).toList then
    if UNFIX (s.extract 0 4) > 16777216 ∨ UNFIX (s.extract 4 12) < 1 ∨ UNFIX (s.extract 4 12) > 4503599627370496 then NONE 90
    else if s.size < 20 + UNFIX (s.extract 0 4) then NONE 91
    else if (SUM (s.extract 4 12 ++ s.extract 16 (16 + UNFIX (s.extract 0 4)))).toList = (s.extract (16 + UNFIX (s.extract 0 4)) (20 + UNFIX (s.extract 0 4))).toList then
      ((UNFIX (s.extract 4 12) : Int), s.extract 16 (16 + UNFIX (s.extract 0 4)), (20 + UNFIX (s.extract 0 4) : Int), 0)
    else NONE 90
  else NONE 90

theorem walFirst (s : ByteArray) (k : Nat) (hs : s.size ≤ 4611686018427387904) (hk : 20 ≤ k) : wal_first.f k s = some (FIRST s) := by
  unfold wal_first.f FIRST
  by_cases h1 : s.size < 16
  · rw [if_pos (by omega), if_pos h1]
    rfl
  · rw [if_neg (by omega), if_neg h1, if_pos (by omega), if_pos (by omega), walSum _ k (by rw [ByteArray.size_extract]; omega) (by omega)]
    simp only [Option.bind_some]
    rw [if_pos (by omega), if_pos (by omega)]
    by_cases h2 : (SUM (s.extract 0 12)).toList = (s.extract 12 16).toList
    · have z1 : (s.extract 0 4).size = 4 := by rw [ByteArray.size_extract]; omega
      have z2 : (s.extract 4 12).size = 8 := by rw [ByteArray.size_extract]; omega
      have u1 := UNFIX_lt (s.extract 0 4)
      have u2 := UNFIX_lt (s.extract 4 12)
      rw [z1] at u1
      rw [z2] at u2
      rw [if_pos h2, if_pos h2, if_pos (by omega), if_pos (by omega), numUnfix _ k (by omega) (by omega) (by omega)]
      simp only [Option.bind_some]
      rw [if_pos (by omega), numUnfix _ k (by omega) (by omega) (by omega)]
      simp only [Option.bind_some]
      generalize hn : UNFIX (s.extract 0 4) = n at u1 ⊢
      generalize hq : UNFIX (s.extract 4 12) = q at u2 ⊢
      obtain ⟨k, rfl⟩ : ∃ m, k = m + 1 := ⟨k - 1, by omega⟩
      have hj : wal_first.j0 (k + 1) s (n : Int) (q : Int) true = some (NONE 90) := by
        simp only [wal_first.j0]
        rw [if_pos trivial]
        rfl
      by_cases h3 : (n : Int) > 16777216
      · rw [if_pos h3, hj, if_pos (by omega)]
      · rw [if_neg h3]
        by_cases h4 : (q : Int) < 1
        · rw [if_pos h4, hj, if_pos (by omega)]
        · rw [if_neg h4]
          by_cases h5 : (q : Int) > 4503599627370496
          · rw [decide_eq_true h5, hj, if_pos (by omega)]
          · rw [decide_eq_false h5, if_neg (by omega)]
            simp only [wal_first.j0]
            have e1 : wrap64 (n : Int) = n := w64 (by omega) (by omega)
            have e2 : wrap64 (20 + (n : Int)) = 20 + n := w64 (by omega) (by omega)
            have e3 : wrap64 (20 + (n : Int) - 4) = 16 + n := by rw [w64 (by omega) (by omega)]; omega
            have e4 : wrap64 (q : Int) = q := w64 (by omega) (by omega)
            rw [e1, e2, e3, e4, if_neg (by simp)]
            by_cases h6 : s.size < 20 + n
            · rw [if_pos (by omega), if_pos h6]
              rfl
            · have t1 : (16 + (n : Int)).toNat = 16 + n := by omega
              have t2 : (20 + (n : Int)).toNat = 20 + n := by omega
              rw [if_neg (by omega), if_neg h6, t1, t2, if_pos (by omega), if_pos (by omega), if_pos (by omega), if_pos (by omega), if_pos (by simp only [ByteArray.size_extract]; omega),
                walSum _ k (by rw [ByteArray.size_append]; simp only [ByteArray.size_extract]; omega) (by omega)]
              simp only [Option.bind_some]
              rw [if_pos (by omega), if_pos (by omega), if_pos (by omega)]
              by_cases h7 : (SUM (s.extract 4 12 ++ s.extract 16 (16 + n))).toList = (s.extract (16 + n) (20 + n)).toList
              · rw [if_pos h7, if_pos h7]
              · rw [if_neg h7, if_neg h7]
                rfl
    · rw [if_neg h2, if_neg h2]
      rfl
theorem refOne (s : ByteArray) (k : Nat) (hs : s.size ≤ 4611686018427387904) (hk : 10 * s.size + 300 ≤ k) : lodestarref09_one.f k s = some (FIRST s) := by
  unfold lodestarref09_one.f FIRST
  by_cases h1 : s.size < 16
  · rw [if_pos (by omega), if_pos h1]
    rfl
  · rw [if_neg (by omega), if_neg h1, if_pos (by omega), if_pos (by omega), refSum' _ k (by rw [ByteArray.size_extract]; omega) (by rw [ByteArray.size_extract]; omega)]
    simp only [Option.bind_some]
    rw [if_pos (by omega), if_pos (by omega)]
    by_cases h2 : (SUM (s.extract 0 12)).toList = (s.extract 12 16).toList
    · have z1 : (s.extract 0 4).size = 4 := by rw [ByteArray.size_extract]; omega
      have z2 : (s.extract 4 12).size = 8 := by rw [ByteArray.size_extract]; omega
      have u1 := UNFIX_lt (s.extract 0 4)
      have u2 := UNFIX_lt (s.extract 4 12)
      rw [z1] at u1
      rw [z2] at u2
      have hu : lodestarref09_unfix.f k (s.extract 0 4) = some ((UNFIX (s.extract 0 4) : Nat) : Int) := by
        unfold lodestarref09_unfix.f
        rw [refUnfix _ k (by omega) (by omega) (by omega)]
        simp only [Option.bind_some]
        rw [w64 (by omega) (by omega)]
      rw [if_pos h2, if_pos h2, if_pos (by omega), if_pos (by omega), hu]
      simp only [Option.bind_some]
      rw [if_pos (by omega), refUnfix _ k (by omega) (by omega) (by omega)]
      simp only [Option.bind_some]
      generalize hn : UNFIX (s.extract 0 4) = n at u1 ⊢
      generalize hq : UNFIX (s.extract 4 12) = q at u2 ⊢
      obtain ⟨k, rfl⟩ : ∃ m, k = m + 1 := ⟨k - 1, by omega⟩
      have hj : lodestarref09_one.j0 (k + 1) s (n : Int) (q : Int) true = some (NONE 90) := by
        simp only [lodestarref09_one.j0]
        rw [if_pos trivial]
        rfl
      by_cases h3 : (n : Int) > 16777216
      · rw [if_pos h3, hj, if_pos (by omega)]
      · rw [if_neg h3]
        by_cases h4 : (q : Int) < 1
        · rw [if_pos h4, hj, if_pos (by omega)]
        · rw [if_neg h4]
          by_cases h5 : (q : Int) > 4503599627370496
          · rw [decide_eq_true h5, hj, if_pos (by omega)]
          · rw [decide_eq_false h5, if_neg (by omega)]
            simp only [lodestarref09_one.j0]
            have e2 : wrap64 (20 + (n : Int)) = 20 + n := w64 (by omega) (by omega)
            have e3 : wrap64 (16 + (n : Int)) = 16 + n := w64 (by omega) (by omega)
            have e4 : wrap64 (q : Int) = q := w64 (by omega) (by omega)
            rw [e2, e3, e4, if_neg (by simp)]
            by_cases h6 : s.size < 20 + n
            · rw [if_pos (by omega), if_pos h6]
              rfl
            · have t1 : (16 + (n : Int)).toNat = 16 + n := by omega
              have t2 : (20 + (n : Int)).toNat = 20 + n := by omega
              rw [if_neg (by omega), if_neg h6, t1, t2, if_pos (by omega), if_pos (by omega), if_pos (by omega), if_pos (by omega), if_pos (by simp only [ByteArray.size_extract]; omega),
                refSum' _ k (by rw [ByteArray.size_append]; simp only [ByteArray.size_extract]; omega) (by rw [ByteArray.size_append]; simp only [ByteArray.size_extract]; omega)]
              simp only [Option.bind_some]
              rw [if_pos (by omega), if_pos (by omega), if_pos (by omega)]
              by_cases h7 : (SUM (s.extract 4 12 ++ s.extract 16 (16 + n))).toList = (s.extract (16 + n) (20 + n)).toList
              · rw [if_pos h7, if_pos h7]
              · rw [if_neg h7, if_neg h7]
                rfl
    · rw [if_neg h2, if_neg h2]
      rfl

/-- what is found is no longer than what is there -/
theorem FIRST_in (s : ByteArray) (h : (FIRST s).2.2.2 = 0) : 1 ≤ (FIRST s).1 ∧ (FIRST s).1 ≤ 4503599627370496 ∧ 20 ≤ (FIRST s).2.2.1 ∧ (FIRST s).2.2.1 ≤ s.size := by
  unfold FIRST at h ⊢
  by_cases h1 : s.size < 16
  · rw [if_pos h1] at h
    exact absurd h (by simp [NONE])
  · rw [if_neg h1] at h ⊢
    by_cases h2 : (SUM (s.extract 0 12)).toList = (s.extract 12 16).toList
    · rw [if_pos h2] at h ⊢
      by_cases h3 : UNFIX (s.extract 0 4) > 16777216 ∨ UNFIX (s.extract 4 12) < 1 ∨ UNFIX (s.extract 4 12) > 4503599627370496
      · rw [if_pos h3] at h
        exact absurd h (by simp [NONE])
      · rw [if_neg h3] at h ⊢
        by_cases h6 : s.size < 20 + UNFIX (s.extract 0 4)
        · rw [if_pos h6] at h
          exact absurd h (by simp [NONE])
        · rw [if_neg h6] at h ⊢
          by_cases h7 : (SUM (s.extract 4 12 ++ s.extract 16 (16 + UNFIX (s.extract 0 4)))).toList = (s.extract (16 + UNFIX (s.extract 0 4)) (20 + UNFIX (s.extract 0 4))).toList
          · rw [if_pos h7]
            simp only
            omega
          · rw [if_neg h7] at h
            exact absurd h (by simp [NONE])
    · rw [if_neg h2] at h
      exact absurd h (by simp [NONE])

/-! the records of any bytes -/
/-- the error of a record at its place -/
def errAt (acc : List S23) (r : Int × ByteArray × Int × Int) : Int :=
  if r.2.2.2 = 0 then (if acc.length > 0 ∧ r.1 ≠ (rd_T23 acc ((acc.length : Int) - 1)).f0 + 1 then 90 else 0) else r.2.2.2
def scanGo (s : ByteArray) : Nat → List S23 → Nat → List S23 × Int × Int
  | 0, acc, at_ => (acc, (at_ : Int), 0)
  | f + 1, acc, at_ =>
    if at_ < s.size then
      (if errAt acc (FIRST (s.extract at_ s.size)) = 0 then scanGo s f (acc ++ [⟨(FIRST (s.extract at_ s.size)).1, (FIRST (s.extract at_ s.size)).2.1⟩]) (at_ + (FIRST (s.extract at_ s.size)).2.2.1.toNat)
      else (acc, (at_ : Int), errAt acc (FIRST (s.extract at_ s.size))))
    else (acc, (at_ : Int), 0)
def SCAN (s : ByteArray) : List S23 × Int × Int := scanGo s (s.size + 1) [] 0
/-- numbers in range: the next one's sum stays bare -/
def Seqs (acc : List S23) : Prop := ∀ x ∈ acc, 1 ≤ x.f0 ∧ x.f0 ≤ 4503599627370496
theorem Seqs.last {acc : List S23} (h : Seqs acc) (h0 : acc.length > 0) : 1 ≤ (rd_T23 acc ((acc.length : Int) - 1)).f0 ∧ (rd_T23 acc ((acc.length : Int) - 1)).f0 ≤ 4503599627370496 := by
  unfold rd_T23
  have e : ((acc.length : Int) - 1).toNat = acc.length - 1 := by omega
  rw [e, List.getD_eq_getElem?_getD, List.getElem?_eq_getElem (by omega)]
  exact h _ (List.getElem_mem _)
theorem Seqs.snoc {acc : List S23} (h : Seqs acc) {x : S23} (hx : 1 ≤ x.f0 ∧ x.f0 ≤ 4503599627370496) : Seqs (acc ++ [x]) := by
  intro y hy
  rcases List.mem_append.1 hy with hy | hy
  · exact h y hy
  · rw [List.mem_singleton] at hy
    subst hy
    exact hx

theorem walScan_l0 (s : ByteArray) (hs : s.size ≤ 1099511627776) : ∀ (f : Nat) (acc : List S23) (at_ k : Nat), s.size - at_ < f → at_ ≤ s.size → acc.length * 20 ≤ at_ → Seqs acc → 2 * f + 30 ≤ k →
    wal_Scan.l0 k s acc (at_ : Int) = some (scanGo s f acc at_) := by
  intro f
  induction f with
  | zero =>
    intro acc at_ k hf
    omega
  | succ f ih =>
    intro acc at_ k hf hat hacc hq hk
    obtain ⟨k, rfl⟩ : ∃ m, k = m + 1 + 1 := ⟨k - 2, by omega⟩
    rw [wal_Scan.l0, scanGo]
    by_cases h1 : at_ < s.size
    · have hsz : (s.extract at_ s.size).size = s.size - at_ := by rw [ByteArray.size_extract]; omega
      have t0 : ((at_ : Int)).toNat = at_ := by omega
      rw [if_pos (by omega), if_pos h1, if_pos (by omega), if_pos (by omega), t0, walFirst _ (k + 1) (by omega) (by omega)]
      simp only [Option.bind_some]
      have hin := FIRST_in (s.extract at_ s.size)
      generalize FIRST (s.extract at_ s.size) = r at hin ⊢
      obtain ⟨rq, rb, rn, re⟩ := r
      simp only at hin ⊢
      -- what stands behind the test
      have hrest : ∀ (b : Bool), errAt acc (rq, rb, rn, re) = (if b = true then 90 else re) →
          wal_Scan.j1 (k + 1) s acc (at_ : Int) rn re b rq rb = some (if errAt acc (rq, rb, rn, re) = 0 then scanGo s f (acc ++ [⟨rq, rb⟩]) (at_ + rn.toNat) else (acc, (at_ : Int), errAt acc (rq, rb, rn, re))) := by
        intro b hb
        rw [hb]
        rw [wal_Scan.j1]
        cases b with
        | true =>
          simp
        | false =>
          simp only [Bool.false_eq_true, if_false]
          by_cases h2 : re = 0
          · obtain ⟨i1, i2, i3, i4⟩ := hin h2
            rw [hsz] at i4
            rw [if_pos h2, if_pos h2, if_pos (by omega), w64 (by omega) (by omega)]
            have e : (at_ : Int) + rn = ((at_ + rn.toNat : Nat) : Int) := by omega
            rw [e, ih _ _ k (by omega) (by omega) (by rw [List.length_append, List.length_singleton]; omega) (hq.snoc ⟨i1, i2⟩) (by omega)]
          · rw [if_neg h2, if_neg h2]
      by_cases h2 : re = 0
      · rw [if_pos h2]
        obtain ⟨i1, i2, i3, i4⟩ := hin h2
        by_cases h3 : (acc.length : Int) > 0
        · have hl : wrap64 ((acc.length : Int) - 1) = (acc.length : Int) - 1 := w64 (by omega) (by omega)
          obtain ⟨l1, l2⟩ := hq.last (by omega)
          rw [if_pos h3, hl, if_pos (by omega), if_pos (by omega), w64 (x := (rd_T23 acc ((acc.length : Int) - 1)).f0 + 1) (by omega) (by omega)]
          apply hrest
          unfold errAt
          rw [if_pos h2]
          by_cases h4 : rq = (rd_T23 acc ((acc.length : Int) - 1)).f0 + 1
          · rw [if_neg (by rintro ⟨_, h⟩; exact h h4), if_neg (by simp [h4]), h2]
          · rw [if_pos ⟨by omega, h4⟩, if_pos (by simpa using h4)]
        · rw [if_neg h3]
          apply hrest
          unfold errAt
          rw [if_pos h2, if_neg (by omega), if_neg (by simp), h2]
      · rw [if_neg h2]
        apply hrest
        unfold errAt
        rw [if_neg h2, if_neg (by simp)]
    · rw [if_neg (by omega), if_neg h1]
theorem refScan_l0 (s : ByteArray) (hs : s.size ≤ 1099511627776) : ∀ (f : Nat) (acc : List S23) (at_ k : Nat), s.size - at_ < f → at_ ≤ s.size → acc.length * 20 ≤ at_ → Seqs acc → 2 * f + 10 * s.size + 310 ≤ k →
    lodestarref09_Scan.l0 k s acc (at_ : Int) = some (scanGo s f acc at_) := by
  intro f
  induction f with
  | zero =>
    intro acc at_ k hf
    omega
  | succ f ih =>
    intro acc at_ k hf hat hacc hq hk
    obtain ⟨k, rfl⟩ : ∃ m, k = m + 1 + 1 := ⟨k - 2, by omega⟩
    rw [lodestarref09_Scan.l0, scanGo]
    by_cases h1 : at_ < s.size
    · have hsz : (s.extract at_ s.size).size = s.size - at_ := by rw [ByteArray.size_extract]; omega
      have t0 : ((at_ : Int)).toNat = at_ := by omega
      rw [if_pos (by omega), if_pos h1, if_pos (by omega), if_pos (by omega), t0, refOne _ (k + 1) (by omega) (by omega)]
      simp only [Option.bind_some]
      have hin := FIRST_in (s.extract at_ s.size)
      generalize FIRST (s.extract at_ s.size) = r at hin ⊢
      obtain ⟨rq, rb, rn, re⟩ := r
      simp only at hin ⊢
      have hrest : ∀ (b : Bool), errAt acc (rq, rb, rn, re) = (if b = true then 90 else re) →
          lodestarref09_Scan.j1 (k + 1) s acc (at_ : Int) rn re b rq rb = some (if errAt acc (rq, rb, rn, re) = 0 then scanGo s f (acc ++ [⟨rq, rb⟩]) (at_ + rn.toNat) else (acc, (at_ : Int), errAt acc (rq, rb, rn, re))) := by
        intro b hb
        rw [hb]
        rw [lodestarref09_Scan.j1]
        cases b with
        | true =>
          simp
        | false =>
          simp only [Bool.false_eq_true, if_false]
          by_cases h2 : re = 0
          · obtain ⟨i1, i2, i3, i4⟩ := hin h2
            rw [hsz] at i4
            rw [if_pos h2, if_pos h2, if_pos (by omega), w64 (by omega) (by omega)]
            have e : (at_ : Int) + rn = ((at_ + rn.toNat : Nat) : Int) := by omega
            rw [e, ih _ _ k (by omega) (by omega) (by rw [List.length_append, List.length_singleton]; omega) (hq.snoc ⟨i1, i2⟩) (by omega)]
          · rw [if_neg h2, if_neg h2]
      by_cases h2 : re = 0
      · rw [if_pos h2]
        obtain ⟨i1, i2, i3, i4⟩ := hin h2
        by_cases h3 : (acc.length : Int) > 0
        · have hl : wrap64 ((acc.length : Int) - 1) = (acc.length : Int) - 1 := w64 (by omega) (by omega)
          obtain ⟨l1, l2⟩ := hq.last (by omega)
          rw [if_pos h3, hl, if_pos (by omega), if_pos (by omega), w64 (x := (rd_T23 acc ((acc.length : Int) - 1)).f0 + 1) (by omega) (by omega)]
          apply hrest
          unfold errAt
          rw [if_pos h2]
          by_cases h4 : rq = (rd_T23 acc ((acc.length : Int) - 1)).f0 + 1
          · rw [if_neg (by rintro ⟨_, h⟩; exact h h4), if_neg (by simp [h4]), h2]
          · rw [if_pos ⟨by omega, h4⟩, if_pos (by simpa using h4)]
        · rw [if_neg h3]
          apply hrest
          unfold errAt
          rw [if_pos h2, if_neg (by omega), if_neg (by simp), h2]
      · rw [if_neg h2]
        apply hrest
        unfold errAt
        rw [if_neg h2, if_neg (by simp)]
    · rw [if_neg (by omega), if_neg h1]
theorem walScan (s : ByteArray) (k : Nat) (hs : s.size ≤ 1099511627776) (hk : 2 * s.size + 40 ≤ k) : wal_Scan.f k s = some (SCAN s) :=
  walScan_l0 s hs (s.size + 1) [] 0 k (by omega) (by omega) (by simp) (fun _ h => by cases h) (by omega)
theorem refScan (s : ByteArray) (k : Nat) (hs : s.size ≤ 1099511627776) (hk : 12 * s.size + 400 ≤ k) : lodestarref09_Scan.f k s = some (SCAN s) :=
  refScan_l0 s hs (s.size + 1) [] 0 k (by omega) (by omega) (by simp) (fun _ h => by cases h) (by omega)

/-- a list of records is the same as itself -/
theorem same_l0 (l : List S23) (hl : l.length ≤ 1099511627776) : ∀ (d i k : Nat), i + d = l.length → d < k → lodestarref09_Same.l0 k l l (i : Int) = some true := by
  intro d
  induction d with
  | zero =>
    intro i k hi hk
    obtain ⟨k, rfl⟩ : ∃ m, k = m + 1 := ⟨k - 1, by omega⟩
    rw [lodestarref09_Same.l0, if_neg (by omega)]
  | succ d ih =>
    intro i k hi hk
    obtain ⟨k, rfl⟩ : ∃ m, k = m + 1 := ⟨k - 1, by omega⟩
    rw [lodestarref09_Same.l0, if_pos (by omega), if_pos (by omega), if_pos (by omega), if_neg (by simp), w64 (by omega) (by omega)]
    exact ih (i + 1) k (by omega) (by omega)
theorem same_self (l : List S23) (k : Nat) (hl : l.length ≤ 1099511627776) (hk : l.length < k) : lodestarref09_Same.f k l l = some true := by
  unfold lodestarref09_Same.f
  rw [if_pos rfl]
  exact same_l0 l hl l.length 0 k (by omega) hk
theorem scanGo_length (s : ByteArray) : ∀ (f : Nat) (acc : List S23) (at_ : Nat), at_ ≤ s.size → acc.length * 20 ≤ at_ → (scanGo s f acc at_).1.length * 20 ≤ s.size
  | 0, acc, at_, h1, h2 => by rw [scanGo]; simp only; omega
  | f + 1, acc, at_, h1, h2 => by
    rw [scanGo]
    by_cases h : at_ < s.size
    · rw [if_pos h]
      by_cases he : errAt acc (FIRST (s.extract at_ s.size)) = 0
      · rw [if_pos he]
        have h0 : (FIRST (s.extract at_ s.size)).2.2.2 = 0 := by
          unfold errAt at he
          by_cases h0 : (FIRST (s.extract at_ s.size)).2.2.2 = 0
          · exact h0
          · rw [if_neg h0] at he
            exact absurd he h0
        obtain ⟨_, _, i3, i4⟩ := FIRST_in _ h0
        rw [ByteArray.size_extract] at i4
        exact scanGo_length s f _ _ (by omega) (by rw [List.length_append, List.length_singleton]; omega)
      · rw [if_neg he]
        simp only
        omega
    · rw [if_neg h]
      simp only
      omega
theorem SCAN_length (s : ByteArray) : (SCAN s).1.length * 20 ≤ s.size := scanGo_length s _ _ _ (by omega) (by simp)
end Go.Proofs.Ytmnmlicckmaegaa.WalB
