/- Proved: the statement 'WalTornUptoSaid', that is, WalTorn answers true for every input of bulk at most 1048576, and the input reads as it did. Conditions: the given row's own (the bulk). -/
import Derived.Test.YtmnmlicckmaegaaRows
import Derived.Test.YtmnmlicckmaegaaOpen
import Derived.Test.YtmnmlicckmaegaaWalD
import Derived.WalkKit
import Derived.ProofKit
import Derived.OpenShut
import Derived.ShutString
import Derived.ChangeOld
import Derived.Below
import Derived.JoinedCond
namespace Go.Proofs.Ytmnmlicckmaegaa.walTorn
open Go.ChangeShapes Go.WideShapes Go.ChangeAt Go.RowKit Go.Proofs.Ytmnmlicckmaegaa.Opens Go.Proofs.Ytmnmlicckmaegaa.PWal Go.Proofs.Ytmnmlicckmaegaa.WalA Go.Proofs.Ytmnmlicckmaegaa.WalB Go.Proofs.Ytmnmlicckmaegaa.WalC Go.Proofs.Ytmnmlicckmaegaa.WalD Go.Proofs.YtmnmlicckmaegaaW.PrintWords
open Go.ChangeMaps (open_string shut_string)

theorem own : ownKnob Try.prog.godebug = none := by kernel_rfl
theorem laidOut : laidOutB Try.prog = true := by kernel_rfl

/-- the last loop: each record is the one that was laid down -/
theorem last_loop (l : List ByteArray) (n j : Nat) (h1 : 1 ≤ n) (hn : n ≤ 1125899906842624) (hj : j ≤ l.length) (hl : l.length ≤ 1048576) : ∀ (d i k : Nat), i + d = j → d + 400 ≤ k →
    lodestarlaw09_WalTorn.l2 k l (n : Int) (RECS n (l.take j)) (j : Int) (i : Int) = some true := by
  have hrl : (RECS n (l.take j)).length = j := by rw [RECS_length, List.length_take]; omega
  intro d
  induction d with
  | zero =>
    intro i k hi hk
    obtain ⟨k, rfl⟩ : ∃ m, k = m + 1 := ⟨k - 1, by omega⟩
    rw [lodestarlaw09_WalTorn.l2, if_neg (by omega), awake k (by omega)]
    rfl
  | succ d ih =>
    intro i k hi hk
    obtain ⟨k, rfl⟩ : ∃ m, k = m + 1 := ⟨k - 1, by omega⟩
    have hti : i < (l.take j).length := by rw [List.length_take]; omega
    have hr := RECS_rd (l.take j) n i hti
    have hg : (l.take j)[i] = l[i] := List.getElem_take
    rw [lodestarlaw09_WalTorn.l2, if_pos (by omega), if_pos (by omega), if_pos (by omega), hr]
    simp only
    rw [if_pos (by rw [w64 (by omega) (by omega)]; omega), if_pos (by omega), rdOf_get l i (by omega), hg, if_pos rfl, w64 (by omega) (by omega)]
    exact ih (i + 1) k (by omega) (by omega)
/-- the loop that counts the whole records -/
theorem count_loop (l : List ByteArray) (n : Int) (c : Nat) (L : List S23) (m e : Int) (j : Nat) (hj : j ≤ l.length) (hl : l.length ≤ 1048576) (h1 : ∀ i, i ≤ j → LEN (l.take i) ≤ c) (h2 : j < l.length → c < LEN (l.take (j + 1))) :
    ∀ (d i k : Nat), i + d = j → lodestarlaw09_WalTorn.l1 (k + d + 1) l n (c : Int) (ENDS l) L m e (i : Int) = lodestarlaw09_WalTorn.j3 k l n (c : Int) (ENDS l) L m e (j : Int) := by
  intro d
  induction d with
  | zero =>
    intro i k hi
    obtain rfl : i = j := by omega
    have ew : wrap64 ((i : Int) + 1) = ((i + 1 : Nat) : Int) := by rw [w64 (by omega) (by omega)]; omega
    rw [lodestarlaw09_WalTorn.l1, ew, ENDS_length]
    by_cases hlt : i < l.length
    · have := h2 hlt
      rw [if_pos (by omega), if_pos (by omega), ENDS_rd l (i + 1) (by omega), if_neg (by omega)]
    · rw [if_neg (by omega)]
  | succ d ih =>
    intro i k hi
    have ew : wrap64 ((i : Int) + 1) = ((i + 1 : Nat) : Int) := by rw [w64 (by omega) (by omega)]; omega
    have h := h1 (i + 1) (by omega)
    obtain ⟨K, hK⟩ : ∃ K, K = k + d + 1 := ⟨_, rfl⟩
    have eK : k + (d + 1) + 1 = K + 1 := by omega
    rw [eK, lodestarlaw09_WalTorn.l1, ew, ENDS_length, if_pos (by omega), if_pos (by omega), ENDS_rd l (i + 1) (by omega), if_pos (by omega), hK]
    exact ih (i + 1) k (by omega)
theorem guard_loop (l : List ByteArray) (n c : Int) (K : Nat) (hK : 500 ≤ K) (hl : l.length ≤ 1048576) (hrest : (∀ i, (h : i < l.length) → l[i].size ≤ 65536) → ∀ k, K ≤ k → lodestarlaw09_WalTorn.l0 (k + 1) l n c (l.length : Int) = some true) :
    ∀ (d i k : Nat), i + d = l.length → (∀ q, (h : q < l.length) → q < i → l[q].size ≤ 65536) → K + d + 1 ≤ k → lodestarlaw09_WalTorn.l0 k l n c (i : Int) = some true := by
  intro d
  induction d with
  | zero =>
    intro i k hi hq hk
    obtain ⟨k, rfl⟩ : ∃ m, k = m + 1 := ⟨k - 1, by omega⟩
    obtain rfl : i = l.length := by omega
    exact hrest (fun q h => hq q h h) k (by omega)
  | succ d ih =>
    intro i k hi hq hk
    obtain ⟨k, rfl⟩ : ∃ m, k = m + 1 := ⟨k - 1, by omega⟩
    have hlt : i < l.length := by omega
    rw [lodestarlaw09_WalTorn.l0, if_pos (by omega), if_pos (by omega), rdOf_get l i hlt]
    by_cases hb : (l[i].size : Int) > 65536
    · rw [if_pos hb, awake k (by omega)]
      rfl
    · rw [if_neg hb, w64 (by omega) (by omega)]
      refine ih (i + 1) k (by omega) (fun q h hlt' => ?_) (by omega)
      by_cases e : q = i
      · subst e
        omega
      · exact hq q h (by omega)
/-- the cut's place -/
theorem cut_in (c : Int) (N : Nat) (hN : N ≤ 1099511627776) :
    ∃ m : Nat, m ≤ N ∧ Int.tmod (wrap64 ((wrap64 ((Int.tmod c (wrap64 ((N : Int) + 1))) + (N : Int))) + 1)) (wrap64 ((N : Int) + 1)) = (m : Int) := by
  rw [w64 (x := (N : Int) + 1) (by omega) (by omega)]
  have h1 : (Int.tmod c ((N : Int) + 1)) < (N : Int) + 1 := Int.tmod_lt_of_pos c (by omega)
  have h2 : -((N : Int) + 1) < Int.tmod c ((N : Int) + 1) := by
    have h := Int.lt_tmod_of_pos c (b := (N : Int) + 1) (by omega)
    exact h
  generalize Int.tmod c ((N : Int) + 1) = r at h1 h2
  rw [w64 (x := r + (N : Int)) (by omega) (by omega), w64 (by omega) (by omega)]
  rw [Int.tmod_eq_emod_of_nonneg (by omega)]
  have h3 := Int.emod_nonneg (r + N + 1) (b := (N : Int) + 1) (by omega)
  have h4 := Int.emod_lt_of_pos (r + N + 1) (b := (N : Int) + 1) (by omega)
  exact ⟨((r + N + 1) % ((N : Int) + 1)).toNat, by omega, by omega⟩

/-- what stands behind the count -/
theorem behind (l : List ByteArray) (n m j K : Nat) (h1 : 1 ≤ n) (hn : n ≤ 1125899906842624) (hl : l.length ≤ 1048576) (hj : j ≤ l.length) (hK : j + 400 ≤ K) :
    lodestarlaw09_WalTorn.j3 (K + 1 + 1) l (n : Int) (m : Int) (ENDS l) (RECS n (l.take j)) (LEN (l.take j) : Int) (if m = LEN (l.take j) then 0 else 91) (j : Int) = some true := by
  have hrl : (RECS n (l.take j)).length = j := by rw [RECS_length, List.length_take]; omega
  have hj4 : lodestarlaw09_WalTorn.j4 (K + 1) l (n : Int) (RECS n (l.take j)) (j : Int) false = some true := by
    rw [lodestarlaw09_WalTorn.j4, if_neg (by simp)]
    exact last_loop l n j h1 hn hj hl j 0 K (by omega) (by omega)
  rw [lodestarlaw09_WalTorn.j3, hrl, if_pos rfl, if_pos (by omega), ENDS_length, if_pos (by omega), ENDS_rd l j hj, if_pos rfl]
  by_cases he : m = LEN (l.take j)
  · rw [if_pos he, if_neg (by simp [he]), if_pos rfl, hj4]
  · have he' : ¬ (LEN (l.take j) : Int) = (m : Int) := by omega
    rw [if_neg he, if_neg (by simp [he']), if_neg (by simp)]
    exact hj4
theorem middle (l : List ByteArray) (n : Nat) (c : Int) (k : Nat) (h1 : 1 ≤ n) (hn : n ≤ 1125899906842624) (hl : l.length ≤ 1048576) (hL : LEN l ≤ 1099511627) (hb : ∀ i, (h : i < l.length) → l[i].size ≤ 65536) (hk : LEN l * 2 + 1999000 ≤ k) :
    lodestarlaw09_WalTorn.j1 (k + 1) l (n : Int) c false = some true := by
  have hLg := LEN_ge l
  have hok : ∀ i, (h : i < l.length) → OkRec ((n + i : Nat) : Int) l[i] := fun i h => by
    have := hb i h
    unfold OkRec
    omega
  obtain ⟨m, hm, hcut⟩ := cut_in c (LEN l) (by omega)
  obtain ⟨j, hj, g1, g2⟩ := whole l m hm
  have hz : ((JOIN n l).extract 0 m).size ≤ m := by rw [ByteArray.size_extract]; omega
  have hs : wal_Scan.f k ((JOIN n l).extract 0 m) = some (RECS n (l.take j), (LEN (l.take j) : Int), if m = LEN (l.take j) then 0 else 91) := by
    rw [walScan _ k (by omega) (by omega), SCAN_cut l n m j hok hm hj (g1 j (Nat.le_refl _)) g2]
  obtain ⟨K, hK⟩ : ∃ K, k = (K + 1 + 1) + j + 1 := ⟨k - j - 3, by omega⟩
  have hcl := count_loop l (n : Int) m (RECS n (l.take j)) ((LEN (l.take j) : Int)) (if m = LEN (l.take j) then 0 else 91) j hj hl g1 g2 j 0 (K + 1 + 1) (by omega)
  rw [← hK, behind l n m j K h1 hn hl hj (by omega)] at hcl
  rw [lodestarlaw09_WalTorn.j1, if_neg (by simp), joined l n k (by omega) (by omega) hb (by omega) (by omega) (by omega)]
  rw [Option.bind_some]
  dsimp only
  rw [if_pos rfl, JOIN_size, hcut, if_neg (by rw [w64 (by omega) (by omega)]; omega), if_pos (by omega), if_pos (by omega), Int.toNat_natCast, hs, Option.bind_some]
  exact hcl
theorem outer (l : List ByteArray) (n c : Int) (k : Nat) (hl : l.length ≤ 1048576) (hL : LEN l ≤ 1099511627) (hb : ∀ i, (h : i < l.length) → l[i].size ≤ 65536) (hk : LEN l * 2 + 2000000 ≤ k) :
    lodestarlaw09_WalTorn.l0 (k + 1) l n c (l.length : Int) = some true := by
  obtain ⟨k, rfl⟩ : ∃ m, k = m + 1 := ⟨k - 1, by omega⟩
  have hj1 : lodestarlaw09_WalTorn.j1 (k + 1) l n c true = some true := by
    rw [lodestarlaw09_WalTorn.j1, if_pos rfl, awake k (by omega)]
    rfl
  rw [lodestarlaw09_WalTorn.l0, if_neg (by omega)]
  by_cases h1 : n < 1
  · rw [if_pos h1, hj1]
  · rw [if_neg h1]
    by_cases h2 : n > 1125899906842624
    · rw [if_pos h2, hj1]
    · rw [if_neg h2]
      by_cases h3 : ((l.length : Int) == 0) = true
      · rw [h3, hj1]
      · rw [Bool.eq_false_iff.2 h3]
        obtain ⟨n, rfl⟩ : ∃ m : Nat, n = m := ⟨n.toNat, by omega⟩
        exact middle l n c k (by omega) (by omega) hl hL hb (by omega)
/-- THE PLAIN LAW -/
theorem plain (l : List ByteArray) (n c : Int) (hl : l.length ≤ 1048576) (hL : LEN l ≤ 1099511627) : ∃ k, lodestarlaw09_WalTorn.f k l n c = some true := by
  obtain ⟨K, hK⟩ : ∃ K, LEN l * 2 + 2000000 ≤ K := ⟨_, Nat.le_refl _⟩
  obtain ⟨K2, hK2⟩ : ∃ K2, K + l.length + 1 ≤ K2 := ⟨_, Nat.le_refl _⟩
  refine ⟨K2, ?_⟩
  unfold lodestarlaw09_WalTorn.f
  exact guard_loop l n c K (by omega) hl (fun hb k hk => outer l n c k hl hL hb (by omega)) l.length 0 K2 (by omega) (fun q h h' => by omega) (by omega)

theorem wt_len : ∀ l : List ByteArray, LEN l ≤ 20 * Wt (fun s : ByteArray => s.size + 1) l ∧ l.length ≤ Wt (fun s : ByteArray => s.size + 1) l
  | [] => by simp [LEN, Wt]
  | b :: l => by
    have := wt_len l
    simp only [LEN, Wt, List.length_cons]
    omega

set_option maxRecDepth 100000 in
theorem contract (H : Type) (enc : TypeId × Value → H) (W : World) (base : Nat) (args : Array Value) (ds gs : List (DataW H)) (before : List MemPlace)
    (hval : ∀ (j : Nat) t v, Try.f4.params[j]? = some t → args[j]? = some v → Value.okWide Try.prog W .any base t v)
    (hW : DataW.Whole enc Try.prog Try.f4.params.toList Rows.walTornSpec.vars false W args.toList ds gs before) (hk : Rows.uptoSmall H (ds ++ gs) = true) :
    Calls Try.prog 4 args W fun e W' => ∃ v, e = .returned v ∧ Rows.walTornSpec.post enc Try.prog Try.f4 false true false false W args v W' := by
  have hW' := hW
  obtain ⟨p, q, hA0, hV, rfl, hfz, hnd⟩ := hW
  have hA : DataW.TrodAll enc Try.prog W 0 (fun _ => true) true Try.f4.params.toList args.toList ds p := hA0
  rw [Try.params4] at hA hval
  obtain ⟨v0, vs0, d0, ds0, p0, q0, hargs, rfl, rfl, h0, r0⟩ := trodAll_cons hA
  obtain ⟨v1, vs1, d1, ds1, p1, q1, rfl, rfl, rfl, h1, r1⟩ := trodAll_cons r0
  obtain ⟨v2, vs2, d2, ds2, p2, q2, rfl, rfl, rfl, h2, r2⟩ := trodAll_cons r1
  obtain ⟨rfl, rfl, rfl⟩ := trodAll_nil r2
  obtain rfl : args = #[v0, v1, v2] := by cases args; simp_all
  obtain ⟨rfl, rfl⟩ := trodVars_none hV
  have k0 := h0
  have lt0 : ∀ x ∈ p0, x.block < W.heap.size := by obtain ⟨m, hm⟩ := k0; exact DataW.trod_lt m _ _ _ hm
  obtain ⟨A, c, l, rfl, hle, hC, hm0, _⟩ := open_slice Try.underlying37 (opn_string Try.underlying9) (by kernel_rfl) (hval 0 37 v0 rfl rfl) h0
  obtain ⟨n, rfl, rfl, rfl, w1⟩ := open_int Try.underlying3 (hval 1 3 v1 rfl rfl) h1
  obtain ⟨x, rfl, rfl, rfl, w2⟩ := open_int Try.underlying3 (hval 2 3 v2 rfl rfl) h2
  have hb := bulk_le hk
  simp only [List.cons_append, List.nil_append, Rows.uptoBulkAll, Rows.uptoBulk] at hb
  obtain ⟨g1, g2⟩ := wt_len l
  clear hA0
  obtain ⟨k, hpl⟩ := plain l n x (by omega) (by omega)
  refine (lodestarlaw09_WalTorn.calls k A c l n x true W hC hle hpl).mono fun e W' ⟨he, bel⟩ => ?_
  subst he
  exact ⟨_, rfl, _, _, _, [], _, [], hW', trodAll_mk1 (shut_bool Try.underlying4 _), trodAll_cons_mk (Below.trod laidOut (by kernel_rfl) (of_decide_eq_true (by kernel_rfl)) k0 bel lt0) (trodAll_cons_mk (shut_int Try.underlying3 w1) (trodAll_cons_mk (shut_int Try.underlying3 w2) trodAll_mk0)), rfl, bel.frame _, fun h => by cases h⟩

set_option maxRecDepth 100000 in
theorem lifted (os : Os) (started : os.Started) (H : Type) (enc : TypeId × Value → H) (F : Stop.Interp) :
    ReturnsInHanded {} Try.checked os 4 .any ((Rows.OpenSpec.upto Rows.walTornSpec).pre6 enc Try.prog Try.f4 Rows.walTornUptoRow.domain false) (((Rows.OpenSpec.upto Rows.walTornSpec).at F).post enc Try.prog Try.f4 false true false false) := by
  refine returnsInHanded_of_cond (C := Try.checked) (s := Rows.OpenSpec.upto Rows.walTornSpec) (k := Rows.uptoSmall) rfl own started (by kernel_rfl) Try.func4
    (OpenSpec.witness (enc := enc) (C := Try.checked) (s := Rows.OpenSpec.upto Rows.walTornSpec) (k := Rows.uptoSmall) rfl false ⟨#[], #[.slice none 0 0, .int .i64 0, .int .i64 0], []⟩ 8 (by kernel_rfl) (by kernel_rfl) (by kernel_rfl)
      (x := ([.nil, .lit (.int .i64 0), .lit (.int .i64 0)], [], [])) (by kernel_rfl) rfl (by kernel_rfl)) ?_
  intro W base args ds gs before hval hW _ hk _
  exact contract H enc W base args ds gs before hval hW hk

theorem over : Rows.walTornUptoRow.holds Try.pinned (Rows.OpenSpec.upto Rows.walTornSpec) :=
  OpenClaim.holds_of_cond 4 Try.f4 rfl rfl rfl rfl rfl rfl rfl ⟨rfl, rfl, rfl, rfl, rfl⟩ rfl rfl rfl rfl rfl (by kernel_rfl) Try.func4 (by kernel_rfl)
    (of_decide_eq_true (by kernel_rfl)) (by unfold Func.isWrapper; first | (rw [if_pos (by decide +kernel)]; kernel_rfl) | (rw [if_neg (by decide +kernel)]; exact ⟨rfl, rfl⟩))
    (fun os started H enc _ F => lifted os started H enc F)
theorem proved : Rows.WalTornUptoSaid := over
#print axioms proved
end Go.Proofs.Ytmnmlicckmaegaa.walTorn
namespace Go.Proofs.Ytmnmlicckmaegaa
/-- The row, under a short name, for the claim. -/
theorem walTorn_holds : Rows.WalTornUptoSaid := walTorn.proved
end Go.Proofs.Ytmnmlicckmaegaa
