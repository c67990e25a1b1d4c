/- What the document's Encode answers, at every point: the same bytes as the program's. -/
import Derived.Test.YtbeljekpknpadaaDoorPPayVx11
import Derived.Test.YtbeljekpknpadaaDoorPvO
namespace Go.Proofs.YtbeljekpknpadaaDoor.PPayVL
open Go.RowKit Go.Proofs.YtbeljekpknpadaaDoor.PPayV Go.Proofs.YtbeljekpknpadaaDoorW.PrintWords Go.Proofs.YtbeljekpknpadaaDoorW.PrintLast Go.Proofs.YtbeljekpknpadaaDoorW.PrintMore
set_option linter.unusedVariables false
set_option linter.unusedSimpArgs false

theorem ba_ext {a b : ByteArray} (h : a.data.toList = b.data.toList) : a = b := by
  cases a
  cases b
  simp only at h
  rw [Array.ext' h]
theorem strOfNums_bytesOf (s : ByteArray) : strOfNums (bytesOf s) = s := by
  refine ba_ext ?_
  rw [strOfNums_data, bytesOf, List.map_map]
  conv => rhs; rw [← List.map_id s.data.toList]
  exact List.map_congr_left fun x _ => by simp
theorem sapp (a b : List Int) : strOfNums a ++ strOfNums b = strOfNums (a ++ b) := by
  refine ba_ext ?_
  rw [strOfNums_data, List.map_append, ← strOfNums_data, ← strOfNums_data]
  simp
theorem sapps (a : List Int) (s : ByteArray) : strOfNums a ++ s = strOfNums (a ++ bytesOf s) := by
  conv => lhs; rw [← strOfNums_bytesOf s]
  rw [sapp]
theorem fixs (n w k : Nat) (hn : n < 256 ^ w) (h1 : 1 ≤ w) (h8 : w ≤ 8) (hk : 10 ≤ k) : lodestarref05_fix.f k (IntKind.u64.wrap (n : Int)) (w : Int) = some (strOfNums (leB w n)) := by
  have := pow_le_8 h8
  rw [u64w (by omega) (by omega), refFixed n w k hn h1 h8 hk, FIX]
theorem refComps (V : List Int) (hV : V.length ≤ 64) (hc : ∀ c ∈ V, inB c = true) (i a0 : Int) (l1 : List S59) (l2 : List S61) (nm : ByteArray) (R : Nat) (RES : Option (ByteArray × Int)) : ∀ (n j k : Nat) (L : List Int), V.length - j = n → j ≤ V.length → n + 11 + R ≤ k → L.length + 2 * n ≤ 1000000 →
    (∀ q, R ≤ q → lodestarref05_Encode.l0 q (strOfNums (L ++ (V.drop j).flatMap encC)) (wrap64 (i + 1)) a0 l1 l2 = RES) →
    lodestarref05_Encode.l1 k (strOfNums L) i (j : Int) a0 l1 l2 nm V = RES
  | n, j, 0, L, hn, hj, hk, hx, hR => absurd hk (by omega)
  | 0, j, k + 1, L, hn, hj, hk, hx, hR => by
    obtain rfl : j = V.length := by omega
    rw [lodestarref05_Encode.l1, if_neg (by omega)]
    have := hR k (by omega)
    rw [List.drop_eq_nil_of_le (Nat.le_refl _)] at this
    simpa using this
  | n + 1, j, k + 1, L, hn, hj, hk, hx, hR => by
    have h1 : j < V.length := by omega
    have hb := hc V[j] (List.getElem_mem h1)
    simp only [inB, Bool.and_eq_true, decide_eq_true_eq] at hb
    have e : wrap64 (V[j] + 32768) = ((V[j] + 32768).toNat : Int) := by rw [w64 (by omega) (by omega)]; omega
    have e2 : (2 : Int) = ((2 : Nat) : Int) := rfl
    rw [lodestarref05_Encode.l1, if_pos (by omega), if_pos (by omega), rdI V j h1, e, e2, fixs _ 2 k (by omega) (by omega) (by omega) (by omega), Option.bind_some, if_pos (by rw [strOfNums_size, strOfNums_size, leB_length]; omega), sapp, succ_nat j V.length h1 (by omega)]
    refine refComps V hV hc i a0 l1 l2 nm R RES n (j + 1) k (L ++ leB 2 (V[j] + 32768).toNat) (by omega) (by omega) (by omega) (by simp [leB_length]; omega) ?_
    intro q hq
    have := hR q hq
    rw [List.drop_eq_getElem_cons h1, List.flatMap_cons, ← List.append_assoc] at this
    exact this
theorem refVecs (a0 : Int) (l1 : List S59) (l2 : List S61) (hL4 : l1.length ≤ 4) (hL : ∀ x ∈ l1, okV x) (hl2 : l2.length ≤ 16) (R : Nat) (RES : Option (ByteArray × Int)) : ∀ (n i k : Nat) (L : List Int), l1.length - i = n → i ≤ l1.length → 100 * n + 12 + R ≤ k → L.length + 200 * n ≤ 900000 →
    (∀ q, R ≤ q → lodestarref05_Encode.l2 q (strOfNums (L ++ (l1.drop i).flatMap encV ++ leB 1 l2.length)) 0 a0 l1 l2 = RES) →
    lodestarref05_Encode.l0 k (strOfNums L) (i : Int) a0 l1 l2 = RES
  | n, i, 0, L, hn, hi, hk, hx, hR => absurd hk (by omega)
  | 0, i, k + 1, L, hn, hi, hk, hx, hR => by
    obtain rfl : i = l1.length := by omega
    have e1 : (1 : Int) = ((1 : Nat) : Int) := rfl
    rw [lodestarref05_Encode.l0, if_neg (by omega), e1, fixs l2.length 1 k (by omega) (by omega) (by omega) (by omega), Option.bind_some, if_pos (by rw [strOfNums_size, strOfNums_size, leB_length]; omega), sapp]
    have := hR k (by omega)
    rw [List.drop_eq_nil_of_le (Nat.le_refl _)] at this
    simpa using this
  | n + 1, i, k + 1, L, hn, hi, hk, hx, hR => by
    have h1 : i < l1.length := by omega
    obtain ⟨o1, o2, o3⟩ := hL l1[i] (List.getElem_mem h1)
    have e1 : (1 : Int) = ((1 : Nat) : Int) := rfl
    have e0 : (0 : Int) = ((0 : Nat) : Int) := rfl
    rw [lodestarref05_Encode.l0, if_pos (by omega), if_pos (by omega), rd59 l1 i h1, e1, fixs l1[i].f0.size 1 k (by omega) (by omega) (by omega) (by omega), Option.bind_some, if_pos (by rw [strOfNums_size, leB_length]; omega),
      fixs l1[i].f1.length 1 k (by omega) (by omega) (by omega) (by omega), Option.bind_some, sapps, if_pos (by rw [strOfNums_size, strOfNums_size, List.length_append, leB_length, leB_length, bytesOf_length]; omega), sapp,
      if_pos (by simp only [strOfNums_size, List.length_append, leB_length, bytesOf_length]; omega), sapp, e0]
    have hlen := encV_len l1[i] ⟨o1, o2, o3⟩
    refine refComps l1[i].f1 o2 o3 i a0 l1 l2 _ (100 * n + 12 + R) RES l1[i].f1.length 0 k _ (by omega) (by omega) (by omega) (by simp [leB_length, bytesOf_length]; omega) ?_
    intro q hq
    rw [succ_nat i l1.length h1 (by omega)]
    have e2 : L ++ (leB 1 l1[i].f0.size ++ bytesOf l1[i].f0 ++ leB 1 l1[i].f1.length) ++ (l1[i].f1.drop 0).flatMap encC = L ++ encV l1[i] := by simp [encV]
    rw [e2]
    refine refVecs a0 l1 l2 hL4 hL hl2 R RES n (i + 1) q (L ++ encV l1[i]) (by omega) (by omega) hq (by rw [List.length_append]; omega) ?_
    intro p hp
    have := hR p hp
    rw [List.drop_eq_getElem_cons h1, List.flatMap_cons] at this
    simpa [List.append_assoc] using this
set_option maxRecDepth 100000 in
theorem val_empty (v : S33) (h : valB v = true) (hne : v.f0 ≠ 2) : bytesOf v.f2 = [] := by
  have e : v.f2.toList = [] := by
    unfold valB at h
    by_cases c1 : v.f0 = 1
    · rw [if_pos c1] at h
      simp only [Bool.and_eq_true, decide_eq_true_eq] at h
      exact h.1
    · rw [if_neg c1, if_neg hne] at h
      by_cases c3 : v.f0 = 3
      · rw [if_pos c3] at h
        simp only [Bool.and_eq_true, decide_eq_true_eq] at h
        exact h.1
      · rw [if_neg c3] at h
        cases h
  rw [Lib.toList_data] at e
  rw [bytesOf, e]
  rfl
set_option maxRecDepth 100000 in
theorem val_three (v : S33) (h : valB v = true) (h3 : v.f0 = 3) : 0 ≤ v.f1 ∧ v.f1 ≤ 1 := by
  unfold valB at h
  rw [if_neg (by omega), if_neg (by omega), if_pos h3] at h
  simp only [Bool.and_eq_true, Bool.or_eq_true, decide_eq_true_eq] at h
  omega
theorem refFields (a0 : Int) (l1 : List S59) (L2 : List S61) (hL4 : L2.length ≤ 16) (hL : ∀ x ∈ L2, okF x) : ∀ (n i k : Nat) (L : List Int), L2.length - i = n → i ≤ L2.length → n + 12 ≤ k → L.length + 400 * n ≤ 1000000 →
    lodestarref05_Encode.l2 k (strOfNums L) (i : Int) a0 l1 L2 = some (strOfNums (L ++ (L2.drop i).flatMap encF), 0)
  | n, i, 0, L, hn, hi, hk, hx => absurd hk (by omega)
  | 0, i, k + 1, L, hn, hi, hk, hx => by
    obtain rfl : i = L2.length := by omega
    rw [lodestarref05_Encode.l2, if_neg (by omega), List.drop_eq_nil_of_le (Nat.le_refl _)]
    simp
  | n + 1, i, k + 1, L, hn, hi, hk, hx => by
    have h1 : i < L2.length := by omega
    obtain ⟨o1, o2⟩ := hL L2[i] (List.getElem_mem h1)
    have o3 := val_text _ o2
    have o4 := val_kind _ o2
    have hlen := encF_len L2[i] ⟨o1, o2⟩
    have hln := encN_len L2[i].f1
    have e1 : (1 : Int) = ((1 : Nat) : Int) := rfl
    have e2 : (2 : Int) = ((2 : Nat) : Int) := rfl
    have e8 : (8 : Int) = ((8 : Nat) : Int) := rfl
    have ek : L2[i].f1.f0 = ((L2[i].f1.f0.toNat : Nat) : Int) := by omega
    have p1 := fixs L2[i].f0.size 1 k (by omega) (by omega) (by omega) (by omega)
    have p2 := fixs L2[i].f1.f0.toNat 1 k (by omega) (by omega) (by omega) (by omega)
    rw [← ek] at p2
    rw [← e1] at p1 p2
    have ih : lodestarref05_Encode.l2 k (strOfNums (L ++ encF L2[i])) (wrap64 ((i : Int) + 1)) a0 l1 L2 = some (strOfNums (L ++ (L2.drop i).flatMap encF), 0) := by
      rw [succ_nat i L2.length h1 (by omega), refFields a0 l1 L2 hL4 hL n (i + 1) k (L ++ encF L2[i]) (by omega) (by omega) (by omega) (by rw [List.length_append]; omega), List.drop_eq_getElem_cons h1, List.flatMap_cons, List.append_assoc]
    rw [lodestarref05_Encode.l2, if_pos (by omega), if_pos (by omega), rd61 L2 i h1, p1, Option.bind_some, if_pos (by rw [strOfNums_size, leB_length]; omega), p2, Option.bind_some, sapps,
      if_pos (by simp only [strOfNums_size, List.length_append, leB_length, bytesOf_length]; omega), sapp, if_pos (by simp only [strOfNums_size, List.length_append, leB_length, bytesOf_length]; omega), sapp]
    by_cases c1 : L2[i].f1.f0 = 1
    · have hw : IntKind.u64.wrap L2[i].f1.f1 = ((IntKind.u64.wrap L2[i].f1.f1).toNat : Int) := by rw [IntKind.wrap_u64]; omega
      have p3 := refFixed (IntKind.u64.wrap L2[i].f1.f1).toNat 8 k (by rw [IntKind.wrap_u64]; omega) (by omega) (by omega) (by omega)
      rw [← hw, ← e8] at p3
      have ee : L ++ (leB 1 L2[i].f0.size ++ bytesOf L2[i].f0 ++ leB 1 L2[i].f1.f0.toNat) ++ leB 8 (IntKind.u64.wrap L2[i].f1.f1).toNat = L ++ encF L2[i] := by
        rw [encF, encN, if_neg (by omega), if_pos c1, val_empty _ o2 (by omega)]
        simp [List.append_assoc]
      rw [if_pos c1, p3, Option.bind_some, FIX, if_pos (by simp only [strOfNums_size, List.length_append, leB_length, bytesOf_length]; omega), sapp, ee, ih]
    · rw [if_neg c1]
      by_cases c2 : L2[i].f1.f0 = 2
      · have p3 := fixs L2[i].f1.f2.size 2 k (by omega) (by omega) (by omega) (by omega)
        rw [← e2] at p3
        have ee : L ++ (leB 1 L2[i].f0.size ++ bytesOf L2[i].f0 ++ leB 1 L2[i].f1.f0.toNat) ++ (leB 2 L2[i].f1.f2.size ++ bytesOf L2[i].f1.f2) = L ++ encF L2[i] := by
          rw [encF, encN, if_pos c2]
          simp [List.append_assoc]
        rw [if_pos c2, p3, Option.bind_some, if_pos (by rw [strOfNums_size, leB_length]; omega), sapps, if_pos (by simp only [strOfNums_size, List.length_append, leB_length, bytesOf_length]; omega), sapp, ee, ih]
      · have c3 : L2[i].f1.f0 = 3 := by omega
        have hv := val_three _ o2 c3
        have p3 := fixs L2[i].f1.f1.toNat 1 k (by omega) (by omega) (by omega) (by omega)
        rw [← e1, show ((L2[i].f1.f1.toNat : Nat) : Int) = L2[i].f1.f1 by omega] at p3
        have ee : L ++ (leB 1 L2[i].f0.size ++ bytesOf L2[i].f0 ++ leB 1 L2[i].f1.f0.toNat) ++ leB 1 L2[i].f1.f1.toNat = L ++ encF L2[i] := by
          rw [encF, encN, if_neg c2, if_neg c1, val_empty _ o2 c2]
          simp [List.append_assoc]
        rw [if_neg c2, if_pos c3, p3, Option.bind_some, if_pos (by simp only [strOfNums_size, List.length_append, leB_length, bytesOf_length]; omega), sapp, ee, ih]
theorem refEncode_eq (a0 : Int) (l1 : List S59) (l2 : List S61) (h1 : wt59 l1 ≤ 1099511627776) (h2 : l2.length ≤ 1099511627776) (M : Nat) (hM : M ≤ 1099511627776) (n1 : ∀ x ∈ l1, x.f0.size ≤ M) (n2 : ∀ x ∈ l2, x.f0.size ≤ M) (ht : ∀ x ∈ l2, x.f1.f2.size ≤ 1099511627776) (k : Nat) (hk : 3 * wt59 l1 + 3 * l2.length + M + 1000 ≤ k) :
    lodestarref05_Encode.f k a0 l1 l2 = some (if mayB a0 l1 l2 = true then (strOfNums (encP a0 l1 l2), 0) else (⟨#[]⟩, 120)) := by
  unfold lodestarref05_Encode.f
  rw [refMay_eq a0 l1 l2 h1 h2 M hM n1 n2 ht k (by omega), Option.bind_some]
  by_cases hm : mayB a0 l1 l2 = true
  · obtain ⟨o1, o2, o3, o4, o5, o6, o7⟩ := may_ok a0 l1 l2 hm
    have e8 : (8 : Int) = ((8 : Nat) : Int) := rfl
    have e1 : (1 : Int) = ((1 : Nat) : Int) := rfl
    have e0 : (0 : Int) = ((0 : Nat) : Int) := rfl
    have p1 := fixs a0.toNat 8 k (by omega) (by omega) (by omega) (by omega)
    rw [show ((a0.toNat : Nat) : Int) = a0 by omega, ← e8] at p1
    have p2 := fixs l1.length 1 k (by omega) (by omega) (by omega) (by omega)
    rw [← e1] at p2
    rw [if_pos hm, if_pos hm, p1, Option.bind_some, p2, Option.bind_some, if_pos (by simp only [strOfNums_size, leB_length]; omega), sapp, e0]
    refine refVecs a0 l1 l2 o4 o6 o5 40 _ l1.length 0 k _ (by omega) (by omega) (by omega) (by simp [leB_length]; omega) ?_
    intro q hq
    have hf := refFields a0 l1 l2 o5 o7 l2.length 0 q (leB 8 a0.toNat ++ leB 1 l1.length ++ (l1.drop 0).flatMap encV ++ leB 1 l2.length) (by omega) (by omega) (by omega) (by
      have hfl : ∀ L : List S59, (∀ x ∈ L, okV x) → (L.flatMap encV).length ≤ 200 * L.length := by
        intro L hL
        induction L with
        | nil => simp
        | cons x L ih =>
          have h5 := encV_len x (hL x (List.mem_cons_self ..))
          have h6 := ih (fun y hy => hL y (List.mem_cons_of_mem _ hy))
          rw [List.flatMap_cons, List.length_append, List.length_cons]
          omega
      have := hfl l1 o6
      simp only [List.length_append, leB_length, List.drop_zero]
      omega)
    rw [e0, hf]
    rfl
  · rw [if_neg hm, if_neg hm]
end Go.Proofs.YtbeljekpknpadaaDoor.PPayVL
