/- PayloadBack, in plain terms: a point that is written is read as it was; a beginning of its bytes is none. -/
import Derived.Test.YtbeljekpknpadaaDoorPPayYx12
import Derived.Test.YtbeljekpknpadaaDoorPPayYx2
import Derived.Test.YtbeljekpknpadaaDoorPPayYx6
import Derived.Test.YtbeljekpknpadaaDoorPPayYx7
import Derived.Test.YtbeljekpknpadaaDoorPPayYx8
import Derived.Test.YtbeljekpknpadaaDoorPyA0
import Derived.Test.YtbeljekpknpadaaDoorPyS
namespace Go.Proofs.YtbeljekpknpadaaDoor.PPayYL
open Go.RowKit Go.Proofs.YtbeljekpknpadaaDoor.PPayY Go.Proofs.YtbeljekpknpadaaDoorW.PrintWords Go.Proofs.YtbeljekpknpadaaDoorW.PrintLast Go.Proofs.YtbeljekpknpadaaDoorW.PrintMore
set_option linter.unusedVariables false
set_option linter.unusedSimpArgs false

theorem bytesOf_append (a b : ByteArray) : bytesOf (a ++ b) = bytesOf a ++ bytesOf b := by
  unfold bytesOf
  rw [ByteArray.data_append, Array.toList_append, List.map_append]
theorem encP_len (a0 : Int) (l1 : List S59) (l2 : List S61) : 1 ≤ (encP a0 l1 l2).length := by
  simp only [encP, List.length_append, leB_length]
  omega
theorem encP_max (a0 : Int) (l1 : List S59) (l2 : List S61) (h : mayB a0 l1 l2 = true) : (encP a0 l1 l2).length ≤ 10000 := by
  obtain ⟨o1, o2, o3, o4, o5, o6, o7⟩ := may_ok a0 l1 l2 h
  have f1 : ∀ L : List S59, (∀ x ∈ L, okV x) → (L.flatMap encV).length ≤ 200 * L.length := by
    intro L hL
    induction L with
    | nil => simp
    | cons x L ih =>
      have h5 := encV_len x (hL x (List.mem_cons_self ..))
      have h6 := ih (fun y hy => hL y (List.mem_cons_of_mem _ hy))
      rw [List.flatMap_cons, List.length_append, List.length_cons]
      omega
  have f2 : ∀ L : List S61, (∀ x ∈ L, okF x) → (L.flatMap encF).length ≤ 300 * L.length := by
    intro L hL
    induction L with
    | nil => simp
    | cons x L ih =>
      have h5 := encF_len x (hL x (List.mem_cons_self ..))
      have h6 := ih (fun y hy => hL y (List.mem_cons_of_mem _ hy))
      rw [List.flatMap_cons, List.length_append, List.length_cons]
      omega
  have g1 := f1 l1 o6
  have g2 := f2 l2 o7
  simp only [encP, List.length_append, leB_length]
  omega
/-- whole, and something behind -/
theorem read_whole (a0 : Int) (l1 : List S59) (l2 : List S61) (h : mayB a0 l1 l2 = true) (more : ByteArray) (hm : more.size ≤ 1048576) :
    Ev (fun k => payload_Decode.f k (strOfNums (encP a0 l1 l2) ++ more)) (a0, l1, l2, ((strOfNums (encP a0 l1 l2)).size : Int), 0) := by
  have hmax := encP_max a0 l1 l2 h
  have hs : (strOfNums (encP a0 l1 l2)).size = (encP a0 l1 l2).length := strOfNums_size _
  have hs2 : (strOfNums (encP a0 l1 l2) ++ more).size = (encP a0 l1 l2).length + more.size := by rw [ByteArray.size_append, hs]
  have hb : bytesOf (strOfNums (encP a0 l1 l2) ++ more) = encP a0 l1 l2 ++ bytesOf more := by rw [bytesOf_append, bytesOf_str _ (encP_byte a0 l1 l2)]
  obtain ⟨r, hr, hev⟩ := read_point (strOfNums (encP a0 l1 l2) ++ more) (by omega) [] (bytesOf more) a0 l1 l2 h ⟨Nat.zero_le _, by rw [List.drop_zero, List.append_nil, hb]⟩
  rcases hr with ⟨_, hz⟩ | ⟨a, rfl, ha, hd⟩
  · exact absurd rfl hz
  · have := congrArg List.length hd
    rw [List.append_nil, List.length_drop, bytesOf_length, bytesOf_length, hs2] at this
    have e : a = (strOfNums (encP a0 l1 l2)).size := by omega
    subst e
    exact hev
/-- cut off -/
theorem read_cut (a0 : Int) (l1 : List S59) (l2 : List S61) (h : mayB a0 l1 l2 = true) (c : Nat) (hc : c < (strOfNums (encP a0 l1 l2)).size) :
    Ev (fun k => payload_Decode.f k ((strOfNums (encP a0 l1 l2)).extract 0 c)) ERR := by
  have hmax := encP_max a0 l1 l2 h
  have hs : (strOfNums (encP a0 l1 l2)).size = (encP a0 l1 l2).length := strOfNums_size _
  have hb : bytesOf ((strOfNums (encP a0 l1 l2)).extract 0 c) = (encP a0 l1 l2).take c := by rw [bytesOf_extract, List.drop_zero, bytesOf_str _ (encP_byte a0 l1 l2)]
  have hz : (encP a0 l1 l2).drop c ≠ [] := fun e => by
    have := congrArg List.length e
    rw [List.length_drop] at this
    simp only [List.length_nil] at this
    omega
  have hs2 : ((strOfNums (encP a0 l1 l2)).extract 0 c).size ≤ 1099511627776 := by
    rw [ByteArray.size_extract]
    omega
  obtain ⟨r, hr, hev⟩ := read_point _ hs2 ((encP a0 l1 l2).drop c) [] a0 l1 l2 h ⟨Nat.zero_le _, by rw [List.drop_zero, hb, List.append_nil, List.take_append_drop]⟩
  rcases hr with ⟨rfl, _⟩ | ⟨a, _, _, hd⟩
  · exact hev
  · exact absurd (List.append_eq_nil_iff.1 hd).2 hz
theorem back_plain (a0 : Int) (l1 : List S59) (l2 : List S61) (more : ByteArray) (cut : Int) (ha : Fit l1 l2) (hs : more.size ≤ 1048576) : ∃ k, lodestarlaw05_PayloadBack.f k a0 l1 l2 more cut = some true := by
  have he : Ev (fun k => payload_Encode.f k a0 l1 l2) (if mayB a0 l1 l2 = true then (strOfNums (encP a0 l1 l2), 0) else (⟨#[]⟩, 120)) := ⟨100000000, fun k hk => encode_fit a0 l1 l2 ha k hk⟩
  have w1 := ha.w
  have w2 := ha.n
  have hawake : Ev (fun k => lodestarlaw05_awake.f k) true := ⟨64, fun k hk => awake_eq k hk⟩
  have h : Ev (fun k => lodestarlaw05_PayloadBack.f k a0 l1 l2 more cut) true := by
    refine Ev.congr (fun k => by rw [lodestarlaw05_PayloadBack.f]) ?_
    refine Ev.bind he ?_
    by_cases hm : mayB a0 l1 l2 = true
    · have hmax := encP_max a0 l1 l2 hm
      have hmin := encP_len a0 l1 l2
      have hz : (strOfNums (encP a0 l1 l2)).size = (encP a0 l1 l2).length := strOfNums_size _
      have hne : ¬ (strOfNums (encP a0 l1 l2)).toList = ([] : List UInt8) := fun e => by
        rw [Lib.toList_data] at e
        have e2 : (strOfNums (encP a0 l1 l2)).size = 0 := by rw [← data_length, e]; rfl
        omega
      rw [if_pos hm]
      simp only
      have hw := read_whole a0 l1 l2 hm more hs
      have hcut := read_cut a0 l1 l2 hm
      have hsame : Ev (fun k => lodestarref05_Same.f k a0 l1 l2 a0 l1 l2) true := ⟨100000000, fun k hk => by
        have e2 : eqP a0 l1 l2 a0 l1 l2 = true := (eqP_iff ..).2 ⟨rfl, rfl, rfl⟩
        have e := ref_same_fit a0 l1 l2 a0 l1 l2 ha k hk
        rw [e2] at e
        exact e⟩
      have hsame0 : Ev (fun k => lodestarref05_Same.f k 0 [] [] 0 [] []) true := ⟨100000000, fun k hk => by
        have e2 : eqP 0 [] [] 0 [] [] = true := (eqP_iff ..).2 ⟨rfl, rfl, rfl⟩
        have e := ref_same_fit 0 [] [] 0 [] [] ⟨by simp [wt59], by simp, by simp, by simp, by simp⟩ k hk
        rw [e2] at e
        exact e⟩
      generalize strOfNums (encP a0 l1 l2) = S at hne hz hw hcut ⊢
      have t1 := Int.tmod_lt_of_pos cut (show (0 : Int) < (S.size : Int) by omega)
      have t2 : -(S.size : Int) < Int.tmod cut (S.size : Int) := by
        have h3 : (Int.tmod cut (S.size : Int)).natAbs < (S.size : Int).natAbs := by
          rw [Int.natAbs_tmod]
          exact Nat.mod_lt _ (by omega)
        omega
      have e1 : wrap64 (Int.tmod cut (S.size : Int) + (S.size : Int)) = Int.tmod cut (S.size : Int) + (S.size : Int) := w64 (by omega) (by omega)
      obtain ⟨c, hc⟩ : ∃ c : Int, Int.tmod (Int.tmod cut (S.size : Int) + (S.size : Int)) (S.size : Int) = c := ⟨_, rfl⟩
      have c0 : 0 ≤ c := by rw [← hc]; exact Int.tmod_nonneg _ (by omega)
      have c1 : c < (S.size : Int) := by rw [← hc]; exact Int.tmod_lt_of_pos _ (by omega)
      rw [e1, hc]
      clear e1 hc
      refine Ev.congr (fun k => by rw [if_pos trivial, if_neg hne, if_pos (by omega)]) ?_
      refine Ev.bind hw ?_
      refine Ev.congr (fun k => by rw [if_neg (by omega), if_pos c0, if_pos (by omega)]) ?_
      refine Ev.bind (hcut c.toNat (by omega)) ?_
      refine Ev.bind hsame ?_
      refine Ev.congr (fun k => by rw [if_pos rfl, if_pos rfl, if_pos rfl]) ?_
      refine Ev.bind hsame0 ?_
      refine Ev.congr (fun k => by rw [if_pos rfl, if_pos (show ERR.2.2.2.1 = 0 from rfl), if_pos (show ERR.2.2.2.2 = 52 from rfl)]) ?_
      exact Ev.bind hawake (Ev.now _)
    · have hmay : Ev (fun k => lodestarref05_May.f k a0 l1 l2) false := ⟨200000000, fun k hk => by
        have e := refMay_eq a0 l1 l2 (by omega) (by omega) 16777216 (by omega) ha.n1 ha.n2 (fun x hx => Nat.le_trans (ha.t x hx) (by omega)) k (by omega)
        have e2 : mayB a0 l1 l2 = false := by simpa using hm
        rw [e2] at e
        exact e⟩
      have hnil : (⟨#[]⟩ : ByteArray).toList = [] := by rw [Lib.toList_data]
      rw [if_neg hm]
      refine Ev.congr (fun k => by rw [if_neg (by decide), if_pos hnil]) ?_
      refine Ev.bind hmay ?_
      refine Ev.congr (fun k => by rw [if_neg (by decide)]) ?_
      exact Ev.bind hawake (Ev.now _)
  exact h.rounds
end Go.Proofs.YtbeljekpknpadaaDoor.PPayYL
