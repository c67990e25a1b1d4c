import Derived.Test.YteeiljjjgkinhaaDoorHtE
namespace Go.Proofs.YteeiljjjgkinhaaDoor.PHttpDL
open Go.RowKit Go.Proofs.YteeiljjjgkinhaaDoor.PHttpD Go.Proofs.YteeiljjjgkinhaaDoor.HtLists Go.Proofs.YteeiljjjgkinhaaDoorW.PrintWords Go.Proofs.YteeiljjjgkinhaaDoorW.PrintLast Go.Proofs.YteeiljjjgkinhaaDoorW.PrintMore
set_option linter.unusedVariables false
set_option linter.unusedSimpArgs false

theorem sure_ev : Ev (fun k => lodestarlaw04_sure.f k) true := ⟨64, sure_eq⟩
theorem sure_some : Ev (fun k => (lodestarlaw04_sure.f k).bind fun t => some t) true := Ev.bind sure_ev (Ev.const fun _ => rfl)
theorem write_Ev (m p b : ByteArray) (hm : m.size ≤ 1073741824) (hp : p.size ≤ 1073741824) (hb : b.size ≤ 1073741824) : ∃ ok : Bool, Ev (fun k => http_Write.f k m p b) (writeOf m p b ok) ∧ (ok = true ↔ MethOk m ∧ PathOk p) := by
  obtain ⟨ok, h, hi⟩ := write_ev m p b hm hp hb
  exact ⟨ok, ⟨_, h⟩, hi⟩
/-- how Write ends -/
theorem writeOf_cases (m p b : ByteArray) (ok : Bool) : (writeOf m p b ok = (E0, 40)) ∨ (writeOf m p b ok = (E0, 41)) ∨ (ok = true ∧ b.size ≤ 262144 ∧ (headOf m p b).size ≤ 4096 ∧ writeOf m p b ok = (headOf m p b ++ b, 0)) := by
  unfold writeOf
  cases ok with
  | false => exact .inl rfl
  | true =>
    by_cases h1 : b.size > 262144
    · rw [if_pos rfl, if_pos h1]; exact .inr (.inl rfl)
    · by_cases h2 : (headOf m p b).size > 4096
      · rw [if_pos rfl, if_neg h1, if_pos h2]; exact .inr (.inl rfl)
      · rw [if_pos rfl, if_neg h1, if_neg h2]; exact .inr (.inr ⟨rfl, by omega, by omega, rfl⟩)
theorem last_gone {m p b : ByteArray} (hm : MethOk m) (hp : PathOk p) (hb : b.size ≤ 262144) (hh : (headOf m p b).size ≤ 4096) :
    ∃ e, e ≠ 0 ∧ Ev (fun k => http_Parse.f k ((headOf m p b ++ b).extract 0 ((headOf m p b ++ b).size - 1))) (E0, E0, E0, e) := by
  have hsz : (headOf m p b ++ b).size = (headOf m p b).size + b.size := ByteArray.size_append
  have hps := headOf_size m p b
  by_cases h0 : b.size = 0
  · refine parse_torn hm hp h0 hh (ba_ext ?_)
    rw [Lib.extract_from_zero, Lib.extract_from_zero, data_app]
    have e : b.data.toList = [] := List.length_eq_zero_iff.1 (by rw [size_len]; exact h0)
    rw [e, List.append_nil, hsz, h0]
    rfl
  · refine ⟨40, by decide, ?_⟩
    have e : (headOf m p b ++ b).extract 0 ((headOf m p b ++ b).size - 1) = headOf m p b ++ b.extract 0 (b.size - 1) := by
      apply ba_ext
      rw [Lib.extract_from_zero, data_app, data_app, Lib.extract_from_zero, hsz, List.take_append, size_len, List.take_of_length_le (by rw [size_len]; omega)]
      congr 2
      omega
    have ht : (b.extract 0 (b.size - 1)).size = b.size - 1 := by
      rw [← size_len, Lib.extract_from_zero, List.length_take, size_len]
      omega
    have h := parse_written (t := b.extract 0 (b.size - 1)) hm hp hb hh (by omega) e
    rw [if_neg (by omega)] at h
    exact h
theorem back_end {m p b : ByteArray} (hm : MethOk m) (hp : PathOk p) (hb : b.size ≤ 262144) (hh : (headOf m p b).size ≤ 4096) {s : ByteArray} (hs : s = headOf m p b ++ b) :
    Ev (fun k => if 0 ≤ (wrap64 ((s.size : Int) - 1)) then (if (wrap64 ((s.size : Int) - 1)) ≤ (s.size : Int) then ((http_Parse.f k (s.extract 0 ((wrap64 ((s.size : Int) - 1)) : Int).toNat)).bind fun bt249 => (if bt249.2.2.2 = 0 then (some false) else ((lodestarlaw04_sure.f k).bind fun t253 => (some t253)))) else (none)) else (none)) true := by
  have hsz : s.size = (headOf m p b).size + b.size := by rw [hs]; exact ByteArray.size_append
  have hps := headOf_size m p b
  obtain ⟨e, he, h⟩ := last_gone hm hp hb hh
  rw [← hs] at h
  have ew : wrap64 ((s.size : Int) - 1) = ((s.size - 1 : Nat) : Int) := by rw [wrap_small _ (by omega) (by omega)]; omega
  refine Ev.congr (g := fun k => (http_Parse.f k (s.extract 0 (s.size - 1))).bind fun bt249 => (if bt249.2.2.2 = 0 then (some false) else ((lodestarlaw04_sure.f k).bind fun t253 => (some t253)))) (fun k => ?_) ?_
  · show (if 0 ≤ (wrap64 ((s.size : Int) - 1)) then _ else _) = _
    rw [ew, if_pos (by omega), if_pos (by omega), show ((s.size - 1 : Nat) : Int).toNat = s.size - 1 by omega]
  · refine Ev.bind h ?_
    simp only [if_neg he]
    exact sure_some
theorem back_plain (m p b more : ByteArray) (hm : m.size ≤ 1073741824) (hp : p.size ≤ 1073741824) (hb : b.size ≤ 1073741824) (hmore : more.size ≤ 1073741824) : ∃ k, lodestarlaw04_HttpBack.f k m p b more = some true := by
  obtain ⟨ok, hW, hok⟩ := write_Ev m p b hm hp hb
  refine Ev.get (f := fun k => lodestarlaw04_HttpBack.f k m p b more) (Ev.congr (fun k => rfl) (Ev.bind hW ?_))
  have he0 : (E0 : ByteArray).toList = [] := (toList_nil _).2 rfl
  rcases writeOf_cases m p b ok with h | h | ⟨ho, hb2, hh, h⟩
  · rw [h]
    simp only [if_neg (show ¬ ((40 : Int) = 0) by decide), if_pos he0, if_true]
    exact sure_some
  · rw [h]
    simp only [if_neg (show ¬ ((41 : Int) = 0) by decide), if_neg (show ¬ ((41 : Int) = 40) by decide), if_pos he0, if_true]
    exact sure_some
  · rw [h]
    obtain ⟨hm', hp'⟩ := hok.1 ho
    have hps := headOf_size m p b
    have hsz : (headOf m p b ++ b).size = (headOf m p b).size + b.size := ByteArray.size_append
    obtain ⟨s, hs⟩ : ∃ s, s = headOf m p b ++ b := ⟨_, rfl⟩
    rw [← hs] at hsz ⊢
    have hne : ¬ s.toList = [] := fun e => by have := (toList_nil s).1 e; omega
    have hP := parse_written hm' hp' hb2 hh (by omega) hs
    rw [if_pos rfl] at hP
    simp only [if_true]
    refine Ev.bind hP ?_
    simp only [if_neg hne, beq_self_eq_true, Bool.not_true, Bool.or_self, if_neg (show ¬ (false = true) by decide)]
    show Ev (fun k => lodestarlaw04_HttpBack.j0 k more s false) true
    by_cases hmr : more.toList = []
    · refine Ev.succ (fun k => ?_) (back_end hm' hp' hb2 hh hs)
      simp only [lodestarlaw04_HttpBack.j0]
      rw [if_neg (by decide), if_pos hmr]
    · have hml : 1 ≤ more.size := by
        rcases Nat.eq_zero_or_pos more.size with h0 | h0
        · exact absurd ((toList_nil more).2 h0) hmr
        · exact h0
      refine Ev.succ (g := fun k => (http_Parse.f k (s ++ more)).bind fun bt254 => (if bt254.2.2.2 = 0 then (some false) else (if 0 ≤ (wrap64 ((s.size : Int) - 1)) then (if (wrap64 ((s.size : Int) - 1)) ≤ (s.size : Int) then ((http_Parse.f k (s.extract 0 ((wrap64 ((s.size : Int) - 1)) : Int).toNat)).bind fun bt258 => (if bt258.2.2.2 = 0 then (some false) else ((lodestarlaw04_sure.f k).bind fun t262 => (some t262)))) else (none)) else (none)))) (fun k => ?_) ?_
      · simp only [lodestarlaw04_HttpBack.j0]
        rw [if_neg (by decide), if_neg hmr, if_pos (by omega)]
      · have hP2 := parse_written (t := b ++ more) (s := s ++ more) hm' hp' hb2 hh (by rw [ByteArray.size_append]; omega) (by rw [hs]; exact ByteArray.append_assoc)
        rw [if_neg (by rw [ByteArray.size_append]; omega)] at hP2
        refine Ev.bind hP2 ?_
        simp only [if_neg (show ¬ ((40 : Int) = 0) by decide)]
        exact back_end hm' hp' hb2 hh hs

/-! ### the limits -/
def slashes (n : Nat) : ByteArray := ⟨(List.replicate n 47).toArray⟩
def zeros (n : Nat) : ByteArray := ⟨(List.replicate n 0).toArray⟩
theorem nums_slashes (n : Nat) : strOfNums (List.replicate n 47) = slashes n := by
  unfold strOfNums slashes
  rw [List.map_replicate]
  rfl
theorem nums_zeros (n : Nat) : strOfNums (List.replicate n 0) = zeros n := by
  unfold strOfNums zeros
  rw [List.map_replicate]
  rfl
theorem slashes_size (n : Nat) : (slashes n).size = n := by unfold slashes; rw [size_mk, List.length_replicate]
theorem zeros_size (n : Nat) : (zeros n).size = n := by unfold zeros; rw [size_mk, List.length_replicate]
theorem slashes_bt (n j : Nat) (h : j < n) : bt (slashes n) j = 47 := by
  obtain ⟨h1, h2⟩ := bt_get (slashes n) j (by rw [slashes_size]; exact h)
  rw [h2]
  have e : (slashes n).data.toList[j]? = some 47 := by
    show (List.replicate n (47 : UInt8))[j]? = some 47
    rw [List.getElem?_replicate, if_pos h]
  rw [e] at h1
  rw [← Option.some.inj h1]
  rfl
theorem slashes_ok (n : Nat) (h : 1 ≤ n) : PathOk (slashes n) := by
  refine ⟨fun j hj => ?_, by rw [slashes_size]; exact h, slashes_bt n 0 (by omega)⟩
  rw [slashes_size] at hj
  rw [slashes_bt n j hj]
  decide
def getM : ByteArray := ⟨#[71, 69, 84]⟩
theorem get_ok : MethOk getM := by
  refine ⟨fun j hj => ?_, by decide, by decide⟩
  have : j < 3 := hj
  match j, this with
  | 0, _ => decide
  | 1, _ => decide
  | 2, _ => decide
theorem set_next (i n : Nat) (h : i < n) : ((List.replicate i (47 : Int)) ++ List.replicate (n - i) 0).set i 47 = List.replicate (i + 1) 47 ++ List.replicate (n - (i + 1)) 0 := by
  rw [List.set_append_right _ _ (by simp), List.length_replicate, Nat.sub_self]
  obtain ⟨d, hd⟩ : ∃ d, n - i = d + 1 := ⟨n - i - 1, by omega⟩
  rw [hd, show n - (i + 1) = d by omega, List.replicate_succ, List.set_cons_zero, List.replicate_succ', List.append_assoc]
  rfl
theorem limits_l0 {x1 : Int} (n : Nat) (hn : n ≤ 5000) {r : Bool} (h : Ev (fun k => lodestarlaw04_HttpLimits.l0 k (n : Int) x1 (List.replicate n 47) (n : Int)) r) :
    ∀ d i, i + d = n → Ev (fun k => lodestarlaw04_HttpLimits.l0 k (n : Int) x1 (List.replicate i 47 ++ List.replicate (n - i) 0) (i : Int)) r
  | 0, i, hi => by
    obtain rfl : i = n := by omega
    rw [Nat.sub_self, List.replicate_zero, List.append_nil]
    exact h
  | d + 1, i, hi => by
    refine Ev.succ (fun k => ?_) (limits_l0 n hn h d (i + 1) (by omega))
    conv => lhs; unfold lodestarlaw04_HttpLimits.l0
    rw [if_pos (by omega), if_pos (by omega), if_pos (by simp; omega), show ((i : Int)).toNat = i by omega, set_next i n (by omega), wrap_next i (by omega)]
theorem limits_l1 {x0 x1 x9 : Int} {x8 : ByteArray} {r : Bool} {N : Nat} (hN : N ≤ 100) (h : ∀ u : Nat, u ≤ 9 → Ev (fun k => lodestarlaw04_HttpLimits.l1 k x0 x1 x8 x9 (N : Int) (u : Int)) r) :
    ∀ (u : Nat), u ≤ 262147 → ∀ c : Nat, c + Lib.nDigits u = N + 1 → Ev (fun k => lodestarlaw04_HttpLimits.l1 k x0 x1 x8 x9 (c : Int) (u : Int)) r := by
  intro u
  induction u using Nat.strongRecOn with
  | _ u ih =>
    intro hu c hc
    by_cases h9 : u < 10
    · rw [Lib.nDigits_small h9] at hc
      obtain rfl : c = N := by omega
      exact h u (by omega)
    · rw [Lib.nDigits_big h9] at hc
      have hle : Lib.nDigits (u / 10) ≤ 19 := nDigits_le64 _ (by omega)
      have hps := Lib.nDigits_pos (u / 10)
      refine Ev.succ (fun k => ?_) (ih (u / 10) (by omega) (by omega) (c + 1) (by omega))
      conv => lhs; unfold lodestarlaw04_HttpLimits.l1
      have e : Int.tdiv (u : Int) 10 = ((u / 10 : Nat) : Int) := by
        rw [Int.tdiv_eq_ediv_of_nonneg (by omega)]
        omega
      rw [if_pos (by omega), e, wrap_small ((u / 10 : Nat) : Int) (by omega) (by omega), wrap_next c (by omega)]
theorem limits_j2_true {x1 x12 : Int} : Ev (fun k => lodestarlaw04_HttpLimits.j2 k x1 E0 41 x12 true) true := by
  refine Ev.succ (g := fun k => (lodestarlaw04_sure.f k).bind fun t272 => (some t272)) (fun k => ?_) sure_some
  simp only [lodestarlaw04_HttpLimits.j2]
  rw [if_pos trivial, if_pos ((toList_nil _).2 rfl), if_pos trivial]
theorem limits_end (n u : Nat) (hn0 : 1 ≤ n) (hn : n ≤ 5000) (hu : u ≤ 262147) {w : ByteArray × Int} (hw : w = writeOf getM (slashes n) (zeros u) true) (v : Nat) (hv : v ≤ 9) :
    Ev (fun k => lodestarlaw04_HttpLimits.l1 k (n : Int) (u : Int) w.1 w.2 (Lib.nDigits u : Int) (v : Int)) true := by
  have hN : Lib.nDigits u ≤ 19 := nDigits_le64 u (by omega)
  have hN0 := Lib.nDigits_pos u
  have hhead : (headOf getM (slashes n) (zeros u)).size = n + Lib.nDigits u + 35 := by
    rw [headOf_size, slashes_size, zeros_size, itoa_nat, Lib.decDigits_length]
    have : getM.size = 3 := rfl
    omega
  have hz := zeros_size u
  have hW : wrap64 ((wrap64 ((wrap64 ((wrap64 ((wrap64 (4 + (n : Int))) + 11)) + 16)) + (Lib.nDigits u : Int))) + 4) = ((n + Lib.nDigits u + 35 : Nat) : Int) := by
    rw [wrap_small (4 + (n : Int)) (by omega) (by omega), wrap_small (4 + (n : Int) + 11) (by omega) (by omega), wrap_small (4 + (n : Int) + 11 + 16) (by omega) (by omega), wrap_small (4 + (n : Int) + 11 + 16 + (Lib.nDigits u : Int)) (by omega) (by omega), wrap_small _ (by omega) (by omega)]
    omega
  refine Ev.succ (g := fun k => if (u : Int) > 262144 then lodestarlaw04_HttpLimits.j2 k (u : Int) w.1 w.2 ((n + Lib.nDigits u + 35 : Nat) : Int) true else lodestarlaw04_HttpLimits.j2 k (u : Int) w.1 w.2 ((n + Lib.nDigits u + 35 : Nat) : Int) (decide (((n + Lib.nDigits u + 35 : Nat) : Int) > 4096))) (fun k => ?_) ?_
  · conv => lhs; unfold lodestarlaw04_HttpLimits.l1
    rw [if_neg (by omega), hW]
  · by_cases h1 : u > 262144
    · have e : w = (E0, 41) := by
        rw [hw]
        unfold writeOf
        rw [if_pos rfl, if_pos (by omega)]
      rw [e]
      simp only [if_pos (show (u : Int) > 262144 by omega)]
      exact limits_j2_true
    · simp only [if_neg (show ¬ (u : Int) > 262144 by omega)]
      by_cases h2 : n + Lib.nDigits u + 35 > 4096
      · have e : w = (E0, 41) := by
          rw [hw]
          unfold writeOf
          rw [if_pos rfl, if_neg (by omega), if_pos (by omega)]
        rw [e, decide_eq_true (show ((n + Lib.nDigits u + 35 : Nat) : Int) > 4096 by omega)]
        exact limits_j2_true
      · have e : w = (headOf getM (slashes n) (zeros u) ++ zeros u, 0) := by
          rw [hw]
          unfold writeOf
          rw [if_pos rfl, if_neg (by omega), if_neg (by omega)]
        rw [e, decide_eq_false (show ¬ ((n + Lib.nDigits u + 35 : Nat) : Int) > 4096 by omega)]
        have hP := parse_written (b := zeros u) get_ok (slashes_ok n hn0) (by omega) (by omega) (t := zeros u) (by omega) rfl
        rw [if_pos rfl] at hP
        have hsz : (headOf getM (slashes n) (zeros u) ++ zeros u).size = n + Lib.nDigits u + 35 + u := by rw [ByteArray.size_append, hhead, hz]
        refine Ev.succ (g := fun k => (http_Parse.f k (headOf getM (slashes n) (zeros u) ++ zeros u)).bind fun bt273 => (if (bt273.2.2.1.size : Int) = (u : Int) then (if bt273.2.2.2 = 0 then ((lodestarlaw04_sure.f k).bind fun t278 => (some t278)) else (some false)) else (some false))) (fun k => ?_) ?_
        · simp only [lodestarlaw04_HttpLimits.j2]
          rw [if_neg (by decide), wrap_small _ (by omega) (by omega)]
          congr 1
          funext bt
          rw [if_pos trivial, if_pos (by omega)]
        · refine Ev.bind hP ?_
          simp only [hz, if_true]
          exact sure_some
theorem limits_plain (a0 a1 : Int) : ∃ k, lodestarlaw04_HttpLimits.f k a0 a1 = some true := by
  obtain ⟨n, hx0, hn0, hn⟩ : ∃ n : Nat, mx 1 (mn a0 5000) = (n : Int) ∧ 1 ≤ n ∧ n ≤ 5000 := by
    refine ⟨(mx 1 (mn a0 5000)).toNat, ?_, ?_, ?_⟩ <;> (unfold mx mn; split <;> split <;> omega)
  obtain ⟨u, hx1, hu⟩ : ∃ u : Nat, mx 0 (mn a1 262147) = (u : Int) ∧ u ≤ 262147 := by
    refine ⟨(mx 0 (mn a1 262147)).toNat, ?_, ?_⟩ <;> (unfold mx mn; split <;> split <;> omega)
  obtain ⟨ok, hW, hok⟩ := write_Ev getM (slashes n) (zeros u) (by decide) (by rw [slashes_size]; omega) (by rw [zeros_size]; omega)
  obtain rfl := hok.2 ⟨get_ok, slashes_ok n hn0⟩
  have hN : Lib.nDigits u ≤ 19 := nDigits_le64 u (by omega)
  have h1 := limits_l1 (N := Lib.nDigits u) (by omega) (fun v hv => limits_end n u hn0 hn hu rfl v hv) u hu 1 (by omega)
  have h0 : Ev (fun k => lodestarlaw04_HttpLimits.l0 k (n : Int) (u : Int) (List.replicate n 47) (n : Int)) true := by
    refine Ev.succ (g := fun k => (http_Write.f k getM (slashes n) (zeros u)).bind fun bt270 => lodestarlaw04_HttpLimits.l1 k (n : Int) (u : Int) bt270.1 bt270.2 1 (u : Int)) (fun k => ?_) (Ev.bind hW h1)
    conv => lhs; unfold lodestarlaw04_HttpLimits.l0
    rw [if_neg (by omega), if_pos (by omega), if_pos (by omega), show ((u : Int)).toNat = u by omega, nums_slashes, nums_zeros]
    rfl
  have h := limits_l0 n hn h0 n 0 (by omega)
  rw [List.replicate_zero, List.nil_append, Nat.sub_zero] at h
  refine Ev.get (f := fun k => lodestarlaw04_HttpLimits.f k a0 a1) (Ev.congr (fun k => ?_) h)
  show lodestarlaw04_HttpLimits.f k a0 a1 = _
  unfold lodestarlaw04_HttpLimits.f
  rw [hx0, hx1, if_pos (by omega), if_pos (by omega), show ((n : Int)).toNat = n by omega]
  rfl
end Go.Proofs.YteeiljjjgkinhaaDoor.PHttpDL
