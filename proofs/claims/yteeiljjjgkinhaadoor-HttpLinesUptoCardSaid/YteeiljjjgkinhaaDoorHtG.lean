import Derived.Test.YteeiljjjgkinhaaDoorHtE
namespace Go.Proofs.YteeiljjjgkinhaaDoor.PHttpEL
open Go.RowKit Go.Proofs.YteeiljjjgkinhaaDoor.PHttpE Go.Proofs.YteeiljjjgkinhaaDoor.HtLists Go.Proofs.YteeiljjjgkinhaaDoorW.PrintWords Go.Proofs.YteeiljjjgkinhaaDoorW.PrintLast Go.Proofs.YteeiljjjgkinhaaDoorW.PrintMore
set_option linter.unusedVariables false
set_option linter.unusedSimpArgs false

theorem sure_ev : Ev (fun k => lodestarlaw04_sure.f k) true := ⟨64, sure_eq⟩
theorem sure_some : Ev (fun k => (lodestarlaw04_sure.f k).bind fun t => some t) true := Ev.bind sure_ev (Ev.const fun _ => rfl)
/-! ### letters -/
def letterB (c : UInt8) : Prop := (97 ≤ c.toNat ∧ c.toNat ≤ 122) ∨ (65 ≤ c.toNat ∧ c.toNat ≤ 90)
theorem plain_l (s : ByteArray) (hs : s.size ≤ 4294967296) : ∀ n i, i + n = s.size → ∃ b, Ev (fun k => lodestarlaw04_plain.l0 k s (i : Int)) b ∧ (b = true → (∀ j : Nat, i ≤ j → j < s.size → (97 ≤ bt s j ∧ bt s j ≤ 122) ∨ (65 ≤ bt s j ∧ bt s j ≤ 90)) ∧ s.size < 10)
  | 0, i, hi => by
    refine ⟨_, Ev.succ (g := fun _ => some (decide ((s.size : Int) < 10))) (fun k => ?_) (Ev.const fun _ => rfl), fun h => ⟨fun j h1 h2 => by omega, by have := of_decide_eq_true h; omega⟩⟩
    simp only [lodestarlaw04_plain.l0]
    rw [if_neg (by omega)]
  | n + 1, i, hi => by
    obtain ⟨b, hb, hq⟩ := plain_l s hs n (i + 1) (by omega)
    have bad : (¬ ((97 ≤ bt s i ∧ bt s i ≤ 122) ∨ (65 ≤ bt s i ∧ bt s i ≤ 90))) → Ev (fun k => lodestarlaw04_plain.l0 k s (i : Int)) false := fun h => by
      refine Ev.succ (g := fun _ => some false) (fun k => ?_) (Ev.const fun _ => rfl)
      conv => lhs; unfold lodestarlaw04_plain.l0
      rw [if_pos (by omega), if_pos (by omega)]
      by_cases h1 : bt s i ≥ 97
      · rw [if_pos h1, if_neg (by omega), if_pos (by omega), if_neg (by omega)]
      · rw [if_neg h1]
        by_cases h2 : bt s i ≥ 65
        · rw [if_pos h2, if_neg (by omega)]
        · rw [if_neg h2]
    by_cases hg : (97 ≤ bt s i ∧ bt s i ≤ 122) ∨ (65 ≤ bt s i ∧ bt s i ≤ 90)
    · refine ⟨b, Ev.succ (fun k => ?_) hb, fun h => ⟨fun j h1 h2 => ?_, (hq h).2⟩⟩
      · conv => lhs; unfold lodestarlaw04_plain.l0
        rw [if_pos (by omega), if_pos (by omega), wrap_next i (by omega)]
        rcases hg with hg | hg
        · rw [if_pos hg.1, if_pos hg.2]
        · rw [if_neg (by omega), if_pos hg.1, if_pos hg.2]
      · by_cases e : j = i
        · subst e; exact hg
        · exact (hq h).1 j (by omega) h2
    · exact ⟨false, bad hg, fun h => by cases h⟩
theorem plain_ev (s : ByteArray) (hs : s.size ≤ 4294967296) : ∃ b, Ev (fun k => lodestarlaw04_plain.f k s) b ∧ (b = true → (∀ c ∈ s.data.toList, letterB c) ∧ 1 ≤ s.size ∧ s.size < 10) := by
  by_cases h0 : s.toList = []
  · exact ⟨false, Ev.const fun k => by unfold lodestarlaw04_plain.f; rw [if_pos h0], fun h => by cases h⟩
  · obtain ⟨b, hb, hq⟩ := plain_l s hs s.size 0 (by omega)
    refine ⟨b, Ev.congr (fun k => ?_) hb, fun h => ⟨fun c hc => ?_, ?_, (hq h).2⟩⟩
    · show lodestarlaw04_plain.f k s = _
      unfold lodestarlaw04_plain.f
      rw [if_neg h0]
      rfl
    · have := all_bt (P := fun x => (97 ≤ x ∧ x ≤ 122) ∨ (65 ≤ x ∧ x ≤ 90)) (fun j hj => (hq h).1 j (by omega) hj) c hc
      unfold letterB
      omega
    · rcases Nat.eq_zero_or_pos s.size with h' | h'
      · exact absurd ((toList_nil s).2 h') h0
      · exact h'
theorem name_l (s : ByteArray) (hs : s.size ≤ 4294967296) (hl : ∀ c ∈ s.data.toList, letterB c) (h1 : 1 ≤ s.size) : ∀ n i, i + n = s.size → Ev (fun k => http_name.l0 k s (i : Int)) true
  | 0, i, hi => by
    refine Ev.succ (g := fun _ => some true) (fun k => ?_) (Ev.const fun _ => rfl)
    simp only [http_name.l0]
    rw [if_neg (by omega)]
    congr 1
    rw [bne_iff_ne]
    intro e
    have := (toList_nil s).1 e
    omega
  | n + 1, i, hi => by
    refine Ev.succ (fun k => ?_) (name_l s hs hl h1 n (i + 1) (by omega))
    obtain ⟨g1, g2⟩ := bt_get s i (by omega)
    have hc := hl _ (List.mem_of_getElem? g1)
    unfold letterB at hc
    conv => lhs; unfold http_name.l0
    rw [if_pos (by omega), if_pos (by omega), wrap_next i (by omega)]
    by_cases h9 : bt s i ≥ 97
    · rw [if_pos h9, if_pos (by omega)]
    · rw [if_neg h9, if_pos (by omega), if_pos (by omega)]

/-! ### a line more -/
def lineL (n v : List UInt8) : List UInt8 := n ++ ([58] ++ ([32] ++ v))
def headY (m p : ByteArray) (n v : List UInt8) (u : Nat) : List UInt8 := firstL m.data.toList p.data.toList ++ (crlf ++ (lineL n v ++ (crlf ++ clL u)))
theorem line_no13 {n v : List UInt8} (hn : ∀ c ∈ n, letterB c) (hv : ∀ c ∈ v, 32 ≤ c.toNat) : (13 : UInt8) ∉ lineL n v := by
  intro h
  unfold lineL at h
  rcases List.mem_append.1 h with h | h
  · have := hn 13 h; revert this; unfold letterB; decide
  rcases List.mem_append.1 h with h | h
  · revert h; decide
  rcases List.mem_append.1 h with h | h
  · revert h; decide
  · have := hv 13 h; revert this; decide
theorem headY_ok {m p : ByteArray} {n v : List UInt8} (hm : MethOk m) (hp : PathOk p) (hn : ∀ c ∈ n, letterB c) (h1 : 1 ≤ n.length) (hv : ∀ c ∈ v, 32 ≤ c.toNat) (u : Nat) : CrOk (headY m p n v u) := by
  refine good_cons (first_no13 hm hp) (good_cons (line_no13 hn hv) (good_line (cl_no13 u)) ⟨67, rfl, by decide⟩) ?_
  cases n with
  | nil => simp at h1
  | cons c t =>
    refine ⟨c, rfl, fun e => ?_⟩
    have := hn c (.head _)
    subst e
    revert this
    unfold letterB
    decide
theorem low_letter (c : UInt8) (h : letterB c) : 97 ≤ (Lib.lowerB c).toNat ∧ (Lib.lowerB c).toNat ≤ 122 := by
  have hall : ∀ x : Fin 256, ((97 ≤ x.val ∧ x.val ≤ 122) ∨ (65 ≤ x.val ∧ x.val ≤ 90)) → 97 ≤ (Lib.lowerB (UInt8.ofNat x.val)).toNat ∧ (Lib.lowerB (UInt8.ofNat x.val)).toNat ≤ 122 := by decide +kernel
  have := hall ⟨c.toNat, c.toNat_lt⟩ h
  simpa using this
theorem other_line {l : ByteArray} {n v : List UInt8} (hl : l.data.toList = lineL n v) (hs : l.size < 4294967281) (hn : ∀ c ∈ n, letterB c) (h1 : 1 ≤ n.length) (h9 : n.length < 10) (hv : ∀ c ∈ v, 32 ≤ c.toNat) :
    ∃ nm vl : ByteArray, Ev (fun k => http_field.f k l) (nm, vl, true) ∧ nm.toList ≠ te ∧ nm.toList ≠ cl := by
  have hsz : n.length + (1 + (1 + v.length)) = l.size := by
    have := congrArg List.length hl
    rw [size_len] at this
    simp [lineL] at this
    omega
  refine ⟨_, _, field_ok (l := l) (n := n) (v := [32] ++ v) hl hs (fun h => by have := hn 58 h; revert this; unfold letterB; decide) (fun c hc => by have := hn c hc; unfold letterB at this; omega) ?_ (contains_f (by simp; omega) (fun c hc => ?_)), ?_, ?_⟩
  · exact name_l ⟨n.toArray⟩ (by rw [size_mk]; omega) hn (by rw [size_mk]; exact h1) (⟨n.toArray⟩ : ByteArray).size 0 (by omega)
  · rcases List.mem_append.1 hc with h | h
    · simp at h; subst h; decide
    · have := hv c h
      refine ⟨?_, ?_, ?_⟩ <;> (intro e; subst e; revert this; decide)
  · rw [Lib.toList_data]
    intro e
    have := congrArg List.length e
    simp [Lib.toLowerA, te] at this
    omega
  · rw [Lib.toList_data]
    intro e
    have := congrArg List.length e
    simp [Lib.toLowerA, cl] at this
    omega
theorem parse_lines {m p b s : ByteArray} {n v : List UInt8} (hm : MethOk m) (hp : PathOk p) (hb : b.size ≤ 262144) (hps : p.size ≤ 1073741824) (hn : ∀ c ∈ n, letterB c) (h1 : 1 ≤ n.length) (h9 : n.length < 10) (hv : ∀ c ∈ v, 32 ≤ c.toNat) (hvl : v.length ≤ 1073741824)
    (hd : s.data.toList = headY m p n v b.size ++ (crlf2 ++ b.data.toList)) : Ev (fun k => http_Parse.f k s) (if s.size - b.size > 4096 then (E0, E0, E0, 41) else (m, p, b, 0)) := by
  have hdl : (Lib.decDigits b.size).length ≤ 19 := by rw [Lib.decDigits_length]; exact nDigits_le64 _ (by omega)
  have hsz : s.size = (headY m p n v b.size).length + 4 + b.size := by
    rw [← size_len, hd]
    simp [crlf2]
    omega
  have hYl : (headY m p n v b.size).length = (firstL m.data.toList p.data.toList).length + (2 + ((lineL n v).length + (2 + (clL b.size).length))) := by
    simp [headY, crlf]
    omega
  have hfl : (firstL m.data.toList p.data.toList).length ≤ 1073741824 + 40 := by
    have := hm.2.2
    simp only [firstL, http11, List.length_append, List.length_cons, List.length_nil, size_len]
    omega
  have hll : (lineL n v).length = n.length + 2 + v.length := by simp [lineL]; omega
  have hcl : (clL b.size).length ≤ 40 := by simp [clL, clName]; omega
  by_cases hbig : s.size - b.size > 4096
  · rw [if_pos hbig]
    exact parse_large (E := (headY m p n v b.size).length) (by omega) (by rw [hd]; exact index_end (headY_ok hm hp hn h1 hv _) _) (by omega) (by omega)
  · rw [if_neg hbig]
    have hls : (s.extract 0 (headY m p n v b.size).length).data.toList = headY m p n v b.size := extract_left s _ _ hd
    have hbody : s.extract ((headY m p n v b.size).length + 4) s.size = b := by
      have e : s.data.toList = (headY m p n v b.size ++ crlf2) ++ b.data.toList := by rw [hd, List.append_assoc]
      have := extract_right s _ _ e
      rw [show (headY m p n v b.size ++ crlf2).length = (headY m p n v b.size).length + 4 by simp [crlf2]] at this
      exact ba_ext this
    have hsp : strings_Split.f (s.extract 0 (headY m p n v b.size).length) (⟨#[13, 10]⟩ : ByteArray) = some [⟨(firstL m.data.toList p.data.toList).toArray⟩, ⟨(lineL n v).toArray⟩, ⟨(clL b.size).toArray⟩] := by
      refine split_eq _ _ _ ?_ (by decide) ?_
      · rw [← size_len, hls]; omega
      · rw [hls]
        show spl [13, 10] (firstL m.data.toList p.data.toList ++ ([13, 10] ++ (lineL n v ++ ([13, 10] ++ clL b.size)))) = _
        rw [spl_line _ _ 13 [10] (first_no13 hm hp), spl_line _ _ 13 [10] (line_no13 hn hv), spl_last _ 13 [10] (cl_no13 _)]
        rfl
    refine parse_at (E := (headY m p n v b.size).length) (by omega) (by rw [hd]; exact index_end (headY_ok hm hp hn h1 hv _) _) (by omega) (by omega) hsp ?_
    rw [hbody]
    refine step0 (l := ⟨(firstL m.data.toList p.data.toList).toArray⟩) rfl (first_ok rfl (by rw [size_mk]; omega) hm hp (by omega)) ?_
    obtain ⟨nm, vl, hf, hnt, hnc⟩ := other_line (l := ⟨(lineL n v).toArray⟩) rfl (by rw [size_mk]; omega) hn h1 h9 hv
    refine step_line (l := ⟨(lineL n v).toArray⟩) (by omega) (by simp) rfl hf ?_
    rw [if_pos rfl, if_neg hnt, if_neg hnc]
    refine j3_skip (by omega) hnc ?_
    refine step_line (l := ⟨(clL b.size).toArray⟩) (by omega) (by simp) rfl (cl_line hb rfl) ?_
    rw [if_pos rfl, if_neg (show ¬ (⟨cl.toArray⟩ : ByteArray).toList = te by rw [Lib.toList_data]; decide), if_pos (show (⟨cl.toArray⟩ : ByteArray).toList = cl by rw [Lib.toList_data])]
    refine j3_len (by omega) (by rw [Lib.toList_data]) (length_ok b.size hb) ?_
    rw [if_pos rfl]
    have he := step_end (body := b) (size := (b.size : Int)) (seen := true) (ls := [⟨(firstL m.data.toList p.data.toList).toArray⟩, ⟨(lineL n v).toArray⟩, ⟨(clL b.size).toArray⟩]) (p := m) (q := p) (e := E0)
    rw [if_pos rfl] at he
    exact he

/-! ### the law -/
theorem lines_j0_out {n v s m p b : ByteArray} : Ev (fun k => lodestarlaw04_HttpLines.j0 k n v s true m p b) true := by
  refine Ev.succ (g := fun k => (lodestarlaw04_sure.f k).bind fun t => some t) (fun k => ?_) sure_some
  simp only [lodestarlaw04_HttpLines.j0]
  rfl
theorem lines_l0 {n v s m p b : ByteArray} (hv : v.size ≤ 4294967296) (h : (∀ c ∈ v.data.toList, 32 ≤ c.toNat) → Ev (fun k => lodestarlaw04_HttpLines.l0 k n v s (v.size : Int) m p b) true) :
    ∀ d i, i + d = v.size → (∀ j : Nat, j < i → 32 ≤ bt v j) → Ev (fun k => lodestarlaw04_HttpLines.l0 k n v s (i : Int) m p b) true
  | 0, i, hi, hb => by
    obtain rfl : i = v.size := by omega
    refine h fun c hc => ?_
    have := all_bt (P := fun x => 32 ≤ x) (fun j hj => hb j hj) c hc
    omega
  | d + 1, i, hi, hb => by
    by_cases hg : bt v i < 32
    · refine Ev.succ (g := fun k => (lodestarlaw04_sure.f k).bind fun t => some t) (fun k => ?_) sure_some
      conv => lhs; unfold lodestarlaw04_HttpLines.l0
      rw [if_pos (by omega), if_pos (by omega), if_pos hg]
    · refine Ev.succ (fun k => ?_) (lines_l0 hv h d (i + 1) (by omega) (fun j hj => ?_))
      · conv => lhs; unfold lodestarlaw04_HttpLines.l0
        rw [if_pos (by omega), if_pos (by omega), if_neg hg, wrap_next i (by omega)]
      · by_cases e : j = i
        · subst e; omega
        · exact hb j (by omega)
theorem lines_l1 {n v s m p b : ByteArray} {N : Nat} (hs : s.size ≤ 4294967296) (hN : N + 1 < s.size) (h10 : bt s N = 10) (hno : ∀ j : Nat, j < N → bt s j ≠ 10) (h : Ev (fun k => lodestarlaw04_HttpLines.j3 k n v s (N : Int) m p b) true) :
    ∀ d i, i + d = N → Ev (fun k => lodestarlaw04_HttpLines.l1 k n v s (i : Int) m p b) true
  | 0, i, hi => by
    obtain rfl : i = N := by omega
    refine Ev.succ (fun k => ?_) h
    conv => lhs; unfold lodestarlaw04_HttpLines.l1
    rw [wrap_next i (by omega), if_pos (by omega), if_pos (by omega), if_pos (by omega), if_pos h10]
  | d + 1, i, hi => by
    refine Ev.succ (fun k => ?_) (lines_l1 hs hN h10 hno h d (i + 1) (by omega))
    conv => lhs; unfold lodestarlaw04_HttpLines.l1
    rw [wrap_next i (by omega), if_pos (by omega), if_pos (by omega), if_pos (by omega), if_neg (hno i (by omega))]
theorem bt_list {s : ByteArray} {j : Nat} {c : UInt8} (h : s.data.toList[j]? = some c) : bt s j = (c.toNat : Int) := by
  have hlt : j < s.size := by
    have := (List.getElem?_eq_some_iff.1 h).1
    rwa [Array.length_toList] at this
  obtain ⟨h1, h2⟩ := bt_get s j hlt
  rw [h2]
  rw [h1] at h
  rw [Option.some.inj h]
theorem first_no10 {m p : ByteArray} (hm : MethOk m) (hp : PathOk p) : (10 : UInt8) ∉ firstL m.data.toList p.data.toList := by
  have h1 := not_mem_of (meth_bytes hm) 10 (by decide)
  have h2 := not_mem_of (path_bytes hp) 10 (by decide)
  unfold firstL
  intro h
  rcases List.mem_append.1 h with h | h
  · exact h1 h
  rcases List.mem_append.1 h with h | h
  · revert h; decide
  rcases List.mem_append.1 h with h | h
  · exact h2 h
  · revert h; decide
theorem lines_j3_eq (k : Nat) (n v s m p b : ByteArray) (i j : Int) (A B t : ByteArray) (hj : wrap64 (i + 1) = j) (h0 : 0 ≤ j) (h1 : j ≤ (s.size : Int)) (hA : s.extract 0 j.toNat = A) (hB : s.extract j.toNat s.size = B)
    (c1 : A.size + n.size ≤ 9223372036854775807) (c2 : (A ++ n).size + 2 ≤ 9223372036854775807) (c3 : ((A ++ n) ++ (⟨#[58, 32]⟩ : ByteArray)).size + v.size ≤ 9223372036854775807)
    (c4 : (((A ++ n) ++ (⟨#[58, 32]⟩ : ByteArray)) ++ v).size + 2 ≤ 9223372036854775807) (c5 : ((((A ++ n) ++ (⟨#[58, 32]⟩ : ByteArray)) ++ v) ++ (⟨#[13, 10]⟩ : ByteArray)).size + B.size ≤ 9223372036854775807)
    (ht : ((((A ++ n) ++ (⟨#[58, 32]⟩ : ByteArray)) ++ v) ++ (⟨#[13, 10]⟩ : ByteArray)) ++ B = t) :
    lodestarlaw04_HttpLines.j3 (k + 1) n v s i m p b = if (wrap64 ((t.size : Int) - (b.size : Int))) > 4096 then ((http_Parse.f k t).bind fun bt245 => (if bt245.2.2.2 = 41 then ((lodestarlaw04_sure.f k).bind fun t250 => (some t250)) else (some false))) else ((http_Parse.f k t).bind fun bt251 => (if (bt251.1.toList == m.toList && (bt251.2.1.toList == p.toList && (bt251.2.2.1.toList == b.toList))) = true then (if bt251.2.2.2 = 0 then ((lodestarlaw04_sure.f k).bind fun t256 => (some t256)) else (some false)) else (some false))) := by
  subst hj
  subst hA
  subst hB
  subst ht
  rw [lodestarlaw04_HttpLines.j3]
  exact (if_pos h0).trans ((if_pos h1).trans ((if_pos c1).trans ((if_pos c2).trans ((if_pos c3).trans ((if_pos c4).trans (if_pos c5))))))
theorem sum_small (N n v s : Nat) (h1 : N + 1 < s) (h2 : s ≤ 2147483648) (h3 : n ≤ 1073741824) (h4 : v ≤ 1073741824) :
    N + 1 + n ≤ 9223372036854775807 ∧ N + 1 + n + 2 ≤ 9223372036854775807 ∧ N + 1 + n + 2 + v ≤ 9223372036854775807 ∧ N + 1 + n + 2 + v + 2 ≤ 9223372036854775807 ∧ N + 1 + n + 2 + v + 2 + (s - (N + 1)) ≤ 9223372036854775807 := by
  refine ⟨?_, ?_, ?_, ?_, ?_⟩ <;> omega
theorem lines_tail {n v s m p b t : ByteArray} {N : Nat} (hsA : (s.extract 0 (N + 1)).size = N + 1) (hsB : (s.extract (N + 1) s.size).size = s.size - (N + 1)) (h1 : N + 1 < s.size) (h2 : s.size ≤ 2147483648) (h3 : n.size ≤ 1073741824) (h4 : v.size ≤ 1073741824) (h5 : b.size ≤ 1073741824)
    (ht : t = (((((s.extract 0 (N + 1)) ++ n) ++ (⟨#[58, 32]⟩ : ByteArray)) ++ v) ++ (⟨#[13, 10]⟩ : ByteArray)) ++ (s.extract (N + 1) s.size)) (htsz : t.size = s.size + n.size + v.size + 4)
    (hP : Ev (fun k => http_Parse.f k t) (if t.size - b.size > 4096 then (E0, E0, E0, 41) else (m, p, b, 0))) : Ev (fun k => lodestarlaw04_HttpLines.j3 k n v s (N : Int) m p b) true := by
  obtain ⟨c1, c2, c3, c4, c5⟩ := sum_small N n.size v.size s.size h1 h2 h3 h4
  have ew : wrap64 ((N : Int) + 1) = ((N + 1 : Nat) : Int) := wrap_next N (by omega)
  have hT : ((N + 1 : Nat) : Int).toNat = N + 1 := rfl
  have hwt : wrap64 ((t.size : Int) - (b.size : Int)) = (t.size : Int) - (b.size : Int) := wrap_small _ (by omega) (by omega)
  refine Ev.succ (g := fun k => if ((t.size : Int) - (b.size : Int)) > 4096 then ((http_Parse.f k t).bind fun bt245 => (if bt245.2.2.2 = 41 then ((lodestarlaw04_sure.f k).bind fun t250 => (some t250)) else (some false))) else ((http_Parse.f k t).bind fun bt251 => (if (bt251.1.toList == m.toList && (bt251.2.1.toList == p.toList && (bt251.2.2.1.toList == b.toList))) = true then (if bt251.2.2.2 = 0 then ((lodestarlaw04_sure.f k).bind fun t256 => (some t256)) else (some false)) else (some false)))) (fun k => ?_) ?_
  · have h := lines_j3_eq k n v s m p b (N : Int) ((N + 1 : Nat) : Int) (s.extract 0 (N + 1)) (s.extract (N + 1) s.size) t ew (Int.natCast_nonneg _) (Int.ofNat_le.2 (Nat.le_of_lt h1)) (by rw [hT]) (by rw [hT])
      (by rw [hsA]; exact c1) (by rw [ByteArray.size_append, hsA]; exact c2) (by rw [ByteArray.size_append, ByteArray.size_append, hsA]; exact c3) (by rw [ByteArray.size_append, ByteArray.size_append, ByteArray.size_append, hsA]; exact c4)
      (by rw [ByteArray.size_append, ByteArray.size_append, ByteArray.size_append, ByteArray.size_append, hsA, hsB]; exact c5) ht.symm
    rw [hwt] at h
    exact h
  · by_cases hbig : t.size - b.size > 4096
    · rw [if_pos hbig] at hP
      simp only [if_pos (show ((t.size : Int) - (b.size : Int)) > 4096 by omega)]
      refine Ev.bind hP ?_
      simp only [if_true]
      exact sure_some
    · rw [if_neg hbig] at hP
      simp only [if_neg (show ¬ ((t.size : Int) - (b.size : Int)) > 4096 by omega)]
      refine Ev.bind hP ?_
      simp only [beq_self_eq_true, Bool.and_self, if_true]
      exact sure_some
theorem lines_plain (m p b n v : ByteArray) (hm : m.size ≤ 1073741824) (hp : p.size ≤ 1073741824) (hb : b.size ≤ 1073741824) (hn : n.size ≤ 1073741824) (hv : v.size ≤ 1073741824) : ∃ k, lodestarlaw04_HttpLines.f k m p b n v = some true := by
  obtain ⟨ok, hw, hok⟩ := write_ev m p b hm hp hb
  have hW : Ev (fun k => http_Write.f k m p b) (writeOf m p b ok) := ⟨_, hw⟩
  refine Ev.get (f := fun k => lodestarlaw04_HttpLines.f k m p b n v) (Ev.congr (fun k => rfl) (Ev.bind hW ?_))
  have hcases : (writeOf m p b ok = (E0, 40)) ∨ (writeOf m p b ok = (E0, 41)) ∨ (ok = true ∧ b.size ≤ 262144 ∧ (headOf m p b).size ≤ 4096 ∧ writeOf m p b ok = (headOf m p b ++ b, 0)) := by
    unfold writeOf
    cases ok with
    | false => exact .inl rfl
    | true =>
      by_cases h1 : b.size > 262144
      · rw [if_pos rfl, if_pos h1]; exact .inr (.inl rfl)
      · by_cases h2 : (headOf m p b).size > 4096
        · rw [if_pos rfl, if_neg h1, if_pos h2]; exact .inr (.inl rfl)
        · rw [if_pos rfl, if_neg h1, if_neg h2]; exact .inr (.inr ⟨rfl, by omega, by omega, rfl⟩)
  rcases hcases with h | h | ⟨ho, hb2, hh, h⟩
  · rw [h]
    simp only [if_neg (show ¬ ((40 : Int) = 0) by decide)]
    exact lines_j0_out
  · rw [h]
    simp only [if_neg (show ¬ ((41 : Int) = 0) by decide)]
    exact lines_j0_out
  · rw [h]
    obtain ⟨hm', hp'⟩ := hok.1 ho
    have hps := headOf_size m p b
    simp only [if_true]
    obtain ⟨pb, hpb, hpl⟩ := plain_ev n (by omega)
    refine Ev.bind hpb ?_
    cases pb with
    | false => exact lines_j0_out
    | true =>
      obtain ⟨hl, hl1, hl9⟩ := hpl rfl
      obtain ⟨s, hs⟩ : ∃ s, s = headOf m p b ++ b := ⟨_, rfl⟩
      rw [← hs]
      have hd : s.data.toList = (firstL m.data.toList p.data.toList ++ crlf) ++ (clL b.size ++ (crlf2 ++ b.data.toList)) := by
        rw [hs, data_app, head_data]
        simp only [List.append_assoc]
      have hfirst : (firstL m.data.toList p.data.toList).length = m.size + p.size + 10 := by
        simp only [firstL, http11, List.length_append, List.length_cons, List.length_nil, size_len]
        omega
      obtain ⟨N, hN⟩ : ∃ N, N = (firstL m.data.toList p.data.toList).length + 1 := ⟨_, rfl⟩
      have hlenA : (firstL m.data.toList p.data.toList ++ crlf).length = N + 1 := by simp [crlf]; omega
      have hssz : s.size = (headOf m p b).size + b.size := by rw [hs]; exact ByteArray.size_append
      have hN2 : N + 1 < s.size := by omega
      have h10 : bt s N = 10 := by
        refine bt_list (c := 10) ?_
        rw [hd, get_left (by omega), hN, List.getElem?_append_right (by omega)]
        simp [crlf]
      have hno : ∀ j : Nat, j < N → bt s j ≠ 10 := by
        intro j hj e
        obtain ⟨c, hc⟩ : ∃ c, s.data.toList[j]? = some c := ⟨_, List.getElem?_eq_getElem (by rw [size_len]; omega)⟩
        have hbj := bt_list hc
        rw [hd, get_left (by omega)] at hc
        have hc10 : c = 10 := by
          apply UInt8.toNat_inj.1
          have : (10 : UInt8).toNat = 10 := rfl
          omega
        subst hc10
        rcases Nat.lt_or_ge j (firstL m.data.toList p.data.toList).length with h1 | h1
        · rw [get_left h1] at hc
          exact first_no10 hm' hp' (List.mem_of_getElem? hc)
        · rw [List.getElem?_append_right h1, show j - (firstL m.data.toList p.data.toList).length = 0 by omega] at hc
          simp [crlf] at hc
      refine Ev.succ (g := fun k => lodestarlaw04_HttpLines.l0 k n v s ((0 : Nat) : Int) m p b) (fun k => by simp only [lodestarlaw04_HttpLines.j0]; rfl) ?_
      refine lines_l0 (by omega) (fun hv32 => ?_) v.size 0 (by omega) (fun j hj => absurd hj (Nat.not_lt_zero j))
      refine Ev.succ (g := fun k => lodestarlaw04_HttpLines.l1 k n v s ((0 : Nat) : Int) m p b) (fun k => ?_) ?_
      · conv => lhs; unfold lodestarlaw04_HttpLines.l0
        rw [if_neg (by omega), if_neg (by omega)]
        rfl
      refine lines_l1 (by omega) hN2 h10 hno ?_ N 0 (by omega)
      obtain ⟨t, ht⟩ : ∃ t, t = (((((s.extract 0 (N + 1)) ++ n) ++ (⟨#[58, 32]⟩ : ByteArray)) ++ v) ++ (⟨#[13, 10]⟩ : ByteArray)) ++ (s.extract (N + 1) s.size) := ⟨_, rfl⟩
      have hA : (s.extract 0 (N + 1)).data.toList = firstL m.data.toList p.data.toList ++ crlf := by
        rw [← hlenA]; exact extract_left s _ _ hd
      have hB : (s.extract (N + 1) s.size).data.toList = clL b.size ++ (crlf2 ++ b.data.toList) := by
        rw [← hlenA]; exact extract_right s _ _ hd
      have htd : t.data.toList = headY m p n.data.toList v.data.toList b.size ++ (crlf2 ++ b.data.toList) := by
        rw [ht]
        simp only [data_app, hA, hB, headY, lineL, crlf, List.append_assoc, List.cons_append, List.nil_append]
      have hsA : (s.extract 0 (N + 1)).size = N + 1 := by rw [← size_len, hA]; exact hlenA
      have hsB : (s.extract (N + 1) s.size).size = s.size - (N + 1) := by
        rw [← size_len, Lib.extract_to_end, List.length_drop, size_len]
      have htsz : t.size = s.size + n.size + v.size + 4 := by
        rw [ht]
        simp only [ByteArray.size_append, hsA, hsB]
        show N + 1 + n.size + 2 + v.size + 2 + (s.size - (N + 1)) = _
        omega
      have hP := parse_lines (s := t) hm' hp' hb2 hp hl (by rw [size_len]; exact hl1) (by rw [size_len]; exact hl9) hv32 (by rw [size_len]; exact hv) htd
      exact lines_tail hsA hsB (by omega) (by omega) (by omega) (by omega) (by omega) ht htsz hP
end Go.Proofs.YteeiljjjgkinhaaDoor.PHttpEL
