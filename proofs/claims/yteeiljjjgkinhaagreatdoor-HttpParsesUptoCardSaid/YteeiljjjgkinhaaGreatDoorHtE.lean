import Derived.Test.YteeiljjjgkinhaaGreatDoorHtD
import Derived.Lib.Split
import Derived.Lib.IndexBytes
namespace Go.Proofs.YteeiljjjgkinhaaGreatDoor.PHttpFL
open Go.RowKit Go.Proofs.YteeiljjjgkinhaaGreatDoor.PHttpF Go.Proofs.YteeiljjjgkinhaaGreatDoor.HtLists Go.Proofs.YteeiljjjgkinhaaGreatDoorW.PrintWords Go.Proofs.YteeiljjjgkinhaaGreatDoorW.PrintLast Go.Proofs.YteeiljjjgkinhaaGreatDoorW.PrintMore
set_option linter.unusedVariables false
set_option linter.unusedSimpArgs false

def http11 : List UInt8 := [72, 84, 84, 80, 47, 49, 46, 49]
def clName : List UInt8 := [67, 111, 110, 116, 101, 110, 116, 45, 76, 101, 110, 103, 116, 104]
def firstL (m p : List UInt8) : List UInt8 := m ++ ([32] ++ (p ++ ([32] ++ http11)))
def clL (n : Nat) : List UInt8 := clName ++ ([58] ++ ([32] ++ Lib.decDigits n))
theorem itoa_nat (n : Nat) : Lib.itoa (n : Int) = Lib.decDigits n := by
  unfold Lib.itoa
  rw [if_neg (by omega)]
  rfl
theorem head_data (m p b : ByteArray) : (headOf m p b).data.toList = firstL m.data.toList p.data.toList ++ (crlf ++ (clL b.size ++ crlf2)) := by
  unfold headOf
  rw [itoa_nat]
  simp only [data_app, firstL, clL, http11, clName, crlf, crlf2, List.append_assoc, List.cons_append, List.nil_append]
theorem meth_bytes {m : ByteArray} (h : MethOk m) : ∀ c ∈ m.data.toList, 65 ≤ c.toNat ∧ c.toNat ≤ 90 := fun c hc => by
  have := all_bt (P := fun x => 65 ≤ x ∧ x ≤ 90) h.1 c hc
  omega
theorem path_bytes {p : ByteArray} (h : PathOk p) : ∀ c ∈ p.data.toList, 33 ≤ c.toNat ∧ c.toNat ≤ 126 := fun c hc => by
  have := all_bt (P := fun x => 33 ≤ x ∧ x ≤ 126) h.1 c hc
  omega
theorem not_mem_of {l : List UInt8} {lo hi : Nat} (h : ∀ c ∈ l, lo ≤ c.toNat ∧ c.toNat ≤ hi) (x : UInt8) (hx : x.toNat < lo ∨ hi < x.toNat) : x ∉ l := fun hm => by
  have := h x hm
  omega
theorem method_true {m : ByteArray} (h : MethOk m) (hs : m.size ≤ 4611686018427387904) : Ev (fun k => http_method.f k m) true := by
  obtain ⟨b, hb, hi⟩ := method_ev m hs
  obtain rfl := hi.2 h
  exact ⟨_, hb⟩
theorem path_true {p : ByteArray} (h : PathOk p) (hs : p.size ≤ 4611686018427387904) : Ev (fun k => http_path.f k p) true := by
  obtain ⟨b, hb, hi⟩ := path_ev p hs
  obtain rfl := hi.2 h
  exact ⟨_, hb⟩
theorem first_ok {l m p : ByteArray} (hl : l.data.toList = firstL m.data.toList p.data.toList) (hs : l.size < 4294967281) (hm : MethOk m) (hp : PathOk p) (hps : p.size ≤ 4611686018427387904) : Ev (fun k => http_first.f k l) (m, p, E0, true) := by
  have hsp : strings_Split.f l (⟨#[32]⟩ : ByteArray) = some [m, p, ⟨http11.toArray⟩] := by
    refine split_eq l _ _ hs (by decide) ?_
    rw [hl]
    unfold firstL
    show spl [32] _ = _
    rw [spl_line m.data.toList _ 32 [] (not_mem_of (meth_bytes hm) 32 (by decide)), spl_line p.data.toList _ 32 [] (not_mem_of (path_bytes hp) 32 (by decide)), spl_last http11 32 [] (by decide)]
    rfl
  refine Ev.congr (g := fun k => (http_method.f k m).bind fun t108 => if t108 = true then ((http_path.f k p).bind fun t110 => if t110 = true then some (m, p, E0, true) else some (E0, E0, E0, false)) else some (E0, E0, E0, false)) (fun k => ?_) ?_
  · unfold http_first.f
    rw [hsp]
    have e0 : rdOf ByteArray.empty [m, p, (⟨http11.toArray⟩ : ByteArray)] 0 = m := rfl
    have e1 : rdOf ByteArray.empty [m, p, (⟨http11.toArray⟩ : ByteArray)] 1 = p := rfl
    have e2 : (rdOf ByteArray.empty [m, p, (⟨http11.toArray⟩ : ByteArray)] 2).toList = ([72, 84, 84, 80, 47, 49, 46, 49] : List UInt8) := by
      show (⟨http11.toArray⟩ : ByteArray).toList = _
      rw [Lib.toList_data]
      rfl
    have c3 : (([m, p, (⟨http11.toArray⟩ : ByteArray)].length : Nat) : Int) = 3 := rfl
    simp only [Option.bind_some, e0, e1, e2, c3, if_true, if_pos (show (0 : Int) < 3 by omega), if_pos (show (1 : Int) < 3 by omega), if_pos (show (2 : Int) < 3 by omega)]
  · refine Ev.bind (method_true hm (by have := hm.2.2; omega)) ?_
    simp only [if_true]
    refine Ev.bind (path_true hp hps) ?_
    simp only [if_true]
    exact Ev.const fun _ => rfl

/-! ### a field -/
theorem cut_f {l : ByteArray} {n v : List UInt8} (hl : l.data.toList = n ++ ([58] ++ v)) (hs : l.size < 4294967281) (hn : (58 : UInt8) ∉ n) : strings_Cut.f l (⟨#[58]⟩ : ByteArray) = some (⟨n.toArray⟩, ⟨v.toArray⟩, true) := by
  unfold strings_Cut.f
  rw [if_pos hs, hl]
  show some (_, _, _) = _
  rw [cut_hit n v 58 hn]
theorem ascii_list {l : List UInt8} (h : ∀ c ∈ l, c.toNat < 128) : asciiB ⟨l.toArray⟩ = true := by
  unfold asciiB
  rw [List.all_eq_true]
  intro c hc
  exact decide_eq_true (h c (by simpa using hc))
theorem any_none {v : List UInt8} (h : ∀ c ∈ v, c ≠ 10 ∧ c ≠ 13 ∧ c ≠ 0) : Lib.containsAny v [10, 13, 0] = false := by
  unfold Lib.containsAny
  rw [Lib.indexAny_none]
  · rfl
  · intro j b _ hb
    obtain ⟨h1, h2, h3⟩ := h b (List.mem_of_getElem? hb)
    simp [h1, h2, h3]
theorem contains_f {v : List UInt8} (hs : v.length < 4294967281) (h : ∀ c ∈ v, c ≠ 10 ∧ c ≠ 13 ∧ c ≠ 0) : strings_ContainsAny.f ⟨v.toArray⟩ (⟨#[10, 13, 0]⟩ : ByteArray) = some false := by
  unfold strings_ContainsAny.f
  rw [if_pos ⟨by rw [size_mk]; exact hs, rfl⟩]
  exact congrArg some (any_none h)
theorem lower_f {n : List UInt8} (hs : n.length ≤ 140737488355328) (ha : ∀ c ∈ n, c.toNat < 128) : strings_ToLower.f ⟨n.toArray⟩ = some ⟨(Lib.toLowerA n).toArray⟩ := by
  unfold strings_ToLower.f
  rw [if_pos (by rw [ascii_list ha, decide_eq_true (show (⟨n.toArray⟩ : ByteArray).size ≤ 140737488355328 by rw [size_mk]; exact hs)]; decide)]
theorem trim_f {v : List UInt8} (hs : v.length ≤ 9223372036854775807) : strings_Trim.f ⟨v.toArray⟩ (⟨#[32, 9]⟩ : ByteArray) = some ⟨(Lib.trimS v [32, 9]).toArray⟩ := by
  unfold strings_Trim.f
  rw [if_pos (by rw [decide_eq_true (show (⟨v.toArray⟩ : ByteArray).size ≤ 9223372036854775807 by rw [size_mk]; exact hs)]; decide)]
theorem field_ok {l : ByteArray} {n v : List UInt8} (hl : l.data.toList = n ++ ([58] ++ v)) (hs : l.size < 4294967281) (hn : (58 : UInt8) ∉ n) (hna : ∀ c ∈ n, c.toNat < 128) (hname : Ev (fun k => http_name.f k ⟨n.toArray⟩) true)
    (hc : strings_ContainsAny.f ⟨v.toArray⟩ (⟨#[10, 13, 0]⟩ : ByteArray) = some false) : Ev (fun k => http_field.f k l) (⟨(Lib.toLowerA n).toArray⟩, ⟨(Lib.trimS v [32, 9]).toArray⟩, true) := by
  have hsz : n.length + (1 + v.length) = l.size := by
    have := congrArg List.length hl
    rw [size_len] at this
    simp at this
    omega
  refine Ev.congr (g := fun k => (http_name.f k ⟨n.toArray⟩).bind fun t154 => if t154 = true then http_field.j0 k ⟨n.toArray⟩ ⟨v.toArray⟩ false else http_field.j0 k ⟨n.toArray⟩ ⟨v.toArray⟩ true) (fun k => ?_) ?_
  · unfold http_field.f
    rw [cut_f hl hs hn]
    simp only [Option.bind_some, if_true, hc]
  · refine Ev.bind hname ?_
    simp only [if_true]
    refine Ev.succ (g := fun _ => some (⟨(Lib.toLowerA n).toArray⟩, ⟨(Lib.trimS v [32, 9]).toArray⟩, true)) (fun k => ?_) (Ev.const fun _ => rfl)
    simp only [http_field.j0]
    rw [if_neg (by decide), lower_f (by omega) hna, trim_f (by omega)]
    rfl

/-! ### the length -/
theorem length_l {v : ByteArray} (hs : v.size ≤ 4294967296) (hd : ∀ c ∈ v.data.toList, 48 ≤ c.toNat ∧ c.toNat ≤ 57) {r : Int × Int} (h : Ev (fun k => http_length.l0 k v (v.size : Int)) r) : ∀ n i, i + n = v.size → Ev (fun k => http_length.l0 k v (i : Int)) r
  | 0, i, hi => by
    obtain rfl : i = v.size := by omega
    exact h
  | n + 1, i, hi => by
    refine Ev.succ (g := fun k => http_length.l0 k v ((i + 1 : Nat) : Int)) (fun k => ?_) (length_l hs hd h n (i + 1) (by omega))
    obtain ⟨h1, h2⟩ := bt_get v i (by omega)
    have := hd _ (List.mem_of_getElem? h1)
    conv => lhs; unfold http_length.l0
    rw [if_pos (by omega), if_pos (by omega), if_neg (by omega), if_neg (by omega), wrap_next i (by omega)]
theorem atoi_f {l : List UInt8} {v : Int} (hs : l.length ≤ 281474976710656) (h : Lib.atoiAll l = .ok v) : strconv_Atoi_36.f ⟨l.toArray⟩ = some (v, none) := by
  unfold strconv_Atoi_36.f
  have e : (⟨l.toArray⟩ : ByteArray).data.toList = l := rfl
  rw [if_pos (by rw [size_mk]; exact hs), e, h]
theorem length_ok (u : Nat) (hu : u ≤ 262144) : Ev (fun k => http_length.f k ⟨(Lib.decDigits u).toArray⟩) ((u : Int), 0) := by
  have hn : (Lib.decDigits u).length ≤ 19 := by rw [Lib.decDigits_length]; exact nDigits_le64 u (by omega)
  have hsz : (⟨(Lib.decDigits u).toArray⟩ : ByteArray).size = (Lib.decDigits u).length := size_mk _
  have hne := dec_ne u
  have hpos : 1 ≤ (Lib.decDigits u).length := by
    rcases Nat.eq_zero_or_pos (Lib.decDigits u).length with h | h
    · exact absurd (List.length_eq_zero_iff.1 h) hne
    · exact h
  have hend : Ev (fun k => http_length.l0 k ⟨(Lib.decDigits u).toArray⟩ ((⟨(Lib.decDigits u).toArray⟩ : ByteArray).size : Int)) ((u : Int), 0) := by
    refine Ev.succ (g := fun k => http_length.j1 k ⟨(Lib.decDigits u).toArray⟩ false) (fun k => ?_) ?_
    · conv => lhs; unfold http_length.l0
      rw [if_neg (by omega), if_neg (fun e => by have := (toList_nil _).1 e; omega)]
      by_cases h1 : ((⟨(Lib.decDigits u).toArray⟩ : ByteArray).size : Int) > 1
      · rw [if_pos h1, if_pos (by omega)]
        have h0 := dec_head u (by omega)
        obtain ⟨g1, g2⟩ := bt_get ⟨(Lib.decDigits u).toArray⟩ 0 (by omega)
        have hb : (bt ⟨(Lib.decDigits u).toArray⟩ 0 == 48) = false := by
          rw [beq_eq_false_iff_ne]
          intro e
          apply h0
          have e2 : (Lib.decDigits u)[0]? = some _ := g1
          rw [e2]
          congr 1
          have g3 : bt ⟨(Lib.decDigits u).toArray⟩ 0 = _ := g2
          rw [e] at g3
          apply UInt8.toNat_inj.1
          have : (48 : UInt8).toNat = 48 := rfl
          omega
        rw [hb]
      · rw [if_neg h1]
    · refine Ev.succ (g := fun _ => some ((u : Int), 0)) (fun k => ?_) (Ev.const fun _ => rfl)
      simp only [http_length.j1]
      rw [if_neg (by decide)]
      rw [atoi_f (by omega) (atoi_dec u (by omega))]
      simp only [Option.bind_some]
      rw [if_pos (show (none : Option Int).isNone = true from rfl), if_neg (by omega)]
  exact Ev.congr (fun k => rfl) (length_l (by omega) (fun c hc => dec_digits u c hc) hend (⟨(Lib.decDigits u).toArray⟩ : ByteArray).size 0 (by omega))
theorem trim_digits (u : Nat) : Lib.trimS ([32] ++ Lib.decDigits u) [32, 9] = Lib.decDigits u := by
  have hd := dec_digits u
  have hne := dec_ne u
  have hno : ∀ c ∈ Lib.decDigits u, ([32, 9] : List UInt8).contains c = false := fun c hc => by
    have h := hd c hc
    have h1 : c ≠ 32 := fun e => by subst e; revert h; decide
    have h2 : c ≠ 9 := fun e => by subst e; revert h; decide
    simp [h1, h2]
  unfold Lib.trimS
  have hpos : 1 ≤ (Lib.decDigits u).length := by
    rcases Nat.eq_zero_or_pos (Lib.decDigits u).length with h | h
    · exact absurd (List.length_eq_zero_iff.1 h) hne
    · exact h
  rw [Lib.trimRightS_take ([32] ++ Lib.decDigits u) [32, 9] (1 + (Lib.decDigits u).length) (by simp; omega) (fun j b hj hb => by
    have := (List.getElem?_eq_some_iff.1 hb).1
    simp at this
    omega) (fun b _ hb => by
    have e : ([32] ++ Lib.decDigits u)[1 + (Lib.decDigits u).length - 1]? = (Lib.decDigits u)[(Lib.decDigits u).length - 1]? := by
      rw [List.getElem?_append_right (by simp; omega)]
      show (Lib.decDigits u)[1 + (Lib.decDigits u).length - 1 - 1]? = _
      rw [show 1 + (Lib.decDigits u).length - 1 - 1 = (Lib.decDigits u).length - 1 by omega]
    rw [e] at hb
    exact hno b (List.mem_of_getElem? hb))]
  have e : ([32] ++ Lib.decDigits u).take (1 + (Lib.decDigits u).length) = [32] ++ Lib.decDigits u := List.take_of_length_le (by simp; omega)
  rw [e, Lib.trimLeftS_drop ([32] ++ Lib.decDigits u) [32, 9] 1 (by simp) (fun j b hj hb => by
    obtain rfl : j = 0 := by omega
    simp at hb
    subst hb
    decide) (fun b hb => by
    have e2 : ([32] ++ Lib.decDigits u)[1]? = (Lib.decDigits u)[0]? := by simp
    rw [e2] at hb
    exact hno b (List.mem_of_getElem? hb))]
  simp
theorem cl_name : Ev (fun k => http_name.f k ⟨clName.toArray⟩) true := Ev.of (fun k => http_name.mono _ k) (k0 := 32) (by kernel_rfl)
theorem cl_low : Lib.toLowerA clName = cl := by decide +kernel
theorem cl_line {l : ByteArray} {u : Nat} (hu : u ≤ 262144) (hl : l.data.toList = clL u) : Ev (fun k => http_field.f k l) (⟨cl.toArray⟩, ⟨(Lib.decDigits u).toArray⟩, true) := by
  have hn : (Lib.decDigits u).length ≤ 19 := by rw [Lib.decDigits_length]; exact nDigits_le64 u (by omega)
  have hsz : l.size ≤ 40 := by
    rw [← size_len, hl]
    simp [clL, clName]
    omega
  have h := field_ok (l := l) (n := clName) (v := [32] ++ Lib.decDigits u) hl (by omega) (by decide) (by decide) cl_name (contains_f (by simp; omega) (fun c hc => ?_))
  · rw [cl_low, trim_digits] at h
    exact h
  · rcases List.mem_append.1 hc with h | h
    · simp at h; subst h; decide
    · have := dec_digits u c h
      refine ⟨?_, ?_, ?_⟩ <;> (intro e; subst e; revert this; decide)

/-! ### a request that was written -/
theorem first_no13 {m p : ByteArray} (hm : MethOk m) (hp : PathOk p) : (13 : UInt8) ∉ firstL m.data.toList p.data.toList := by
  have h1 := not_mem_of (meth_bytes hm) 13 (by decide)
  have h2 := not_mem_of (path_bytes hp) 13 (by decide)
  unfold firstL
  intro h
  rcases List.mem_append.1 h with h | h
  · exact h1 h
  rcases List.mem_append.1 h with h | h
  · revert h; decide
  rcases List.mem_append.1 h with h | h
  · exact h2 h
  · revert h; decide
theorem cl_no13 (u : Nat) : (13 : UInt8) ∉ clL u := by
  intro h
  unfold clL at h
  rcases List.mem_append.1 h with h | h
  · revert h; decide
  rcases List.mem_append.1 h with h | h
  · revert h; decide
  rcases List.mem_append.1 h with h | h
  · revert h; decide
  · have := dec_digits u 13 h
    revert this; decide
def headX (m p : ByteArray) (u : Nat) : List UInt8 := firstL m.data.toList p.data.toList ++ (crlf ++ clL u)
theorem headX_good {m p : ByteArray} (hm : MethOk m) (hp : PathOk p) (u : Nat) : CrOk (headX m p u) :=
  good_cons (first_no13 hm hp) (good_line (cl_no13 u)) ⟨67, rfl, by decide⟩
theorem extract_left (s : ByteArray) (X Y : List UInt8) (h : s.data.toList = X ++ Y) : (s.extract 0 X.length).data.toList = X := by
  rw [Lib.extract_from_zero, h, List.take_left]
theorem extract_right (s : ByteArray) (X Y : List UInt8) (h : s.data.toList = X ++ Y) : (s.extract X.length s.size).data.toList = Y := by
  rw [Lib.extract_to_end, h, List.drop_left]
theorem ba_mk (s : ByteArray) : s = ⟨s.data.toList.toArray⟩ := ByteArray.ext (by simp)
theorem parse_written {m p b t s : ByteArray} (hm : MethOk m) (hp : PathOk p) (hb : b.size ≤ 262144) (hh : (headOf m p b).size ≤ 4096) (ht : t.size ≤ 2147483648) (hs : s = headOf m p b ++ t) :
    Ev (fun k => http_Parse.f k s) (if t.size = b.size then (m, p, t, 0) else (E0, E0, E0, 40)) := by
  have hd : s.data.toList = headX m p b.size ++ (crlf2 ++ t.data.toList) := by
    rw [hs, data_app, head_data]
    simp only [headX, List.append_assoc]
  have hX : (headX m p b.size).length + 4 = (headOf m p b).size := by
    rw [← size_len (headOf m p b), head_data]
    simp only [headX, crlf2, List.length_append, List.length_cons, List.length_nil]
    omega
  have hps := headOf_size m p b
  have hsz : s.size = (headX m p b.size).length + 4 + t.size := by
    rw [← size_len, hd]
    simp [crlf2]
    omega
  have hls : (s.extract 0 (headX m p b.size).length).data.toList = headX m p b.size := extract_left s _ _ hd
  have hbody : s.extract ((headX m p b.size).length + 4) s.size = t := by
    have e : s.data.toList = (headX m p b.size ++ crlf2) ++ t.data.toList := by rw [hd, List.append_assoc]
    have := extract_right s _ _ e
    rw [show (headX m p b.size ++ crlf2).length = (headX m p b.size).length + 4 by simp [crlf2]] at this
    exact ba_ext this
  have hsp : strings_Split.f (s.extract 0 (headX m p b.size).length) (⟨#[13, 10]⟩ : ByteArray) = some [⟨(firstL m.data.toList p.data.toList).toArray⟩, ⟨(clL b.size).toArray⟩] := by
    refine split_eq _ _ _ ?_ (by decide) ?_
    · rw [← size_len, hls]; omega
    · rw [hls]
      show spl [13, 10] (firstL m.data.toList p.data.toList ++ ([13, 10] ++ clL b.size)) = _
      rw [spl_line _ _ 13 [10] (first_no13 hm hp), spl_last _ 13 [10] (cl_no13 _)]
      rfl
  refine parse_at (E := (headX m p b.size).length) (by omega) (by rw [hd]; exact index_end (headX_good hm hp _) _) (by omega) (by omega) hsp ?_
  rw [hbody]
  refine step0 (l := ⟨(firstL m.data.toList p.data.toList).toArray⟩) rfl (first_ok rfl (by rw [size_mk]; have : (firstL m.data.toList p.data.toList).length ≤ (headX m p b.size).length := (by simp [headX]); omega) hm hp (by omega)) ?_
  refine step_line (l := ⟨(clL b.size).toArray⟩) (by omega) (by simp) rfl (cl_line hb rfl) ?_
  rw [if_pos rfl, if_neg (show ¬ (⟨cl.toArray⟩ : ByteArray).toList = te by rw [Lib.toList_data]; decide), if_pos (show (⟨cl.toArray⟩ : ByteArray).toList = cl by rw [Lib.toList_data])]
  refine j3_len (by omega) (by rw [Lib.toList_data]) (length_ok b.size hb) ?_
  rw [if_pos rfl]
  have he := step_end (body := t) (size := (b.size : Int)) (seen := true) (ls := [⟨(firstL m.data.toList p.data.toList).toArray⟩, ⟨(clL b.size).toArray⟩]) (p := m) (q := p) (e := E0)
  by_cases hq : t.size = b.size
  · rw [if_pos hq]
    rw [if_pos (by omega)] at he
    exact he
  · rw [if_neg hq]
    rw [if_neg (by omega)] at he
    exact he
/-- the same, its last byte gone, where it has no body -/
theorem parse_torn {m p b s : ByteArray} (hm : MethOk m) (hp : PathOk p) (hb : b.size = 0) (hh : (headOf m p b).size ≤ 4096) (hs : s = (headOf m p b).extract 0 ((headOf m p b).size - 1)) :
    ∃ e, e ≠ 0 ∧ Ev (fun k => http_Parse.f k s) (E0, E0, E0, e) := by
  have hd0 : (headOf m p b).data.toList = (headX m p b.size ++ [13, 10, 13]) ++ [10] := by
    rw [head_data]
    simp only [headX, crlf2, List.append_assoc, List.cons_append, List.nil_append]
  have hl : (headX m p b.size ++ [13, 10, 13]).length = (headOf m p b).size - 1 := by
    have := congrArg List.length hd0
    rw [size_len, List.length_append (bs := [10])] at this
    simp at this
    simp
    omega
  have hd : s.data.toList = headX m p b.size ++ [13, 10, 13] := by
    rw [hs, ← hl]
    exact extract_left _ _ _ hd0
  have hsz : s.size < 4294967281 := by
    rw [← size_len, hd, hl]
    omega
  refine ⟨_, ?_, parse_none hsz (by rw [hd]; exact index_torn (headX_good hm hp _))⟩
  split <;> decide
end Go.Proofs.YteeiljjjgkinhaaGreatDoor.PHttpFL
