/- Points that may be are the same just if their bytes are; PayloadSames, plain. -/
import Derived.Test.YtbeljekpknpadaaDoorPPayUx8
import Derived.Test.YtbeljekpknpadaaDoorPuD
namespace Go.Proofs.YtbeljekpknpadaaDoor.PPayUL
open Go.RowKit Go.Proofs.YtbeljekpknpadaaDoor.PPayU Go.Proofs.YtbeljekpknpadaaDoorW.PrintWords Go.Proofs.YtbeljekpknpadaaDoorW.PrintLast Go.Proofs.YtbeljekpknpadaaDoorW.PrintMore
set_option linter.unusedVariables false
set_option linter.unusedSimpArgs false

theorem str_bytes (s : ByteArray) : strOfNums (bytesOf s) = s := by
  simp only [bytesOf, strOfNums]
  rw [List.map_map]
  have e : s.data.toList.map ((fun n : Int => UInt8.ofNat n.toNat) ∘ fun b => ((b.toNat : Nat) : Int)) = s.data.toList := by
    conv => rhs; rw [← List.map_id s.data.toList]
    refine List.map_congr_left fun b _ => ?_
    simp
  rw [e]
theorem bytes_inj {a b : ByteArray} (h : bytesOf a = bytesOf b) : a = b := by
  rw [← str_bytes a, ← str_bytes b, h]
theorem leB_pre {w n m : Nat} {r s : List Int} (h : leB w n ++ r = leB w m ++ s) (hn : n < 256 ^ w) (hm : m < 256 ^ w) : n = m ∧ r = s := by
  obtain ⟨h1, h2⟩ := List.append_inj h (by rw [leB_length, leB_length])
  exact ⟨leB_inj w n m hn hm h1, h2⟩
theorem bytes_pre {a b : ByteArray} {r s : List Int} (hs : a.size = b.size) (h : bytesOf a ++ r = bytesOf b ++ s) : a = b ∧ r = s := by
  obtain ⟨h1, h2⟩ := List.append_inj h (by rw [bytesOf_length, bytesOf_length, hs])
  exact ⟨bytes_inj h1, h2⟩
theorem flat_pre {α : Type} (e : α → List Int) (ok : α → Prop) (he : ∀ x y r s, ok x → ok y → e x ++ r = e y ++ s → x = y ∧ r = s) : ∀ (l m : List α) (r s : List Int), l.length = m.length → (∀ x ∈ l, ok x) → (∀ x ∈ m, ok x) → l.flatMap e ++ r = m.flatMap e ++ s → l = m ∧ r = s
  | [], [], r, s, _, _, _, h => ⟨rfl, h⟩
  | [], _ :: _, _, _, hl, _, _, _ => by cases hl
  | _ :: _, [], _, _, hl, _, _, _ => by cases hl
  | x :: l, y :: m, r, s, hl, h1, h2, h => by
    rw [List.flatMap_cons, List.flatMap_cons, List.append_assoc, List.append_assoc] at h
    obtain ⟨rfl, h3⟩ := he x y _ _ (h1 x (List.mem_cons_self ..)) (h2 y (List.mem_cons_self ..)) h
    obtain ⟨rfl, h4⟩ := flat_pre e ok he l m r s (by simpa using hl) (fun z hz => h1 z (List.mem_cons_of_mem _ hz)) (fun z hz => h2 z (List.mem_cons_of_mem _ hz)) h3
    exact ⟨rfl, h4⟩
theorem encC_pre (x y : Int) (r s : List Int) (hx : inB x = true) (hy : inB y = true) (h : encC x ++ r = encC y ++ s) : x = y ∧ r = s := by
  simp only [inB, Bool.and_eq_true, decide_eq_true_eq] at hx hy
  obtain ⟨h1, h2⟩ := leB_pre h (by omega) (by omega)
  exact ⟨by omega, h2⟩
theorem encV_pre (x y : S59) (r s : List Int) (hx : okV x) (hy : okV y) (h : encV x ++ r = encV y ++ s) : x = y ∧ r = s := by
  obtain ⟨x0, x1⟩ := x
  obtain ⟨y0, y1⟩ := y
  obtain ⟨a1, a2, a3⟩ := hx
  obtain ⟨b1, b2, b3⟩ := hy
  simp only at a1 a2 a3 b1 b2 b3
  simp only [encV, List.append_assoc] at h
  obtain ⟨h1, k1⟩ := leB_pre h (by omega) (by omega)
  obtain ⟨h2, k2⟩ := bytes_pre h1 k1
  obtain ⟨h3, k3⟩ := leB_pre k2 (by omega) (by omega)
  obtain ⟨h4, k4⟩ := flat_pre encC (fun c => inB c = true) encC_pre x1 y1 r s h3 a3 b3 k3
  exact ⟨by rw [h2, h4], k4⟩
theorem empty_of {s : ByteArray} (h : s.toList = []) : s = ⟨#[]⟩ := by
  rw [Lib.toList_data] at h
  cases s
  simp only at h
  rw [Array.ext' (ys := #[]) h]
set_option maxRecDepth 100000 in
theorem val_cases (v : S33) (h : valB v = true) : (v.f0 = 1 ∧ v.f2 = ⟨#[]⟩ ∧ -4503599627370496 ≤ v.f1 ∧ v.f1 ≤ 4503599627370496) ∨ (v.f0 = 2 ∧ v.f1 = 0 ∧ v.f2.size ≤ 256) ∨ (v.f0 = 3 ∧ v.f2 = ⟨#[]⟩ ∧ 0 ≤ v.f1 ∧ v.f1 ≤ 1) := by
  unfold valB at h
  split at h
  · rename_i c
    simp only [Bool.and_eq_true, decide_eq_true_eq] at h
    exact .inl ⟨c, empty_of h.1, h.2.1, h.2.2⟩
  · split at h
    · rename_i c
      simp only [Bool.and_eq_true, decide_eq_true_eq] at h
      exact .inr (.inl ⟨c, h.1, h.2.1⟩)
    · split at h
      · rename_i c
        simp only [Bool.and_eq_true, Bool.or_eq_true, decide_eq_true_eq] at h
        exact .inr (.inr ⟨c, empty_of h.1, by omega, by omega⟩)
      · cases h
theorem encF_pre (x y : S61) (r s : List Int) (hx : okF x) (hy : okF y) (h : encF x ++ r = encF y ++ s) : x = y ∧ r = s := by
  obtain ⟨x0, xk, xn, xt⟩ := x
  obtain ⟨y0, yk, yn, yt⟩ := y
  obtain ⟨a1, a2⟩ := hx
  obtain ⟨b1, b2⟩ := hy
  have ak := val_kind _ a2
  have bk := val_kind _ b2
  have ac := val_cases _ a2
  have bc := val_cases _ b2
  simp only at a1 b1 ak bk ac bc
  simp only [encF, List.append_assoc] at h
  obtain ⟨h1, k1⟩ := leB_pre h (by omega) (by omega)
  obtain ⟨h2, k2⟩ := bytes_pre h1 k1
  obtain ⟨h3, k3⟩ := leB_pre k2 (by omega) (by omega)
  clear h k1 k2 a2 b2
  obtain rfl : xk = yk := by omega
  clear h3
  subst h2
  rcases ac with ⟨c, at_, an, an2⟩ | ⟨c, an, at_⟩ | ⟨c, at_, an, an2⟩
  · rcases bc with ⟨_, bt, bn, bn2⟩ | ⟨d, _⟩ | ⟨d, _⟩
    · subst at_ bt
      simp only [encN] at k3
      rw [if_neg (by omega), if_pos c, if_neg (by omega), if_pos c] at k3
      have e1 := IntKind.wrap_u64 xn
      have e2 := IntKind.wrap_u64 yn
      obtain ⟨h5, k5⟩ := leB_pre k3 (by rw [e1]; omega) (by rw [e2]; omega)
      rw [e1, e2] at h5
      obtain ⟨_, k6⟩ := bytes_pre rfl k5
      have h6 : xn = yn := by omega
      exact ⟨by rw [h6], k6⟩
    · omega
    · omega
  · rcases bc with ⟨d, _⟩ | ⟨_, bn, bt⟩ | ⟨d, _⟩
    · omega
    · subst an bn
      simp only [encN] at k3
      rw [if_pos c, if_pos c] at k3
      obtain ⟨h5, k5⟩ := leB_pre k3 (by omega) (by omega)
      obtain ⟨h6, k6⟩ := bytes_pre h5 k5
      exact ⟨by rw [h6], k6⟩
    · omega
  · rcases bc with ⟨d, _⟩ | ⟨d, _⟩ | ⟨_, bt, bn, bn2⟩
    · omega
    · omega
    · subst at_ bt
      simp only [encN] at k3
      rw [if_neg (by omega), if_neg (by omega), if_neg (by omega), if_neg (by omega)] at k3
      obtain ⟨h5, k5⟩ := leB_pre k3 (by omega) (by omega)
      obtain ⟨_, k6⟩ := bytes_pre rfl k5
      have h6 : xn = yn := by omega
      exact ⟨by rw [h6], k6⟩
theorem encP_inj (a0 : Int) (l1 : List S59) (l2 : List S61) (b0 : Int) (m1 : List S59) (m2 : List S61) (ha : mayB a0 l1 l2 = true) (hb : mayB b0 m1 m2 = true) (h : encP a0 l1 l2 = encP b0 m1 m2) : a0 = b0 ∧ l1 = m1 ∧ l2 = m2 := by
  obtain ⟨a1, a2, a3, a4, a5, a6, a7⟩ := may_ok _ _ _ ha
  obtain ⟨b1, b2, b3, b4, b5, b6, b7⟩ := may_ok _ _ _ hb
  simp only [encP, List.append_assoc] at h
  obtain ⟨h1, k1⟩ := leB_pre h (by omega) (by omega)
  obtain ⟨h2, k2⟩ := leB_pre k1 (by omega) (by omega)
  obtain ⟨h3, k3⟩ := flat_pre encV okV encV_pre l1 m1 _ _ h2 a6 b6 k2
  obtain ⟨h4, k4⟩ := leB_pre k3 (by omega) (by omega)
  have k5 : l2.flatMap encF ++ [] = m2.flatMap encF ++ [] := by simpa using k4
  obtain ⟨h5, _⟩ := flat_pre encF okF encF_pre l2 m2 _ _ h4 a7 b7 k5
  exact ⟨by omega, h3, h5⟩
theorem encC_byte (c : Int) : ∀ x ∈ encC c, 0 ≤ x ∧ x < 256 := leB_byte 2 _
theorem bytesOf_byte (s : ByteArray) : ∀ x ∈ bytesOf s, 0 ≤ x ∧ x < 256 := by
  intro x hx
  obtain ⟨b, _, rfl⟩ := List.mem_map.1 hx
  have := b.toNat_lt
  omega
theorem encN_byte (v : S33) : ∀ x ∈ encN v, 0 ≤ x ∧ x < 256 := by
  unfold encN
  split
  · exact leB_byte 2 _
  · split
    · exact leB_byte 8 _
    · exact leB_byte 1 _
theorem encP_byte (a0 : Int) (l1 : List S59) (l2 : List S61) : ∀ x ∈ encP a0 l1 l2, 0 ≤ x ∧ x < 256 := by
  intro x hx
  simp only [encP, List.mem_append, List.mem_flatMap] at hx
  rcases hx with (((hx | hx) | ⟨v, _, hx⟩) | hx) | ⟨f, _, hx⟩
  · exact leB_byte 8 _ x hx
  · exact leB_byte 1 _ x hx
  · simp only [encV, List.mem_append, List.mem_flatMap] at hx
    rcases hx with ((hx | hx) | hx) | ⟨c, _, hx⟩
    · exact leB_byte 1 _ x hx
    · exact bytesOf_byte _ x hx
    · exact leB_byte 1 _ x hx
    · exact encC_byte c x hx
  · exact leB_byte 1 _ x hx
  · simp only [encF, List.mem_append] at hx
    rcases hx with (((hx | hx) | hx) | hx) | hx
    · exact leB_byte 1 _ x hx
    · exact bytesOf_byte _ x hx
    · exact leB_byte 1 _ x hx
    · exact encN_byte _ x hx
    · exact bytesOf_byte _ x hx
theorem encoded_iff (a0 : Int) (l1 : List S59) (l2 : List S61) (b0 : Int) (m1 : List S59) (m2 : List S61) (ha : mayB a0 l1 l2 = true) (hb : mayB b0 m1 m2 = true) :
    ((strOfNums (encP a0 l1 l2)).toList == (strOfNums (encP b0 m1 m2)).toList) = eqP a0 l1 l2 b0 m1 m2 := by
  rw [Bool.eq_iff_iff, beq_iff_eq, str_iff, eqP_iff]
  constructor
  · intro h
    have h2 := congrArg bytesOf h
    rw [bytesOf_str _ (encP_byte _ _ _), bytesOf_str _ (encP_byte _ _ _)] at h2
    exact encP_inj a0 l1 l2 b0 m1 m2 ha hb h2
  · rintro ⟨rfl, rfl, rfl⟩
    rfl

/-- a point of a bulk that fits -/
structure Fit (l1 : List S59) (l2 : List S61) : Prop where
  w : wt59 l1 ≤ 16777216
  n : l2.length ≤ 16777216
  n1 : ∀ x ∈ l1, x.f0.size ≤ 16777216
  n2 : ∀ x ∈ l2, x.f0.size ≤ 16777216
  t : ∀ x ∈ l2, x.f1.f2.size ≤ 16777216
theorem encode_fit (a0 : Int) (l1 : List S59) (l2 : List S61) (h : Fit l1 l2) (k : Nat) (hk : 100000000 ≤ k) : payload_Encode.f k a0 l1 l2 = some (if mayB a0 l1 l2 = true then (strOfNums (encP a0 l1 l2), 0) else (⟨#[]⟩, 120)) := by
  have h1 := h.w
  have h2 := h.n
  have h3 := wt59_len l1
  exact encode_eq a0 l1 l2 (by omega) (by omega) (fun x hx => by have := h.n1 x hx; omega) (fun x hx => by have := h.n2 x hx; omega) (fun x hx => by have := h.t x hx; omega) k (by omega)
end Go.Proofs.YtbeljekpknpadaaDoor.PPayUL
