import Derived.Test.YteeiljjjgkinhaaGreatDoorHtM
namespace Go.Proofs.YteeiljjjgkinhaaGreatDoor.PHttpFL
open Go.RowKit Go.Proofs.YteeiljjjgkinhaaGreatDoor.PHttpF Go.Proofs.YteeiljjjgkinhaaGreatDoor.HtLists Go.Proofs.YteeiljjjgkinhaaGreatDoorW.PrintWords Go.Proofs.YteeiljjjgkinhaaGreatDoorW.PrintLast Go.Proofs.YteeiljjjgkinhaaGreatDoorW.PrintMore
set_option linter.unusedVariables false
set_option linter.unusedSimpArgs false

theorem spl_ne (sep s : List UInt8) (hs : sep ≠ []) : spl sep s ≠ [] := by
  rcases Lib.index_spec s sep with ⟨h, _⟩ | ⟨i, h, _⟩
  · rw [spl_miss sep s h]; simp
  · rw [spl_hit sep s i hs h]; simp
def mk (l : List UInt8) : ByteArray := ⟨l.toArray⟩
theorem split_f (l sep : ByteArray) (hs : l.size < 4294967281) (h1 : 1 ≤ sep.size) : strings_Split.f l sep = some ((spl sep.data.toList l.data.toList).map mk) := by
  refine split_eq l sep _ hs h1 ?_
  rw [List.map_map]
  have e : ((fun x : ByteArray => x.data.toList) ∘ mk) = id := by funext x; rfl
  rw [e, List.map_id]
theorem mk_data (s : ByteArray) : mk s.data.toList = s := (ba_mk s).symm
theorem mk_size (l : List UInt8) : (mk l).size = l.length := size_mk l
theorem ext_left (l : ByteArray) (X Y : List UInt8) (h : l.data.toList = X ++ Y) : l.extract 0 X.length = mk X := ba_ext (extract_left l X Y h)
theorem ext_right (l : ByteArray) (X Y : List UInt8) (h : l.data.toList = X ++ Y) : l.extract X.length l.size = mk Y := ba_ext (extract_right l X Y h)

/-! ### the first line -/
theorem first_no (l : ByteArray) (hs : l.size < 4294967281) (h : (spl [32] l.data.toList).length ≠ 3) : Ev (fun k => http_first.f k l) (E0, E0, E0, false) := by
  refine Ev.const fun k => ?_
  unfold http_first.f
  rw [split_f l _ hs (by decide)]
  simp only [Option.bind_some]
  rw [if_neg]
  intro e
  apply h
  have : ((List.map mk (spl [32] l.data.toList)).length : Int) = 3 := e
  rw [List.length_map] at this
  omega
theorem ref_method_ev {s : ByteArray} {b : Bool} (h : Ev (fun k => http_method.f k s) b) : Ev (fun k => lodestarref04_method.f k s) b := Ev.congr (fun k => same_method k s 0) h
theorem ref_path_ev {s : ByteArray} {b : Bool} (h : Ev (fun k => http_path.f k s) b) : Ev (fun k => lodestarref04_path.f k s) b := Ev.congr (fun k => same_path k s 0) h
theorem ref_first_at {l : ByteArray} {m p rest : List UInt8} (hs : l.size ≤ 1073741824) (hd : l.data.toList = m ++ ([32] ++ (p ++ ([32] ++ rest)))) {bm bp : Bool}
    (h1 : Ev (fun k => lodestarref04_find.f k l (⟨#[32]⟩ : ByteArray) 0) (m.length : Int)) (h2 : Ev (fun k => lodestarref04_find.f k l (⟨#[32]⟩ : ByteArray) ((m.length + 1 : Nat) : Int)) ((m.length + 1 + p.length : Nat) : Int))
    (hm : Ev (fun k => http_method.f k (mk m)) bm) (hp : Ev (fun k => http_path.f k (mk p)) bp) : Ev (fun k => lodestarref04_first.f k l) (mk m, mk p, E0, bm && (bp && (rest == http11))) := by
  have hlen : l.size = m.length + (1 + (p.length + (1 + rest.length))) := by
    rw [← size_len, hd]
    simp only [List.length_append, List.length_cons, List.length_nil]
  have e1 : l.extract 0 m.length = mk m := ext_left l m _ hd
  have e2 : l.extract (m.length + 1) (m.length + 1 + p.length) = mk p := by
    apply ba_ext
    rw [extract_data, hd]
    have : m ++ ([32] ++ (p ++ ([32] ++ rest))) = (m ++ [32]) ++ (p ++ ([32] ++ rest)) := by simp
    rw [this, List.drop_append_of_le_length (by simp), List.drop_of_length_le (by simp), List.nil_append, Nat.add_sub_cancel_left, List.take_left]
    rfl
  have e3 : (l.extract (m.length + 1 + p.length + 1) l.size).toList = rest := by
    rw [Lib.toList_data, Lib.extract_to_end, hd]
    have : m ++ ([32] ++ (p ++ ([32] ++ rest))) = (m ++ [32] ++ p ++ [32]) ++ rest := by simp
    rw [this]
    have hl : m.length + 1 + p.length + 1 = (m ++ [32] ++ p ++ [32]).length := by simp; omega
    rw [hl, List.drop_left]
  refine Ev.congr (fun k => rfl) (Ev.bind h1 ?_)
  simp only [if_neg (show ¬ ((m.length : Nat) : Int) < 0 by omega), wrap_next m.length (by omega)]
  refine Ev.bind h2 ?_
  have hn1 : ((m.length : Nat) : Int).toNat = m.length := by omega
  have hn2 : ((m.length + 1 : Nat) : Int).toNat = m.length + 1 := by omega
  have hn3 : ((m.length + 1 + p.length : Nat) : Int).toNat = m.length + 1 + p.length := by omega
  have hn4 : ((m.length + 1 + p.length + 1 : Nat) : Int).toNat = m.length + 1 + p.length + 1 := by omega
  simp only [if_neg (show ¬ ((m.length + 1 + p.length : Nat) : Int) < 0 by omega), if_pos (show 0 ≤ ((m.length : Nat) : Int) by omega), if_pos (show ((m.length : Nat) : Int) ≤ (l.size : Int) by omega),
    if_pos (show 0 ≤ ((m.length + 1 : Nat) : Int) by omega), if_pos (show ((m.length + 1 : Nat) : Int) ≤ ((m.length + 1 + p.length : Nat) : Int) by omega), if_pos (show ((m.length + 1 + p.length : Nat) : Int) ≤ (l.size : Int) by omega),
    wrap_next (m.length + 1 + p.length) (by omega), hn1, hn2, hn3, hn4, e1, e2, e3,
    if_pos (show 0 ≤ ((m.length + 1 + p.length + 1 : Nat) : Int) by omega), if_pos (show ((m.length + 1 + p.length + 1 : Nat) : Int) ≤ (l.size : Int) by omega)]
  refine Ev.bind (ref_method_ev hm) ?_
  cases bm with
  | false => exact Ev.const fun _ => rfl
  | true =>
    simp only [if_true]
    refine Ev.bind (ref_path_ev hp) ?_
    cases bp with
    | false => exact Ev.const fun _ => rfl
    | true => exact Ev.const fun _ => rfl
theorem hfirst_at {l : ByteArray} {m p rest : List UInt8} (hs : l.size < 4294967281) (hd : spl [32] l.data.toList = [m, p, rest]) {bm bp : Bool}
    (hm : Ev (fun k => http_method.f k (mk m)) bm) (hp : Ev (fun k => http_path.f k (mk p)) bp) : Ev (fun k => http_first.f k l) (if (bm && (bp && (rest == http11))) = true then (mk m, mk p, E0, true) else (E0, E0, E0, false)) := by
  have hsp : strings_Split.f l (⟨#[32]⟩ : ByteArray) = some [mk m, mk p, mk rest] := by
    rw [split_f l _ hs (by decide)]
    show some (List.map mk (spl [32] l.data.toList)) = _
    rw [hd]
    rfl
  refine Ev.congr (g := fun k => (http_method.f k (mk m)).bind fun t108 => if t108 = true then ((http_path.f k (mk p)).bind fun t110 => if t110 = true then (if rest = http11 then some (mk m, mk p, E0, true) else some (E0, E0, E0, false)) else some (E0, E0, E0, false)) else some (E0, E0, E0, false)) (fun k => ?_) ?_
  · unfold http_first.f
    rw [hsp]
    have e0 : rdOf ByteArray.empty [mk m, mk p, mk rest] 0 = mk m := rfl
    have e1 : rdOf ByteArray.empty [mk m, mk p, mk rest] 1 = mk p := rfl
    have e2 : (rdOf ByteArray.empty [mk m, mk p, mk rest] 2).toList = rest := by
      show (mk rest).toList = _
      rw [Lib.toList_data]
      rfl
    have c3 : (([mk m, mk p, mk rest].length : Nat) : Int) = 3 := rfl
    simp only [Option.bind_some, e0, e1, e2, c3, if_true, if_pos (show (0 : Int) < 3 by omega), if_pos (show (1 : Int) < 3 by omega), if_pos (show (2 : Int) < 3 by omega)]
    rfl
  · refine Ev.bind hm ?_
    cases bm with
    | false => exact Ev.const fun _ => rfl
    | true =>
      simp only [if_true]
      refine Ev.bind hp ?_
      cases bp with
      | false => exact Ev.const fun _ => rfl
      | true =>
        simp only [if_true, Bool.true_and]
        by_cases h : rest = http11
        · rw [if_pos h, if_pos (beq_iff_eq.2 h)]
          exact Ev.const fun _ => rfl
        · rw [if_neg h, if_neg (by rw [beq_iff_eq]; exact h)]
          exact Ev.const fun _ => rfl
theorem first_both (l : ByteArray) (hs : l.size ≤ 1073741824) : ∃ (m p : ByteArray) (ok : Bool) (m' p' : ByteArray), Ev (fun k => http_first.f k l) (if ok = true then (m, p, E0, true) else (E0, E0, E0, false)) ∧ Ev (fun k => lodestarref04_first.f k l) (m', p', E0, ok) ∧ (ok = true → m' = m ∧ p' = p) := by
  obtain ⟨r1, E1, F1⟩ := find_ev l (⟨#[32]⟩ : ByteArray) (by decide) (by decide) hs 0 (by omega)
  have F1' : FindAt l.data.toList [32] 0 r1 := F1
  rcases F1' with ⟨e, h⟩ | ⟨i, e, h1, h2, h3, h4⟩
  · subst e
    have hno : (32 : UInt8) ∉ l.data.toList := fun hm => by have := (find_byte F1).2 hm; omega
    refine ⟨E0, E0, false, E0, E0, first_no l (by omega) (by rw [spl_last _ 32 [] hno]; simp), ?_, fun h => by cases h⟩
    refine Ev.congr (fun k => rfl) (Ev.bind E1 ?_)
    exact Ev.const fun _ => rfl
  · subst e
    obtain ⟨hcut, hm32⟩ := cut_at h1 h3 h4
    obtain ⟨m, hm⟩ : ∃ m, (l.data.toList.drop 0).take (i - 0) = m := ⟨_, rfl⟩
    obtain ⟨l2, hl2⟩ : ∃ l2, l.data.toList.drop (i + 1) = l2 := ⟨_, rfl⟩
    rw [hm, hl2, List.drop_zero] at hcut
    rw [hm] at hm32
    have hil : i + 1 ≤ l.size := by
      have h2' : i + 1 ≤ l.data.toList.length := h2
      rwa [size_len] at h2'
    have hml : m.length = i := by rw [← hm]; simp; rw [← size_len] at hil; simp at hil; omega
    obtain ⟨r2, E2, F2⟩ := find_ev l (⟨#[32]⟩ : ByteArray) (by decide) (by decide) hs (i + 1) hil
    have F2' : FindAt l.data.toList [32] (i + 1) r2 := F2
    rcases F2' with ⟨e, h⟩ | ⟨i2, e, g1, g2, g3, g4⟩
    · subst e
      have hno : (32 : UInt8) ∉ l2 := fun hmem => by
        obtain ⟨j, hj⟩ := List.mem_iff_getElem?.1 hmem
        rw [← hl2, List.getElem?_drop] at hj
        have := h (i + 1 + j) (by omega)
        rw [(occ_byte _ _ _).2 hj] at this
        cases this
      refine ⟨E0, E0, false, E0, E0, first_no l (by omega) (by rw [hcut, spl_line m l2 32 [] hm32, spl_last l2 32 [] hno]; simp), ?_, fun h => by cases h⟩
      refine Ev.congr (fun k => rfl) (Ev.bind E1 ?_)
      simp only [if_neg (show ¬ ((i : Nat) : Int) < 0 by omega), wrap_next i (by omega)]
      refine Ev.bind E2 ?_
      exact Ev.const fun _ => rfl
    · subst e
      obtain ⟨hcut2, hp32⟩ := cut_at g1 g3 g4
      obtain ⟨p, hp⟩ : ∃ p, (l.data.toList.drop (i + 1)).take (i2 - (i + 1)) = p := ⟨_, rfl⟩
      obtain ⟨rest, hrest⟩ : ∃ rest, l.data.toList.drop (i2 + 1) = rest := ⟨_, rfl⟩
      rw [hp, hrest, hl2] at hcut2
      rw [hp] at hp32
      have g2' : i2 + 1 ≤ l.size := by
        have h2' : i2 + 1 ≤ l.data.toList.length := g2
        rwa [size_len] at h2'
      have hpl : p.length = i2 - (i + 1) := by rw [← hp]; simp; rw [← size_len] at g2'; simp at g2'; omega
      have hd : l.data.toList = m ++ ([32] ++ (p ++ ([32] ++ rest))) := by rw [hcut, hcut2]
      have hlen : l.size = m.length + (1 + (p.length + (1 + rest.length))) := by
        rw [← size_len, hd]
        simp only [List.length_append, List.length_cons, List.length_nil]
      obtain ⟨bm, hbm, -⟩ := method_ev (mk m) (by rw [mk_size]; omega)
      obtain ⟨bp, hbp, -⟩ := path_ev (mk p) (by rw [mk_size]; omega)
      have hbm' : Ev (fun k => http_method.f k (mk m)) bm := ⟨_, hbm⟩
      have hbp' : Ev (fun k => http_path.f k (mk p)) bp := ⟨_, hbp⟩
      have hr := ref_first_at hs hd (by rw [hml]; exact E1) (by rw [hml, show i + 1 + p.length = i2 by omega]; exact E2) hbm' hbp'
      have hspl : spl [32] l.data.toList = m :: p :: spl [32] rest := by rw [hd, spl_line m _ 32 [] hm32, spl_line p _ 32 [] hp32]
      by_cases hrs : (32 : UInt8) ∈ rest
      · have hno : (rest == http11) = false := by
          rw [beq_eq_false_iff_ne]
          intro e
          rw [e] at hrs
          revert hrs
          decide
        rw [hno, Bool.and_false, Bool.and_false] at hr
        refine ⟨E0, E0, false, mk m, mk p, first_no l (by omega) ?_, hr, fun h => by cases h⟩
        rw [hspl]
        obtain ⟨j, hj⟩ := List.mem_iff_getElem?.1 hrs
        rcases Lib.index_spec rest [32] with ⟨h, hn⟩ | ⟨i3, h, _⟩
        · have := hn j (Nat.le_of_lt (List.getElem?_eq_some_iff.1 hj).1)
          rw [(occ_byte _ _ _).2 hj] at this
          cases this
        · rw [spl_hit [32] rest i3 (by simp) h]
          have := spl_ne [32] (rest.drop (i3 + [32].length)) (by simp)
          cases hq : spl [32] (rest.drop (i3 + [32].length)) with
          | nil => exact absurd hq this
          | cons a b => simp
      · rw [spl_last rest 32 [] hrs] at hspl
        have hh := hfirst_at (by omega) hspl hbm' hbp'
        exact ⟨mk m, mk p, _, mk m, mk p, hh, hr, fun _ => ⟨rfl, rfl⟩⟩
end Go.Proofs.YteeiljjjgkinhaaGreatDoor.PHttpFL
