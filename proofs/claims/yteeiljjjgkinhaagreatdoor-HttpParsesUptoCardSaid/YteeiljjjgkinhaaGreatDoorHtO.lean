import Derived.Test.YteeiljjjgkinhaaGreatDoorHtN
namespace Go.Proofs.YteeiljjjgkinhaaGreatDoor.PHttpFL
open Go.RowKit Go.Proofs.YteeiljjjgkinhaaGreatDoor.PHttpF Go.Proofs.YteeiljjjgkinhaaGreatDoor.HtLists Go.Proofs.YteeiljjjgkinhaaGreatDoorW.PrintWords Go.Proofs.YteeiljjjgkinhaaGreatDoorW.PrintLast Go.Proofs.YteeiljjjgkinhaaGreatDoorW.PrintMore
set_option linter.unusedVariables false
set_option linter.unusedSimpArgs false

/-! ### a line -/
theorem indexAny_some (cs : List UInt8) : ∀ v : List UInt8, (∃ c ∈ v, cs.contains c = true) → 0 ≤ Lib.indexAny v cs
  | [], h => by obtain ⟨c, hc, _⟩ := h; cases hc
  | b :: l, h => by
    simp only [Lib.indexAny]
    by_cases hb : cs.contains b = true
    · rw [if_pos hb]; omega
    · rw [if_neg hb]
      have ih := indexAny_some cs l (by
        obtain ⟨c, hc, hcc⟩ := h
        rcases List.mem_cons.1 hc with rfl | hc
        · exact absurd hcc hb
        · exact ⟨c, hc, hcc⟩)
      rw [if_neg (by rw [beq_iff_eq]; omega)]
      omega
def badC (c : UInt8) : Prop := c = 10 ∨ c = 13 ∨ c = 0
theorem contains_bad (v : List UInt8) : Lib.containsAny v [10, 13, 0] = true ↔ ∃ c ∈ v, badC c := by
  constructor
  · intro h
    apply Classical.byContradiction
    intro hn
    have : Lib.containsAny v [10, 13, 0] = false := any_none fun c hc => by
      refine ⟨fun e => hn ⟨c, hc, .inl e⟩, fun e => hn ⟨c, hc, .inr (.inl e)⟩, fun e => hn ⟨c, hc, .inr (.inr e)⟩⟩
    rw [this] at h
    cases h
  · intro ⟨c, hc, hb⟩
    unfold Lib.containsAny
    refine decide_eq_true (indexAny_some _ v ⟨c, hc, ?_⟩)
    rcases hb with rfl | rfl | rfl <;> decide
theorem field_j0_true (a b : ByteArray) : Ev (fun k => http_field.j0 k a b true) (E0, E0, false) := Ev.succ (g := fun _ => some (E0, E0, false)) (fun k => by simp only [http_field.j0]; rfl) (Ev.const fun _ => rfl)
theorem line_j0_true (l : ByteArray) (had : Bool) (i : Int) : Ev (fun k => lodestarref04_line.j0 k l had i true) (-1, 40) := Ev.succ (g := fun _ => some (-1, 40)) (fun k => by simp only [lodestarref04_line.j0]; rfl) (Ev.const fun _ => rfl)
theorem line_j1 (x : Int) (b : Bool) : Ev (fun k => lodestarref04_line.j1 k x b) (if b = true then (-1, 40) else if x > 262144 then (-1, 41) else (x, 0)) := by
  refine Ev.succ (g := fun _ => some (if b = true then (-1, 40) else if x > 262144 then (-1, 41) else (x, 0))) (fun k => ?_) (Ev.const fun _ => rfl)
  simp only [lodestarref04_line.j1]
  repeat' split
  all_goals rfl
/-- what both say of a line of the head -/
def LineSays (l : ByteArray) (had : Bool) (N e : Int) : Prop := ∀ {body : ByteArray} {size : Int} {ls : List ByteArray} {i : Nat} {p q e' : ByteArray} {r : ByteArray × ByteArray × ByteArray × Int}, 0 < i → ls.length ≤ 4294967296 → ls[i]? = some l →
  (if e = 0 then (if N ≥ 0 then PL body N true ls (i + 1) p q e' r else PL body size had ls (i + 1) p q e' r) else r = (E0, E0, E0, e)) → PL body size had ls i p q e' r
theorem says_bad {l a b : ByteArray} {had : Bool} (hf : Ev (fun k => http_field.f k l) (a, b, false)) : LineSays l had (-1) 40 := by
  intro body size ls i p q e' r h0 hl hi hr
  rw [if_neg (show ¬ ((40 : Int) = 0) by decide)] at hr
  subst hr
  refine step_line h0 hl hi hf ?_
  rw [if_neg (show ¬ (false = true) by decide)]
  exact j3_bad
theorem line_both (l : ByteArray) (hs : l.size ≤ 1073741824) (had : Bool) : ∃ N e : Int, Ev (fun k => lodestarref04_line.f k l had) (N, e) ∧ LineSays l had N e := by
  obtain ⟨r1, E1, F1⟩ := find_ev l (⟨#[58]⟩ : ByteArray) (by decide) (by decide) hs 0 (by omega)
  have F1' : FindAt l.data.toList [58] 0 r1 := F1
  rcases F1' with ⟨e, h⟩ | ⟨i, e, h1, h2, h3, h4⟩
  · subst e
    refine ⟨-1, 40, ?_, says_bad (a := E0) (b := E0) ?_⟩
    · refine Ev.congr (fun k => rfl) (Ev.bind E1 ?_)
      simp only [if_pos (show (-1 : Int) < 0 by decide)]
      exact line_j0_true l had (-1)
    · have hx : Lib.index l.data.toList [58] = -1 := find_index F1
      have hcut : strings_Cut.f l (⟨#[58]⟩ : ByteArray) = some (mk l.data.toList, mk [], false) := by
        unfold strings_Cut.f
        rw [if_pos (by omega)]
        show some (_, _, _) = _
        have : Lib.cut l.data.toList [58] = (l.data.toList, [], false) := by
          unfold Lib.cut
          rw [hx, if_neg (by omega)]
        rw [show (⟨#[58]⟩ : ByteArray).data.toList = [58] from rfl, this]
        rfl
      refine Ev.congr (g := fun k => http_field.j0 k (mk l.data.toList) (mk []) true) (fun k => ?_) (field_j0_true _ _)
      unfold http_field.f
      rw [hcut]
      simp only [Option.bind_some]
      rfl
  · subst e
    obtain ⟨hcut, hm58⟩ := cut_at h1 h3 h4
    obtain ⟨nm, hnm⟩ : ∃ m, (l.data.toList.drop 0).take (i - 0) = m := ⟨_, rfl⟩
    obtain ⟨v, hv⟩ : ∃ l2, l.data.toList.drop (i + 1) = l2 := ⟨_, rfl⟩
    rw [hnm, hv, List.drop_zero] at hcut
    rw [hnm] at hm58
    have hil : i + 1 ≤ l.size := by
      have h2' : i + 1 ≤ l.data.toList.length := h2
      rwa [size_len] at h2'
    have hml : nm.length = i := by rw [← hnm]; simp; rw [← size_len] at hil; simp at hil; omega
    have hlen : l.size = nm.length + (1 + v.length) := by
      rw [← size_len, hcut]
      simp only [List.length_append, List.length_cons, List.length_nil]
    have e1 : l.extract 0 i = mk nm := by rw [← hml]; exact ext_left l nm _ hcut
    have e2 : l.extract (i + 1) l.size = mk v := by
      have e : l.data.toList = (nm ++ [58]) ++ v := by rw [hcut, List.append_assoc]
      have hl : i + 1 = (nm ++ [58]).length := by simp; omega
      rw [hl]
      exact ext_right l _ v e
    have hcutf : strings_Cut.f l (⟨#[58]⟩ : ByteArray) = some (mk nm, mk v, true) := cut_f hcut (by omega) hm58
    obtain ⟨nb, hnb, hnc⟩ := name_ev (mk nm) (by rw [mk_size]; omega)
    have hnb' : Ev (fun k => lodestarref04_name.f k (mk nm)) nb := Ev.congr (fun k => same_name k (mk nm) 0) hnb
    have hfield : ∀ {r : ByteArray × ByteArray × Bool}, Ev (fun k => if nb = true then (strings_ContainsAny.f (mk v) (⟨#[10, 13, 0]⟩ : ByteArray)).bind fun t155 => http_field.j0 k (mk nm) (mk v) t155 else http_field.j0 k (mk nm) (mk v) true) r → Ev (fun k => http_field.f k l) r := fun h => by
      refine Ev.congr (g := fun k => (http_name.f k (mk nm)).bind fun t154 => if t154 = true then (strings_ContainsAny.f (mk v) (⟨#[10, 13, 0]⟩ : ByteArray)).bind fun t155 => http_field.j0 k (mk nm) (mk v) t155 else http_field.j0 k (mk nm) (mk v) true) (fun k => ?_) (Ev.bind hnb h)
      unfold http_field.f
      rw [hcutf]
      simp only [Option.bind_some, if_true]
    have hline : ∀ {r : Int × Int}, Ev (fun k => if nb = true then ((lodestarref04_find.f k l (⟨#[10]⟩ : ByteArray) 0).bind fun t220 => (if t220 ≥ 0 then (lodestarref04_line.j0 k l had (i : Int) true) else ((lodestarref04_find.f k l (⟨#[13]⟩ : ByteArray) 0).bind fun t221 => (if t221 ≥ 0 then (lodestarref04_line.j0 k l had (i : Int) true) else ((lodestarref04_find.f k l (⟨#[0]⟩ : ByteArray) 0).bind fun t222 => (lodestarref04_line.j0 k l had (i : Int) (decide (t222 ≥ 0)))))))) else (lodestarref04_line.j0 k l had (i : Int) true)) r → Ev (fun k => lodestarref04_line.f k l had) r := fun h => by
      refine Ev.congr (fun k => rfl) (Ev.bind E1 ?_)
      simp only [if_neg (show ¬ ((i : Nat) : Int) < 0 by omega), if_pos (show 0 ≤ ((i : Nat) : Int) by omega), if_pos (show ((i : Nat) : Int) ≤ (l.size : Int) by omega), show ((i : Int)).toNat = i by omega, e1]
      exact Ev.bind hnb' h
    cases nb with
    | false =>
      refine ⟨-1, 40, hline ?_, says_bad (a := E0) (b := E0) (hfield ?_)⟩
      · simp only [if_neg (show ¬ (false = true) by decide)]
        exact line_j0_true l had _
      · simp only [if_neg (show ¬ (false = true) by decide)]
        exact field_j0_true _ _
    | true =>
      simp only [if_true] at hfield hline
      have hnc' := hnc rfl
      have hnbad : ∀ c ∈ nm, ¬ badC c := fun c hc hb => by
        have := hnc' c hc
        rcases hb with rfl | rfl | rfl <;> (revert this; unfold nameC nameP; decide)
      have hmem : ∀ c : UInt8, badC c → (c ∈ l.data.toList ↔ c ∈ v) := fun c hb => by
        rw [hcut]
        refine ⟨fun h => ?_, fun h => List.mem_append.2 (.inr (List.mem_append.2 (.inr h)))⟩
        rcases List.mem_append.1 h with h | h
        · exact absurd hb (hnbad c h)
        rcases List.mem_append.1 h with h | h
        · simp at h
          subst h
          rcases hb with h | h | h <;> exact absurd h (by decide)
        · exact h
      obtain ⟨cb, hcb⟩ : ∃ cb, Lib.containsAny v [10, 13, 0] = cb := ⟨_, rfl⟩
      have hcf : strings_ContainsAny.f (mk v) (⟨#[10, 13, 0]⟩ : ByteArray) = some cb := by
        unfold strings_ContainsAny.f
        rw [if_pos ⟨by rw [mk_size]; omega, rfl⟩, ← hcb]
        rfl
      rw [hcf] at hfield
      simp only [Option.bind_some] at hfield
      obtain ⟨f1, G1, Q1⟩ := find_ev l (⟨#[10]⟩ : ByteArray) (by decide) (by decide) hs 0 (by omega)
      obtain ⟨f2, G2, Q2⟩ := find_ev l (⟨#[13]⟩ : ByteArray) (by decide) (by decide) hs 0 (by omega)
      obtain ⟨f3, G3, Q3⟩ := find_ev l (⟨#[0]⟩ : ByteArray) (by decide) (by decide) hs 0 (by omega)
      have b1 := (find_byte Q1).trans (hmem 10 (.inl rfl))
      have b2 := (find_byte Q2).trans (hmem 13 (.inr (.inl rfl)))
      have b3 := (find_byte Q3).trans (hmem 0 (.inr (.inr rfl)))
      have hline2 : ∀ {r : Int × Int}, Ev (fun k => lodestarref04_line.j0 k l had (i : Int) cb) r → Ev (fun k => lodestarref04_line.f k l had) r := fun h => by
        refine hline (Ev.bind G1 ?_)
        by_cases x1 : f1 ≥ 0
        · simp only [if_pos x1]
          have : cb = true := by rw [← hcb]; exact (contains_bad v).2 ⟨10, b1.1 x1, .inl rfl⟩
          rw [this] at h
          exact h
        · simp only [if_neg x1]
          refine Ev.bind G2 ?_
          by_cases x2 : f2 ≥ 0
          · simp only [if_pos x2]
            have : cb = true := by rw [← hcb]; exact (contains_bad v).2 ⟨13, b2.1 x2, .inr (.inl rfl)⟩
            rw [this] at h
            exact h
          · simp only [if_neg x2]
            refine Ev.bind G3 ?_
            have : decide (f3 ≥ 0) = cb := by
              by_cases x3 : f3 ≥ 0
              · rw [decide_eq_true x3, ← hcb]
                exact ((contains_bad v).2 ⟨0, b3.1 x3, .inr (.inr rfl)⟩).symm
              · rw [decide_eq_false x3, ← hcb]
                symm
                apply Bool.eq_false_iff.2
                intro ht
                obtain ⟨c, hc, hb⟩ := (contains_bad v).1 ht
                rcases hb with rfl | rfl | rfl
                · exact x1 (b1.2 hc)
                · exact x2 (b2.2 hc)
                · exact x3 (b3.2 hc)
            rw [this]
            exact h
      cases cb with
      | true => exact ⟨-1, 40, hline2 (line_j0_true l had _), says_bad (a := E0) (b := E0) (hfield (field_j0_true _ _))⟩
      | false =>
        have hna : ∀ c ∈ nm, c.toNat < 128 := fun c hc => by
          have := hnc' c hc
          unfold nameC nameP at this
          omega
        have hfl : Ev (fun k => http_field.f k l) (mk (Lib.toLowerA nm), mk (Lib.trimS v [32, 9]), true) := by
          refine hfield (Ev.succ (g := fun _ => some (mk (Lib.toLowerA nm), mk (Lib.trimS v [32, 9]), true)) (fun k => ?_) (Ev.const fun _ => rfl))
          simp only [http_field.j0]
          rw [if_neg (by decide), show mk nm = ⟨nm.toArray⟩ from rfl, lower_f (by omega) hna, show mk v = ⟨v.toArray⟩ from rfl, trim_f (by omega)]
          rfl
        have hlow : (mk (Lib.toLowerA nm)).toList = Lib.toLowerA nm := by rw [Lib.toList_data]; rfl
        have hsm : lodestarref04_small.f (mk nm) = some (mk (Lib.toLowerA nm)) := by
          unfold lodestarref04_small.f
          rw [if_pos (by rw [mk_size]; omega)]
          rfl
        have hj0 : ∀ k, lodestarref04_line.j0 (k + 1) l had (i : Int) false = if Lib.toLowerA nm = te then some (-1, 40) else if Lib.toLowerA nm = cl then ((lodestarref04_bare.f k (mk v)).bind fun t224 => ((lodestarref04_number.f k t224).bind fun bt225 => (if bt225.2 = true then (lodestarref04_line.j1 k bt225.1 had) else (lodestarref04_line.j1 k bt225.1 true)))) else some (-1, 0) := fun k => by
          simp only [lodestarref04_line.j0]
          rw [if_neg (by decide), if_pos (by omega), if_pos (by omega), show ((i : Int)).toNat = i by omega, e1, hsm]
          simp only [Option.bind_some, hlow, wrap_next i (by omega), if_pos (show 0 ≤ ((i + 1 : Nat) : Int) by omega), if_pos (show ((i + 1 : Nat) : Int) ≤ (l.size : Int) by omega), show ((i + 1 : Nat) : Int).toNat = i + 1 by omega, e2]
          rfl
        by_cases hte : Lib.toLowerA nm = te
        · refine ⟨-1, 40, hline2 (Ev.succ (g := fun _ => some (-1, 40)) (fun k => by rw [hj0, if_pos hte]) (Ev.const fun _ => rfl)), ?_⟩
          intro body size ls i' p q e' r h0 hl hi hr
          rw [if_neg (show ¬ ((40 : Int) = 0) by decide)] at hr
          subst hr
          refine step_line h0 hl hi hfl ?_
          rw [if_pos rfl, hlow, if_pos hte]
          exact j3_bad
        · by_cases hcl : Lib.toLowerA nm = cl
          · obtain ⟨K, e, N, ok, hK, hN, hrel⟩ := len_both (mk (Lib.trimS v [32, 9])) (by
              rw [mk_size, trimS_blank]
              have h1 : (rdrop blankB (v.dropWhile blankB)).length ≤ (v.dropWhile blankB).length := by
                unfold rdrop
                rw [List.length_reverse]
                exact Nat.le_trans (List.dropWhile_sublist _).length_le (by rw [List.length_reverse]; exact Nat.le_refl _)
              have h2 : (v.dropWhile blankB).length ≤ v.length := (List.dropWhile_sublist _).length_le
              omega)
            have hb : Ev (fun k => lodestarref04_bare.f k (mk v)) (mk (Lib.trimS v [32, 9])) := bare_ev v (by omega)
            obtain ⟨out, hout⟩ : ∃ out : Int × Int, out = if ok = true then (if had = true then (-1, 40) else if N > 262144 then (-1, 41) else (N, 0)) else (-1, 40) := ⟨_, rfl⟩
            have hl2 : Ev (fun k => lodestarref04_line.f k l had) out := by
              refine hline2 (Ev.succ (fun k => by rw [hj0, if_neg hte, if_pos hcl]) (Ev.bind hb (Ev.bind hN ?_)))
              rw [hout]
              cases ok with
              | true =>
                simp only [if_true]
                exact line_j1 N had
              | false =>
                simp only [if_neg (show ¬ (false = true) by decide)]
                exact line_j1 N true
            refine ⟨out.1, out.2, hl2, ?_⟩
            intro body size ls i' p q e' r h0 hl hi hr
            refine step_line h0 hl hi hfl ?_
            rw [if_pos rfl, hlow, if_neg hte, if_pos hcl]
            cases had with
            | true =>
              have ho : out = (-1, 40) := by rw [hout]; cases ok <;> rfl
              rw [ho, if_neg (show ¬ ((40 : Int) = 0) by decide)] at hr
              subst hr
              exact j3_bad
            | false =>
              have hle : ls.length ≤ 4294967296 := hl
              have hi' : i' ≤ 4294967296 := by
                have := (List.getElem?_eq_some_iff.1 hi).1
                omega
              refine j3_len hi' (by rw [hlow]; exact hcl) hK ?_
              rcases hrel with ⟨rfl, rfl⟩ | ⟨rfl, hg, rfl⟩ | ⟨rfl, hn0, hn1, rfl, rfl⟩
              · have ho : out = (-1, 40) := by rw [hout]; rfl
                rw [ho, if_neg (show ¬ ((40 : Int) = 0) by decide)] at hr
                rw [if_neg (by decide)]
                exact hr
              · have ho : out = (-1, 41) := by rw [hout, if_pos rfl, if_neg (by decide), if_pos hg]
                rw [ho, if_neg (show ¬ ((41 : Int) = 0) by decide)] at hr
                rw [if_neg (by decide)]
                exact hr
              · have ho : out = (K, 0) := by rw [hout, if_pos rfl, if_neg (by decide), if_neg (by omega)]
                rw [ho, if_pos rfl, if_pos (show K ≥ 0 from hn0)] at hr
                rw [if_pos rfl]
                exact hr
          · refine ⟨-1, 0, hline2 (Ev.succ (g := fun _ => some (-1, 0)) (fun k => by rw [hj0, if_neg hte, if_neg hcl]) (Ev.const fun _ => rfl)), ?_⟩
            intro body size ls i' p q e' r h0 hl hi hr
            rw [if_pos rfl, if_neg (by decide)] at hr
            have hi' : i' ≤ 4294967296 := by
              have := (List.getElem?_eq_some_iff.1 hi).1
              omega
            refine step_line h0 hl hi hfl ?_
            rw [if_pos rfl, hlow, if_neg hte, if_neg hcl]
            exact j3_skip hi' (by rw [hlow]; exact hcl) hr
end Go.Proofs.YteeiljjjgkinhaaGreatDoor.PHttpFL
