import Derived.Test.YteeiljjjgkinhaaGreatDoorHtO
namespace Go.Proofs.YteeiljjjgkinhaaGreatDoor.PHttpFL
open Go.RowKit Go.Proofs.YteeiljjjgkinhaaGreatDoor.PHttpF Go.Proofs.YteeiljjjgkinhaaGreatDoor.HtLists Go.Proofs.YteeiljjjgkinhaaGreatDoorW.PrintWords Go.Proofs.YteeiljjjgkinhaaGreatDoorW.PrintLast Go.Proofs.YteeiljjjgkinhaaGreatDoorW.PrintMore
set_option linter.unusedVariables false
set_option linter.unusedSimpArgs false

/-! ### lines one behind the other -/
theorem occ_drop (X t : List UInt8) (a b : Nat) : Lib.occAt (X.drop b) t a = Lib.occAt X t (b + a) := by
  unfold Lib.occAt
  rw [List.drop_drop]
theorem occ_pre (X Z t : List UInt8) (a : Nat) (h : a + t.length ≤ X.length) : Lib.occAt (X ++ Z) t a = Lib.occAt X t a := by
  rw [Lib.occAt_iff_take _ _ _ (by rw [List.length_append]; omega), Lib.occAt_iff_take _ _ _ h, List.drop_append_of_le_length (by omega), List.take_append_of_le_length (by rw [List.length_drop]; omega)]
theorem occ_end (X rest : List UInt8) : Lib.occAt (X ++ (crlf2 ++ rest)) crlf X.length = true := by
  have : X ++ (crlf2 ++ rest) = X ++ (crlf ++ (crlf ++ rest)) := by simp [crlf, crlf2]
  rw [this]
  exact occ_at X crlf _
theorem next_line {s : ByteArray} {X rest : List UInt8} (hd : s.data.toList = X ++ (crlf2 ++ rest)) {b : Nat} (hb : b ≤ X.length) {r : Int} (h : FindAt s.data.toList crlf b r) :
    ∃ (a : Nat) (P : List UInt8), r = (a : Int) ∧ b ≤ a ∧ a ≤ X.length ∧ s.extract b a = mk P ∧ ((a = X.length ∧ spl crlf (X.drop b) = [P]) ∨ (a + 2 ≤ X.length ∧ spl crlf (X.drop b) = P :: spl crlf (X.drop (a + 2)))) := by
  rw [hd] at h
  have hE := occ_end X rest
  rcases h with ⟨e, h⟩ | ⟨a, e, h1, h2, h3, h4⟩
  · rw [h X.length hb] at hE
    cases hE
  · have haE : a ≤ X.length := by
      rcases Nat.lt_or_ge X.length a with hlt | hge
      · have := h4 X.length hb hlt
        rw [hE] at this
        cases this
      · exact hge
    have hP : s.extract b a = mk ((X.drop b).take (a - b)) := by
      apply ba_ext
      rw [extract_data, hd, List.drop_append_of_le_length (by omega), List.take_append_of_le_length (by rw [List.length_drop]; omega)]
      rfl
    refine ⟨a, (X.drop b).take (a - b), e, h1, haE, hP, ?_⟩
    have hsmall : ∀ j, b ≤ j → j < a → j + 2 ≤ X.length → Lib.occAt X crlf j = false := fun j g1 g2 g3 => by
      have := h4 j g1 g2
      rw [occ_pre X _ crlf j (by show j + 2 ≤ _; exact g3)] at this
      exact this
    by_cases hlast : a + 2 ≤ X.length
    · right
      refine ⟨hlast, ?_⟩
      have ho : Lib.occAt X crlf a = true := by
        rw [← occ_pre X _ crlf a (by show a + 2 ≤ _; exact hlast)]
        exact h3
      have hi : Lib.index (X.drop b) crlf = ((a - b : Nat) : Int) := by
        refine Lib.index_first (by rw [List.length_drop]; omega) (by rw [occ_drop, show b + (a - b) = a by omega]; exact ho) fun j hj => ?_
        rw [occ_drop]
        exact hsmall (b + j) (by omega) (by omega) (by omega)
      rw [spl_hit crlf _ (a - b) (by simp [crlf]) hi, List.drop_drop, show b + (a - b + crlf.length) = a + 2 by show b + (a - b + 2) = a + 2; omega]
    · left
      have hae : a = X.length := by
        have g0 := occ_get h3 0 (by simp [crlf])
        have g1 := occ_get h3 1 (by simp [crlf])
        rcases Nat.lt_or_ge a X.length with hlt | hge
        · exfalso
          have ea : a + 1 = X.length := by omega
          rw [ea, List.getElem?_append_right (Nat.le_refl _), Nat.sub_self] at g1
          simp [crlf, crlf2] at g1
        · omega
      refine ⟨hae, ?_⟩
      have hi : Lib.index (X.drop b) crlf = -1 := by
        refine Lib.index_none fun j hj => ?_
        cases ho : Lib.occAt (X.drop b) crlf j with
        | false => rfl
        | true =>
          exfalso
          have hroom : j + 2 ≤ (X.drop b).length := by
            rcases Lib.occAt_room ho with h' | h'
            · exact h'
            · simp [crlf] at h'
          rw [List.length_drop] at hroom
          rw [occ_drop] at ho
          rw [hsmall (b + j) (by omega) (by omega) (by omega)] at ho
          cases ho
      rw [spl_miss crlf _ hi]
      congr 1
      rw [List.take_of_length_le (by rw [List.length_drop]; omega)]

/-! ### both loops -/
theorem drop_get {ls : List ByteArray} {i : Nat} {x : ByteArray} {t : List ByteArray} (h : ls.drop i = x :: t) : ls[i]? = some x ∧ ls.drop (i + 1) = t := by
  constructor
  · have : (ls.drop i)[0]? = some x := by rw [h]; rfl
    rw [List.getElem?_drop, Nat.add_zero] at this
    exact this
  · have : (ls.drop i).drop 1 = t := by rw [h]; rfl
    rw [List.drop_drop] at this
    exact this
theorem both_loop {s : ByteArray} {X rest : List UInt8} (hs : s.size ≤ 1073741824) (hd : s.data.toList = X ++ (crlf2 ++ rest)) {ls : List ByteArray} (hls : ls.length ≤ 4294967296) (p q : ByteArray) :
    ∀ (n a i : Nat) (size : Int) (had : Bool), X.length - a ≤ n → 0 < i → a ≤ X.length → ((a = X.length ∧ ls.drop i = []) ∨ (a + 2 ≤ X.length ∧ ls.drop i = (spl crlf (X.drop (a + 2))).map mk)) → i ≤ ls.length →
      ∃ r, Ev (fun k => lodestarref04_Parse.l0 k s (X.length : Int) (a : Int) size had p q E0) r ∧ PL (mk rest) size had ls i p q E0 r := by
  have hsz : s.size = X.length + 4 + rest.length := by
    rw [← size_len, hd]
    simp [crlf2]
    omega
  have hbody : s.extract (X.length + 4) s.size = mk rest := by
    have e : s.data.toList = (X ++ crlf2) ++ rest := by rw [hd, List.append_assoc]
    have := ext_right s _ _ e
    rwa [show (X ++ crlf2).length = X.length + 4 by simp [crlf2]] at this
  intro n
  induction n with
  | zero =>
    intro a i size had hn hi ha hrel hil
    have hae : a = X.length := by omega
    have hdr : ls.drop i = [] := by
      rcases hrel with ⟨_, h⟩ | ⟨h, _⟩
      · exact h
      · omega
    have hieq : i = ls.length := by
      have := congrArg List.length hdr
      rw [List.length_drop, List.length_nil] at this
      omega
    subst hae
    subst hieq
    refine ⟨_, ?_, step_end (body := mk rest) (size := size) (seen := had) (p := p) (q := q) (e := E0)⟩
    refine Ev.succ (g := fun _ => some (if ((mk rest).size : Int) = size then (p, q, mk rest, 0) else (E0, E0, E0, 40))) (fun k => ?_) (Ev.const fun _ => rfl)
    conv => lhs; unfold lodestarref04_Parse.l0
    rw [if_neg (by omega), wrap_small ((s.size : Int) - (X.length : Int)) (by omega) (by omega), wrap_small _ (by omega) (by omega), wrap_small ((X.length : Int) + 4) (by omega) (by omega), show ((X.length : Int) + 4).toNat = X.length + 4 by omega, hbody]
    have em : ((s.size : Int) - (X.length : Int) - 4) = ((mk rest).size : Int) := by rw [mk_size]; omega
    rw [em]
    by_cases hq : ((mk rest).size : Int) = size
    · rw [if_pos hq, if_pos hq, if_pos (by omega), if_pos (by omega)]
    · rw [if_neg hq, if_neg hq]
  | succ n ih =>
    intro a i size had hn hi ha hrel hil
    rcases hrel with ⟨hae, hdr⟩ | ⟨ha2, hdr⟩
    · exact ih a i size had (by omega) hi ha (.inl ⟨hae, hdr⟩) hil
    · obtain ⟨r1, E1, F1⟩ := find_ev s (⟨#[13, 10]⟩ : ByteArray) (by decide) (by decide) hs (a + 2) (by omega)
      obtain ⟨a', P, e1, hb, ha', hP, hcase⟩ := next_line hd ha2 (show FindAt s.data.toList crlf (a + 2) r1 from F1)
      subst e1
      have hPs : (mk P).size ≤ 1073741824 := by
        rw [← hP]
        rw [ByteArray.size_extract]
        omega
      obtain ⟨N, e, hline, hsays⟩ := line_both (mk P) hPs had
      have hget : ls[i]? = some (mk P) ∧ ((a' = X.length ∧ ls.drop (i + 1) = []) ∨ (a' + 2 ≤ X.length ∧ ls.drop (i + 1) = (spl crlf (X.drop (a' + 2))).map mk)) := by
        rcases hcase with ⟨hae, hspl⟩ | ⟨hae, hspl⟩
        · rw [hspl] at hdr
          have := drop_get (show ls.drop i = mk P :: [] from hdr)
          exact ⟨this.1, .inl ⟨hae, this.2⟩⟩
        · rw [hspl] at hdr
          have := drop_get (show ls.drop i = mk P :: (spl crlf (X.drop (a' + 2))).map mk from hdr)
          exact ⟨this.1, .inr ⟨hae, this.2⟩⟩
      have hilt : i < ls.length := (List.getElem?_eq_some_iff.1 hget.1).1
      have hstep : ∀ {r : ByteArray × ByteArray × ByteArray × Int}, Ev (fun k => if e = 0 then (if N ≥ 0 then (lodestarref04_Parse.l0 k s (X.length : Int) (a' : Int) N true p q E0) else (lodestarref04_Parse.l0 k s (X.length : Int) (a' : Int) size had p q E0)) else (some (E0, E0, E0, e))) r → Ev (fun k => lodestarref04_Parse.l0 k s (X.length : Int) (a : Int) size had p q E0) r := fun {r} h => by
        refine Ev.succ (g := fun k => (lodestarref04_find.f k s (⟨#[13, 10]⟩ : ByteArray) ((a + 2 : Nat) : Int)).bind fun t235 => (if 0 ≤ ((a + 2 : Nat) : Int) then (if ((a + 2 : Nat) : Int) ≤ t235 then (if t235 ≤ (s.size : Int) then ((lodestarref04_line.f k (s.extract (a + 2) (t235 : Int).toNat) had).bind fun bt236 => (if bt236.2 = 0 then (if bt236.1 ≥ 0 then (lodestarref04_Parse.l0 k s (X.length : Int) t235 bt236.1 true p q E0) else (lodestarref04_Parse.l0 k s (X.length : Int) t235 size had p q E0)) else (some (E0, E0, E0, bt236.2)))) else (none)) else (none)) else (none))) (fun k => ?_) ?_
        · conv => lhs; unfold lodestarref04_Parse.l0
          rw [if_pos (by omega), show wrap64 ((a : Int) + 2) = ((a + 2 : Nat) : Int) by rw [wrap_small _ (by omega) (by omega)]; omega, show ((a + 2 : Nat) : Int).toNat = a + 2 by omega]
        · refine Ev.bind E1 ?_
          simp only [if_pos (show 0 ≤ ((a + 2 : Nat) : Int) by omega), if_pos (show ((a + 2 : Nat) : Int) ≤ (a' : Int) by omega), if_pos (show ((a' : Nat) : Int) ≤ (s.size : Int) by omega), show ((a' : Int)).toNat = a' by omega, hP]
          exact Ev.bind hline h
      by_cases he : e = 0
      · by_cases hN : N ≥ 0
        · obtain ⟨r, h1, h2⟩ := ih a' (i + 1) N true (by omega) (by omega) ha' hget.2 (by omega)
          refine ⟨r, hstep ?_, hsays hi hls hget.1 ?_⟩
          · simp only [if_pos he, if_pos hN]
            exact h1
          · rw [if_pos he, if_pos hN]
            exact h2
        · obtain ⟨r, h1, h2⟩ := ih a' (i + 1) size had (by omega) (by omega) ha' hget.2 (by omega)
          refine ⟨r, hstep ?_, hsays hi hls hget.1 ?_⟩
          · simp only [if_pos he, if_neg hN]
            exact h1
          · rw [if_pos he, if_neg hN]
            exact h2
      · refine ⟨(E0, E0, E0, e), hstep ?_, hsays hi hls hget.1 ?_⟩
        · simp only [if_neg he]
          exact Ev.const fun _ => rfl
        · rw [if_neg he]
theorem parse_both (s : ByteArray) (hs : s.size ≤ 1073741824) : ∃ r, Ev (fun k => http_Parse.f k s) r ∧ Ev (fun k => lodestarref04_Parse.f k s) r := by
  obtain ⟨r1, E1, F1⟩ := find_ev s (⟨#[13, 10, 13, 10]⟩ : ByteArray) (by decide) (by decide) hs 0 (by omega)
  have hx : Lib.index s.data.toList crlf2 = r1 := find_index F1
  have F1' : FindAt s.data.toList crlf2 0 r1 := F1
  rcases F1' with ⟨e, h⟩ | ⟨E, e, h1, h2, h3, h4⟩
  · subst e
    refine ⟨_, parse_none (by omega) hx, ?_⟩
    refine Ev.congr (fun k => rfl) (Ev.bind E1 ?_)
    simp only [if_pos (show (-1 : Int) < 0 by decide)]
    by_cases hg : (s.size : Int) > 4096
    · simp only [if_pos hg]
      exact Ev.const fun _ => rfl
    · simp only [if_neg hg]
      exact Ev.const fun _ => rfl
  · subst e
    have h2' : E + 4 ≤ s.size := by
      have h : E + 4 ≤ s.data.toList.length := h2
      rwa [size_len] at h
    have hw : wrap64 ((E : Int) + 4) = ((E + 4 : Nat) : Int) := by rw [wrap_small _ (by omega) (by omega)]; omega
    by_cases hbig : E + 4 > 4096
    · refine ⟨_, parse_large (by omega) hx (by omega) (by omega), ?_⟩
      refine Ev.congr (fun k => rfl) (Ev.bind E1 ?_)
      simp only [if_neg (show ¬ ((E : Nat) : Int) < 0 by omega), hw, if_pos (show ((E + 4 : Nat) : Int) > 4096 by omega)]
      exact Ev.const fun _ => rfl
    · obtain ⟨X, hX⟩ : ∃ X, s.data.toList.take E = X := ⟨_, rfl⟩
      obtain ⟨rest, hrest⟩ : ∃ rest, s.data.toList.drop (E + 4) = rest := ⟨_, rfl⟩
      have hXl : X.length = E := by rw [← hX, List.length_take, size_len]; omega
      have hd : s.data.toList = X ++ (crlf2 ++ rest) := by
        have g : (s.data.toList.drop E).take 4 = crlf2 := by
          have := Lib.occAt_iff_take s.data.toList crlf2 E (by rw [size_len]; exact h2')
          rw [h3] at this
          have h5 := this.symm
          exact beq_iff_eq.1 h5
        have g2 : s.data.toList.drop E = crlf2 ++ rest := by
          rw [← g, ← hrest, ← List.drop_drop, List.take_append_drop]
        rw [← hX, ← g2, List.take_append_drop]
      subst hXl
      obtain ⟨r2, E2, F2⟩ := find_ev s (⟨#[13, 10]⟩ : ByteArray) (by decide) (by decide) hs 0 (by omega)
      obtain ⟨a, P, e2, hb, ha, hP, hcase⟩ := next_line hd (Nat.zero_le _) (show FindAt s.data.toList crlf 0 r2 from F2)
      subst e2
      have hPs : (mk P).size ≤ 1073741824 := by
        rw [← hP, ByteArray.size_extract]
        omega
      obtain ⟨m, p, ok, m', p', hf, hrf, hok⟩ := first_both (mk P) hPs
      obtain ⟨ls, hlsd⟩ : ∃ ls, (spl crlf X).map mk = ls := ⟨_, rfl⟩
      have hsp : strings_Split.f (s.extract 0 X.length) (⟨#[13, 10]⟩ : ByteArray) = some ls := by
        have hex : (s.extract 0 X.length).data.toList = X := extract_left s X _ hd
        rw [split_f _ _ (by rw [← size_len, hex]; omega) (by decide), hex, ← hlsd]
        rfl
      have hget : ls[0]? = some (mk P) ∧ ((a = X.length ∧ ls.drop 1 = []) ∨ (a + 2 ≤ X.length ∧ ls.drop 1 = (spl crlf (X.drop (a + 2))).map mk)) := by
        rw [List.drop_zero] at hcase
        rcases hcase with ⟨hae, hspl⟩ | ⟨hae, hspl⟩
        · rw [hspl] at hlsd
          subst hlsd
          exact ⟨rfl, .inl ⟨hae, rfl⟩⟩
        · rw [hspl] at hlsd
          subst hlsd
          exact ⟨rfl, .inr ⟨hae, rfl⟩⟩
      have hlsl : ls.length ≤ 4294967296 := by
        rw [← hlsd, List.length_map]
        have : (spl crlf X).length ≤ Lib.count X crlf + 1 := by
          have h := Lib.splitB_length_le (mk crlf) 0 (Lib.count X crlf) (mk X)
          have hm := congrArg List.length (Lib.splitB_data (mk crlf) 0 (Lib.count X crlf) (mk X))
          rw [List.length_map] at hm
          rw [hm] at h
          exact h
        have h2 := Lib.count_le X crlf
        omega
      have h1len : 1 ≤ ls.length := (List.getElem?_eq_some_iff.1 hget.1).1
      have hbody : s.extract (X.length + 4) s.size = mk rest := by
        have e : s.data.toList = (X ++ crlf2) ++ rest := by rw [hd, List.append_assoc]
        have := ext_right s _ _ e
        rwa [show (X ++ crlf2).length = X.length + 4 by simp [crlf2]] at this
      have hpa : ∀ {r}, PL (mk rest) 0 false ls 0 E0 E0 E0 r → Ev (fun k => http_Parse.f k s) r := fun h => parse_at (E := X.length) (by omega) hx h2' (by omega) hsp (by rw [hbody]; exact h)
      have href : ∀ {r : ByteArray × ByteArray × ByteArray × Int}, Ev (fun k => if ok = true then (lodestarref04_Parse.l0 k s (X.length : Int) (a : Int) 0 false m' p' E0) else (some (E0, E0, E0, 40))) r → Ev (fun k => lodestarref04_Parse.f k s) r := fun h => by
        refine Ev.congr (fun k => rfl) (Ev.bind E1 ?_)
        simp only [if_neg (show ¬ ((X.length : Nat) : Int) < 0 by omega), hw, if_neg (show ¬ ((X.length + 4 : Nat) : Int) > 4096 by omega)]
        refine Ev.bind E2 ?_
        simp only [if_pos (show 0 ≤ ((a : Nat) : Int) by omega), if_pos (show ((a : Nat) : Int) ≤ (s.size : Int) by omega), show ((a : Int)).toNat = a by omega, hP]
        exact Ev.bind hrf h
      cases ok with
      | false =>
        rw [if_neg (show ¬ (false = true) by decide)] at hf
        refine ⟨(E0, E0, E0, 40), hpa (step_bad0 hget.1 hf), href ?_⟩
        simp only [if_neg (show ¬ (false = true) by decide)]
        exact Ev.const fun _ => rfl
      | true =>
        obtain ⟨rfl, rfl⟩ := hok rfl
        rw [if_pos rfl] at hf
        obtain ⟨r, hr1, hr2⟩ := both_loop hs hd hlsl m' p' (X.length - a) a 1 0 false (Nat.le_refl _) (by omega) ha hget.2 h1len
        refine ⟨r, hpa (step0 hget.1 hf hr2), href ?_⟩
        simp only [if_true]
        exact hr1
theorem parses_plain (s : ByteArray) (hs : s.size ≤ 1073741824) : ∃ k, lodestarlaw04_HttpParses.f k s = some true := by
  obtain ⟨r, h1, h2⟩ := parse_both s hs
  refine Ev.get (f := fun k => lodestarlaw04_HttpParses.f k s) (Ev.congr (fun k => rfl) (Ev.bind h1 (Ev.bind h2 ?_)))
  simp only [beq_self_eq_true, Bool.and_self, if_true]
  exact sure_some
end Go.Proofs.YteeiljjjgkinhaaGreatDoor.PHttpFL
