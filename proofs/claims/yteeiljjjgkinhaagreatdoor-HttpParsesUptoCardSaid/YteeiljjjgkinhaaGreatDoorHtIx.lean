import Derived.Shelf.Strings.IndexAnyAll
import Derived.Lib.SpaceUEq
import Derived.Lib.MapLaws
import Derived.Lib.TrimU
import Derived.Lib.OthersKept
import Derived.Scope
import Derived.Shelf.RegionOpenPlain
import Derived.WalkMore
import Derived.Laws.Runes
import Derived.Shelf.Small.Utf8
namespace Go.Proofs.YteeiljjjgkinhaaGreatDoor.HtIx
open Go.Shelf Go.RowKit Go.Lib
variable {P : Program} {ρ : Ren}

/-- behind a byte above the ASCII a rune above it is read, and all its bytes lie above it -/
theorem dec_high (s : ByteArray) (pos : Nat) (hp : pos < s.size) (h : 128 ≤ (s.data.toList.getD pos 0).toNat) :
    128 ≤ (Utf8.decode s pos).1 ∧ (Utf8.decode s pos).1 ≤ 1114111 ∧ pos + (Utf8.decode s pos).2 ≤ s.size ∧ ∀ (j : Nat) (b : UInt8), pos ≤ j → j < pos + (Utf8.decode s pos).2 → s.data.toList[j]? = some b → 128 ≤ b.toNat := by
  have hlen : s.data.toList.length = s.size := by rw [Array.length_toList]; rfl
  rw [decode_N s pos, hlen]
  have hs := decodeN_shape (s.size - pos) (s.data.toList.getD pos 0).toNat (s.data.toList.getD (pos + 1) 0).toNat (s.data.toList.getD (pos + 2) 0).toNat (s.data.toList.getD (pos + 3) 0).toNat
  have get : ∀ (j : Nat) (b : UInt8), s.data.toList[j]? = some b → s.data.toList.getD j 0 = b := fun j b hb => by rw [List.getD_eq_getElem?_getD, hb]; rfl
  rcases hs with ⟨h1, e⟩ | ⟨h1, h2, h3, h4, e⟩ | ⟨h1, h2, h3, h4, h5, h6, e⟩ | ⟨h1, h2, h3, h4, h5, h6, h7, e⟩ | e
  · omega
  · rw [e]
    refine ⟨by simp only; omega, by simp only; omega, by simp only; omega, fun j b hj1 hj2 hb => ?_⟩
    simp only at hj2
    have hg := congrArg UInt8.toNat (get j b hb)
    rcases (show j = pos ∨ j = pos + 1 by omega) with rfl | rfl <;> omega
  · rw [e]
    refine ⟨by simp only; omega, by simp only; omega, by simp only; omega, fun j b hj1 hj2 hb => ?_⟩
    simp only at hj2
    have hg := congrArg UInt8.toNat (get j b hb)
    rcases (show j = pos ∨ j = pos + 1 ∨ j = pos + 2 by omega) with rfl | rfl | rfl <;> omega
  · rw [e]
    refine ⟨by simp only; omega, by simp only; omega, by simp only; omega, fun j b hj1 hj2 hb => ?_⟩
    simp only at hj2
    have hg := congrArg UInt8.toNat (get j b hb)
    rcases (show j = pos ∨ j = pos + 1 ∨ j = pos + 2 ∨ j = pos + 3 by omega) with rfl | rfl | rfl | rfl <;> omega
  · rw [e]
    refine ⟨by simp only; omega, by simp only; omega, by simp only; omega, fun j b hj1 hj2 hb => ?_⟩
    simp only at hj2
    obtain rfl : j = pos := by omega
    have hg := get j b hb
    rw [hg] at h
    exact h

/-- a scope over a whole body: no goto comes out of a body -/
theorem wp_scope_body {fn : Func} {R : Ending → World → Prop} {c : Code} {a : Act} {w : World} (h : c.wp P (bodyPost P fn R) a w) : (Code.scope c).wp P (bodyPost P fn R) a w := wp_scope_straight (by
  intro b k cs
  obtain ⟨e, a1, w1, hq, harr⟩ := h b k cs
  exact ⟨e, a1, w1, by cases e <;> exact hq, harr⟩)
theorem wp_scope_in {fn : Func} {R : Ending → World → Prop} {c : Code} {a : Act} {w : World} {n : Nat} (h : c.wp P (Exit.inBlock n (bodyPost P fn R)) a w) : (Code.scope c).wp P (Exit.inBlock n (bodyPost P fn R)) a w := wp_scope_straight (by
  intro b k cs
  obtain ⟨e, a1, w1, hq, harr⟩ := h b k cs
  exact ⟨e, a1, w1, by cases e <;> exact hq, harr⟩)
theorem indexByte_ge' : ∀ (l : List UInt8) (c : UInt8), -1 ≤ Lib.indexByte l c := fun l c => by
  induction l with
  | nil => simp [Lib.indexByte]
  | cons b l ih =>
    simp only [Lib.indexByte]
    split
    · omega
    · split <;> omega
theorem ofNat_high (n : Nat) (h0 : 128 ≤ n) (h1 : n < 256) : 128 ≤ (UInt8.ofNat n).toNat := by simp; omega
theorem enc_high (r : Int) (h0 : 128 ≤ r) (h1 : r ≤ 1114111) (hv : Utf8.valid r = true) : ∃ rs : ByteArray, Utf8.encode r = rs ∧ (rs.size = 2 ∨ rs.size = 3 ∨ rs.size = 4) ∧ 128 ≤ (rs.get! (rs.size - 1)).toNat := by
  refine ⟨_, rfl, ?_⟩
  unfold Utf8.encode
  simp only [hv, if_true]
  have hn : r.toNat ≤ 1114111 := by omega
  have hn0 : 128 ≤ r.toNat := by omega
  rw [if_neg (by omega)]
  by_cases h2 : r.toNat < 2048
  · rw [if_pos h2]
    exact ⟨.inl rfl, ofNat_high _ (by omega) (by omega)⟩
  · rw [if_neg h2]
    by_cases h3 : r.toNat < 65536
    · rw [if_pos h3]
      exact ⟨.inr (.inl rfl), ofNat_high _ (by omega) (by omega)⟩
    · rw [if_neg h3]
      exact ⟨.inr (.inr rfl), ofNat_high _ (by omega) (by omega)⟩
/-- the three letters that end a line or a text -/
def c3 : ByteArray := ⟨#[10, 13, 0]⟩

set_option maxHeartbeats 8000000 in
set_option maxRecDepth 1000000 in
theorem rune_high (L : Lays.n152 P ρ) (r : Int) (w : World) (h0 : 128 ≤ r) (h1 : r ≤ 1114111) :
    Calls P (ρ.f 152) #[.string c3, .int .i32 r] w fun e w' => e = .returned (.int .i64 (-1)) ∧ Below w.heap.size w w' := by
  have t3 := L.t3; have a3 := L.a3; have z3 := L.z3; have v3 := L.v3
  have t4 := L.t4; have a4 := L.a4; have z4 := L.z4; have v4 := L.v4
  have t5 := L.t5; have a5 := L.a5; have z5 := L.z5; have v5 := L.v5
  have t9 := L.t9; have a9 := L.a9; have z9 := L.z9; have v9 := L.v9
  have t21 := L.t21; have a21 := L.a21; have z21 := L.z21; have v21 := L.v21
  have mixed := L.mixed; have u3 := run_underlying L.t3; have u4 := run_underlying L.t4; have u5 := run_underlying L.t5; have u9 := run_underlying L.t9; have u21 := run_underlying L.t21
  have e137 : ∀ args w, (callFunc (ρ.f 137) args).run P w = .ok (.enter (ρ.f 137) args) w := enters_of L.f137 (by kernel_rfl) rfl
  have e119 : ∀ args w, (callFunc (ρ.f 119) args).run P w = .ok (.enter (ρ.f 119) args) w := enters_of L.f119 (by kernel_rfl) rfl
  go_enter L.f152, Body.n152_ntmps ρ
  by_cases hr : r = 65533
  · subst hr
    go_wp2_with (first | (refine wp_scope_in ?_) | (refine wp_scope_body ?_))
    go_loopg [5, 6] 3 (fun g _ _ wx => ∃ i : Nat, i + g = 3 ∧ wx = w.iter c3 i)
    case atStart => exact ⟨0, by omega, rfl⟩
    case round =>
      obtain ⟨i, hig, rfl⟩ := hrel
      cases gk with
      | zero =>
        obtain rfl : i = 3 := by omega
        have hnx := fun (ty : TypeId) => run_next_end (P := P) w c3 3 ty (by decide)
        go_wp2
        go_ret
        exact ⟨rfl, (Below.refl _ _).alloc (Nat.le_refl _) _⟩
      | succ g =>
        have hi : i < c3.size := by show i < 3; omega
        obtain ⟨x, hx⟩ : ∃ x : UInt8, c3[i]'hi = x := ⟨_, rfl⟩
        have hx128 : x.toNat < 128 := by
          have : i < 3 := hi
          rw [← hx]
          have hall : ∀ j : Fin 3, (c3.data[j.val]'j.isLt).toNat < 128 := by decide
          exact hall ⟨i, this⟩
        have hnx := fun ty => run_next_ascii (P := P) w c3 i ty hi (by rw [hx]; exact hx128)
        rw [hx] at hnx
        have hne : ((x.toNat : Int) == 65533) = false := beq_eq_false_iff_ne.2 (by omega)
        go_wp2
        go_roundg g
        case measure => omega
        case rel => exact ⟨i + 1, by omega, rfl⟩
  · have hne : (r == 65533) = false := beq_eq_false_iff_ne.2 hr
    have hge : decide (r < 128) = false := decide_eq_false (by omega)
    have hge0 : decide (0 ≤ r) = true := decide_eq_true (by omega)
    cases hv : Lib.validRune r with
    | false =>
      go_wp2_with (first | (refine wp_scope_in ?_) | (refine wp_scope_body ?_) | (go_at_fn (ρ.f 119); refine (Any.utf8_ValidRune { L with } _ _).mono ?_; rintro e w' ⟨rfl, hw⟩; rw [hw, hv]))
      go_ret
      exact ⟨rfl, Below.refl _ _⟩
    | true =>
      obtain ⟨rs, hrs, hsz, hlast⟩ := enc_high r h0 h1 (by unfold Lib.validRune at hv; unfold Utf8.valid; simp at hv ⊢; omega)
      have hconv : ∀ w', (convert (ρ.t 21) (ρ.t 9) (.int .i32 r)).run P w' = .ok (.string rs) w' := fun w' => by rw [← hrs]; exact run_convert_int_string w' _ _ _ r (by rw [t21]; rfl) t9
      clear hrs
      rcases Nat.lt_or_ge (rs.size - 1) 3 with h23 | h4
      · obtain ⟨m, hm⟩ : ∃ m, rs.size = m + 1 := ⟨rs.size - 1, by omega⟩
        have hm3 : m < c3.size := by show m < 3; omega
        have hmr : m < rs.size := by omega
        have hsz1 : ((rs.size : Int) - 1) = (m : Int) := by omega
        have hm3z : (m : Int) < (c3.size : Int) := by omega
        obtain ⟨x, hx⟩ : ∃ x : UInt8, c3[m]'hm3 = x := ⟨_, rfl⟩
        obtain ⟨y, hy⟩ : ∃ y : UInt8, rs[m]'hmr = y := ⟨_, rfl⟩
        have hx128 : x.toNat < 128 := by
          rw [← hx]
          have hall : ∀ j : Fin 3, (c3.data[j.val]'j.isLt).toNat < 128 := by decide
          exact hall ⟨m, hm3⟩
        have hy128 : 128 ≤ y.toNat := by
          rw [← hy]
          rw [hm, Nat.add_sub_cancel] at hlast
          have e : rs.get! m = rs[m]'hmr := by
            show rs.data[m]! = _
            exact getElem!_pos rs.data m hmr
          rw [e] at hlast
          exact hlast
        have hxy : ((x.toNat : Int) != (y.toNat : Int)) = true := bne_iff_ne.2 (by omega)
        have hidx : Lib.indexByte (c3.extract (m + 1) c3.size).data.toList y = -1 := by
          rcases Int.lt_or_le (Lib.indexByte (c3.extract (m + 1) c3.size).data.toList y) 0 with hlt | hge
          · have := indexByte_ge' (c3.extract (m + 1) c3.size).data.toList y
            omega
          · exfalso
            obtain ⟨o, ho⟩ : ∃ o : Nat, Lib.indexByte (c3.extract (m + 1) c3.size).data.toList y = (o : Int) := ⟨_, (Int.toNat_of_nonneg hge).symm⟩
            have h := (Lib.indexByte_some ho).1
            rw [Lib.extract_to_end, List.getElem?_drop] at h
            have hmem := List.mem_of_getElem? h
            have hall : ∀ b ∈ c3.data.toList, b.toNat < 128 := by decide
            have := hall y hmem
            omega
        have hback : ((y.toNat : Int)).toNat.toUInt8 = y := by simp
        have hmB : m ≤ 2 := by omega
        have hs1 : 0 ≤ (m : Int) + 1 := by omega
        have hs2 : (m : Int) + 1 ≤ (c3.size : Int) := by omega
        have hs3 : ((m : Int) + 1).toNat = m + 1 := by omega
        have hwr : IntKind.i64.wrap ((m : Int) + 1) = (m : Int) + 1 := by rw [IntKind.wrap_i64]; omega
        have hmrz : (m : Int) < (rs.size : Int) := by omega
        clear hsz hlast h23
        go_wp2_with (first | (refine wp_scope_in ?_) | (refine wp_scope_body ?_) | (go_at_fn (ρ.f 119); refine (Any.utf8_ValidRune { L with } _ _).mono ?_; rintro e w' ⟨rfl, hw⟩; rw [hw, hv]))
        go_loopg [9, 10] 0 (fun g v9 v10 wx => g = 0 ∧ v9 = .int .i64 m ∧ wx = w)
        case atStart => exact ⟨rfl, rfl, rfl⟩
        case round =>
          obtain ⟨rfl, rfl, rfl⟩ := hrel
          go_wp2_with (first | (apply wp_scope_straight) | (go_at_fn (ρ.f 137); refine (Any.strings_IndexByte { L with } _ _ _).mono ?_; rintro e w' ⟨rfl, hw⟩; rw [hw, hback]))
          go_region_o
          go_wp2
          go_region_with_o (go_at_fn (ρ.f 137); refine (Any.strings_IndexByte { L with } _ _ _).mono ?_; rintro e w' ⟨rfl, hw⟩; rw [hw, hback, hidx])
          go_wp2
          simp only [Exit.noGoto_ret, Exit.inBlock, Exit.then]
          show bodyPost P (Body.n152 ρ) (fun e w' => e = Ending.returned (Value.int IntKind.i64 (-1)) ∧ Below wr.heap.size wr w') Exit.ret _ _
          go_ret
          exact ⟨rfl, ((Below.refl _ _).drew).drew⟩
      · have hsz1 : ((rs.size : Int) - 1) = 3 := by omega
        go_wp2_with (first | (refine wp_scope_in ?_) | (refine wp_scope_body ?_) | (go_at_fn (ρ.f 119); refine (Any.utf8_ValidRune { L with } _ _).mono ?_; rintro e w' ⟨rfl, hw⟩; rw [hw, hv]))
        go_loopg [9, 10] 0 (fun g v9 v10 wx => g = 0 ∧ v9 = .int .i64 3 ∧ wx = w)
        case atStart => exact ⟨rfl, rfl, rfl⟩
        case round =>
          obtain ⟨rfl, rfl, rfl⟩ := hrel
          have hc : decide ((3 : Int) < (c3.size : Int)) = false := by decide
          go_wp2
          go_ret
          exact ⟨rfl, Below.refl _ _⟩

theorem c3_data : c3.data.toList = [10, 13, 0] := rfl
theorem noAny_far {s : ByteArray} {pos K : Nat} (h : Lib.NoAny s.data.toList c3.data.toList pos) (hh : ∀ (j : Nat) (b : UInt8), pos ≤ j → j < pos + K → s.data.toList[j]? = some b → 128 ≤ b.toNat) : Lib.NoAny s.data.toList c3.data.toList (pos + K) := by
  intro j b hj hb
  rcases Nat.lt_or_ge j pos with h1 | h1
  · exact h j b h1 hb
  · have h2 := hh j b h1 hj hb
    have hall : ∀ x ∈ c3.data.toList, x.toNat < 128 := by decide
    cases hc : c3.data.toList.contains b with
    | false => rfl
    | true =>
      exfalso
      have := hall b (by simpa using hc)
      omega

set_option maxHeartbeats 8000000 in
set_option maxRecDepth 1000000 in
/-- strings.IndexAny for the three letters in at most eight bytes, whatever they are -/
theorem any_short (L : Lays.n153 P ρ) (s : ByteArray) (w : World) (h8 : s.size ≤ 8) :
    Calls P (ρ.f 153) #[.string s, .string c3] w fun e w' => e = .returned (.int .i64 (Lib.indexAny s.data.toList c3.data.toList)) ∧ Below w.heap.size w w' := by
  have hemp : c3.toList.isEmpty = false := by rw [Lib.toList_data]; rfl
  have hc3 : c3.size = 3 := rfl
  have hn1 : ((c3.size : Int) == 1) = false := beq_eq_false_iff_ne.2 (by omega)
  have h8z : decide ((8 : Int) < (s.size : Int)) = false := decide_eq_false (by omega)
  clear hc3
  have t3 := L.t3; have a3 := L.a3; have z3 := L.z3; have v3 := L.v3
  have t4 := L.t4; have a4 := L.a4; have z4 := L.z4; have v4 := L.v4
  have t5 := L.t5; have a5 := L.a5; have z5 := L.z5; have v5 := L.v5
  have t9 := L.t9; have a9 := L.a9; have z9 := L.z9; have v9 := L.v9
  have t21 := L.t21; have a21 := L.a21; have z21 := L.z21; have v21 := L.v21
  have e152 : ∀ args w, (callFunc (ρ.f 152) args).run P w = .ok (.enter (ρ.f 152) args) w := enters_of L.f152 (by kernel_rfl) rfl
  have e226 : ∀ args w, (callFunc (ρ.f 226) args).run P w = .ok (.enter (ρ.f 226) args) w := enters_of L.f226 (by kernel_rfl) rfl
  go_enter L.f153, Body.n153_ntmps ρ
  go_wp2_with (go_at_fn (ρ.f 226); refine (Any.strings_shouldUseASCIISet { L with } _ _).mono ?_; rintro e w' ⟨rfl, hw⟩; rw [hw, h8z])
  go_loopg [9, 10] s.size (fun g _ _ wx => ∃ pos : Nat, wx.heap[w.heap.size]? = some (.stringIter s pos) ∧ Below w.heap.size w wx ∧ Lib.NoAny s.data.toList c3.data.toList pos ∧ pos ≤ s.size ∧ s.size ≤ pos + g)
  case atStart => exact ⟨0, World.iter_heap w s 0, (Below.refl _ w).alloc (Nat.le_refl _) _, Lib.NoAny.zero _ _, by omega, by omega⟩
  case round =>
    obtain ⟨pos, hit, hbw, hno, hle, hfu⟩ := hrel
    have HN : Aside (Lib.NoAny s.data.toList c3.data.toList pos) := hno
    clear hno
    by_cases hps : pos < s.size
    · obtain ⟨g', rfl⟩ : ∃ g', gk = g' + 1 := ⟨gk - 1, by omega⟩
      have hnx : ∀ ty, (Instr.next (.pointer (some ⟨w.heap.size, 0, none⟩)) true ty).run P wr = _ := fun ty => Lib.run_next_any_at wr w.heap.size s pos ty hit hps
      have hwd := Lib.width_pos s pos
      obtain ⟨x, hx⟩ : ∃ x : UInt8, s.data.toList[pos]? = some x := ⟨_, List.getElem?_eq_getElem (by rw [Array.length_toList]; exact hps)⟩
      have hgd : s.data.toList.getD pos 0 = x := by rw [List.getD_eq_getElem?_getD, hx]; rfl
      obtain ⟨R, hR⟩ : ∃ R, (Utf8.decode s pos).1 = R := ⟨_, rfl⟩
      obtain ⟨K, hK⟩ : ∃ K, (Utf8.decode s pos).2 = K := ⟨_, rfl⟩
      have hhigh : 128 ≤ x.toNat → 128 ≤ R ∧ R ≤ 1114111 ∧ pos + K ≤ s.size ∧ Lib.NoAny s.data.toList c3.data.toList (pos + K) := fun h => by
        obtain ⟨g1, g2, g3, g4⟩ := dec_high s pos hps (by rw [hgd]; exact h)
        rw [hR] at g1 g2
        rw [hK] at g3 g4
        exact ⟨g1, g2, g3, noAny_far HN.out g4⟩
      have hlow : x.toNat < 128 → R = x.toNat ∧ K = 1 := fun h => by
        have e := decode_N s pos
        rw [hgd] at e
        have e2 : decodeN (s.data.toList.length - pos) x.toNat (s.data.toList.getD (pos + 1) 0).toNat (s.data.toList.getD (pos + 2) 0).toNat (s.data.toList.getD (pos + 3) 0).toNat = (x.toNat, 1) := by
          unfold decodeN
          rw [if_pos h]
        rw [e2] at e
        rw [← hR, ← hK, e]
        exact ⟨rfl, rfl⟩
      rw [hR, hK] at hnx
      rw [hK] at hwd
      have hit2 := Lib.iterAt_heap wr w.heap.size s pos (pos + K) hit
      have hbw2 := Lib.below_iterAt hbw (k := w.heap.size) (Nat.le_refl _) s (pos + K)
      obtain ⟨W, hWd⟩ : ∃ W, wr.iterAt w.heap.size s (pos + K) = W := ⟨_, rfl⟩
      rw [hWd] at hnx hit2 hbw2
      have hltW : w.heap.size < W.heap.size := (Array.getElem?_eq_some_iff.1 hit2).1
      clear hR hK hgd hit hWd
      rcases Nat.lt_or_ge x.toNat 128 with hl | hh
      · obtain ⟨rfl, rfl⟩ := hlow hl
        clear hlow hhigh
        have cS : Calls P (ρ.f 152) #[.string c3, .int .i32 (x.toNat : Int)] W _ := Any.strings_IndexRune_ascii { L with } c3 (x.toNat : Int) W (by omega) (by omega)
        have hback : ((x.toNat : Int)).toNat.toUInt8 = x := by simp
        rw [hback] at cS
        have hcon := Lib.contains_iff_indexByte c3.data.toList x
        cases hin : c3.data.toList.contains x
        · rw [hin] at hcon
          have hlt : ¬ ((0 : Int) ≤ Lib.indexByte c3.data.toList x) := of_decide_eq_false hcon.symm
          clear hcon hback
          go_wp2_with (go_at_fn (ρ.f 152); refine cS.mono ?_; rintro e W' ⟨rfl, hbc⟩; rw [hbc])
          go_roundg g'
          case measure => omega
          case rel => exact ⟨pos + 1, hit2, hbw2, HN.out.succ hx hin, by omega, by omega⟩
        · rw [hin] at hcon
          have hge : (0 : Int) ≤ Lib.indexByte c3.data.toList x := of_decide_eq_true hcon.symm
          clear hcon hback
          go_wp2_with (go_at_fn (ρ.f 152); refine cS.mono ?_; rintro e W' ⟨rfl, hbc⟩; rw [hbc])
          go_ret
          exact ⟨by rw [Lib.indexAny_hit HN.out hx hin]; rfl, hbw2⟩
      · obtain ⟨g1, g2, g3, g4⟩ := hhigh hh
        clear hlow hhigh
        have HN4 : Aside (Lib.NoAny s.data.toList c3.data.toList (pos + K)) := g4
        clear g4
        have cS : Calls P (ρ.f 152) #[.string c3, .int .i32 (R : Int)] W _ := rune_high { L with } (R : Int) W (by omega) (by omega)
        go_wp2_with (go_at_fn (ρ.f 152); refine cS.mono ?_; rintro e W' ⟨rfl, hbc⟩)
        go_roundg g'
        case measure => omega
        case rel => exact ⟨pos + K, (hbc.block _ hltW).trans hit2, hbw2.trans (hbc.mono hbw2.size), HN4.out, by omega, by omega⟩
    · have hnx : ∀ ty, (Instr.next (.pointer (some ⟨w.heap.size, 0, none⟩)) true ty).run P wr = _ := fun ty => Lib.run_next_end_at wr w.heap.size s pos ty hit hps
      obtain rfl : pos = s.size := by omega
      go_wp2
      go_ret
      exact ⟨by rw [Lib.indexAny_none (by rw [← Lib.size_eq]; exact HN.out)]; rfl, hbw⟩

set_option maxHeartbeats 1000000 in
/-- strings.ContainsAny for the three letters in any bytes -/
theorem contains_any (L : Lays.n150 P ρ) (h116 : (P.info? (ρ.t 116)).map (fun i => (i.zero, i.size)) = some (some (.agg (Array.replicate 256 (.bool false))), 256)) (s : ByteArray) (w : World) (hs : s.size < 4294967281) :
    Calls P (ρ.f 150) #[.string s, .string c3] w fun e w' => e = .returned (.bool (Lib.containsAny s.data.toList c3.data.toList)) ∧ Below w.heap.size w w' := by
  have c : Calls P (ρ.f 153) #[.string s, .string c3] w fun e w' => e = .returned (.int .i64 (Lib.indexAny s.data.toList c3.data.toList)) ∧ Below w.heap.size w w' := by
    by_cases h8 : s.size ≤ 8
    · exact any_short { L with } s w h8
    · refine (Any.strings_IndexAny_long { L with } (zero_of_info h116).1 (zero_of_info h116).2 s c3 w (by decide) (by omega) hs (by decide) (fun j b hb => ?_)).mono fun e w' ⟨h1, h2⟩ => ⟨h1, ?_⟩
      · have hall : ∀ x ∈ c3.data.toList, x.toNat < 128 := by decide
        exact hall b (List.mem_of_getElem? hb)
      · rw [h2]
        exact ((Below.refl _ _).alloc (Nat.le_refl _) _).alloc (by simp) _
  have t3 := L.t3; have a3 := L.a3; have z3 := L.z3; have v3 := L.v3
  have t4 := L.t4; have a4 := L.a4; have z4 := L.z4; have v4 := L.v4
  have t9 := L.t9; have a9 := L.a9; have z9 := L.z9; have v9 := L.v9
  have e153 : ∀ args w, (callFunc (ρ.f 153) args).run P w = .ok (.enter (ρ.f 153) args) w := enters_of L.f153 (by kernel_rfl) rfl
  go_enter L.f150, Body.n150_ntmps ρ
  go_wp2_with (go_at_fn (ρ.f 153); refine c.mono ?_; rintro e w' ⟨rfl, hw⟩)
  go_ret
  exact ⟨rfl, hw⟩
end Go.Proofs.YteeiljjjgkinhaaGreatDoor.HtIx
