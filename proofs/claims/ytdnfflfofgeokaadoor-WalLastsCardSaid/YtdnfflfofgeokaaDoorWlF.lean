/- WalLasts, walked. -/
import Derived.Test.YtdnfflfofgeokaaDoorWlE
namespace Go.Proofs.YtdnfflfofgeokaaDoor.WalL
open Go.RowKit Go.Extern.Stop Go.Stop Go.Extern Go.Proofs.YtdnfflfofgeokaaDoorW.PrintWords Go.Proofs.YtdnfflfofgeokaaDoor.WalN Go.Proofs.YtdnfflfofgeokaaDoor.Dk Go.Proofs.YtdnfflfofgeokaaDoor.PWal Go.Proofs.YtdnfflfofgeokaaDoor.WalB Go.Proofs.YtdnfflfofgeokaaDoor.WalC Go.Proofs.YtdnfflfofgeokaaDoor.WalD

theorem meas {i k : Nat} (h : i < k) : k - (i + 1) < k - i := by omega
def StrsAt (w : World) (v : Value) (l : List ByteArray) : Prop := ∃ A c, v = .slice A l.length c ∧ ∀ (i : Nat) (x : ByteArray), l[i]? = some x → ∃ b o, A = some ⟨b, o, none⟩ ∧ w.cell? ⟨b, o + i, none⟩ = some (.string x)
theorem row_cell {w : World} {A : Option Addr} {l : List S23} {m : Nat} {x : S23} (h : Kd.C k23 w A l.length l) (hx : l[m]? = some x) : ∃ b o, A = some ⟨b, o, none⟩ ∧ w.cell? ⟨b, o + m * 2, none⟩ = some (.int .i64 x.f0) ∧ w.cell? ⟨b, o + m * 2 + 1, none⟩ = some (.string x.f1) := by
  have hlt := (List.getElem?_eq_some_iff.1 hx).1
  obtain ⟨ad, hA, hc⟩ := h.2.2 (by omega)
  obtain ⟨c, _, h2, h3⟩ := hc m x hx
  have hc2 := k23_open h2
  have h4 := h3 0 (.int .i64 x.f0) (by rw [hc2]; rfl)
  have h41 := h3 1 (.string x.f1) (by rw [hc2]; rfl)
  obtain ⟨x0, hx0⟩ : ∃ x, l[0]? = some x := ⟨_, List.getElem?_eq_getElem (by omega)⟩
  obtain ⟨c0, _, h20, h30⟩ := hc 0 x0 hx0
  have hc0 := k23_open h20
  have h5 := h30 0 (.int .i64 x0.f0) (by rw [hc0]; rfl)
  have hsp : ad.spot = none := by
    have e : ad.add (0 * k23.sz + 0) = ad := by rw [Nat.zero_mul]; simp [Addr.add]
    rw [e] at h5
    cases hs : ad.spot with
    | none => rfl
    | some q =>
      unfold World.cell? at h5
      split at h5
      · rw [hs] at h5; simp at h5
      · cases h5
  obtain ⟨b, o, s⟩ := ad
  simp only at hsp
  subst hsp
  refine ⟨b, o, hA, ?_, ?_⟩
  · have e2 : (⟨b, o, none⟩ : Addr).add (m * k23.sz + 0) = ⟨b, o + m * 2, none⟩ := by
      rw [Addr.add_lit]
      rfl
    rw [e2] at h4
    exact h4
  · have e2 : (⟨b, o, none⟩ : Addr).add (m * k23.sz + 1) = ⟨b, o + m * 2 + 1, none⟩ := by
      rw [Addr.add_lit]
      rfl
    rw [e2] at h41
    exact h41
theorem recs_get : ∀ (bs : List ByteArray) (n i : Nat) (b : ByteArray), bs[i]? = some b → (RECS n bs)[i]? = some ⟨((n + i : Nat) : Int), b⟩
  | [], _, _, _, h => by simp at h
  | a :: l, n, 0, b, h => by
    obtain rfl : a = b := by simpa using h
    rfl
  | a :: l, n, i + 1, b, h => by
    have h2 := recs_get l (n + 1) i b (by simpa using h)
    rw [RECS, List.getElem?_cons_succ, h2, Nat.add_right_comm, Nat.add_assoc]

theorem ints_lt {w : World} {v : Value} {l : List Int} (h : IntsAt w v l) (hne : l ≠ []) : ∀ k, v.ownBlock = some k → k < w.heap.size := by
  obtain ⟨A, c, rfl, hcell⟩ := h
  intro k hk
  cases l with
  | nil => exact absurd rfl hne
  | cons x r =>
    obtain ⟨b, o, rfl, hj⟩ := hcell 0 x rfl
    cases hk
    exact World.block_lt_of_cell? w _ hj
theorem IntsAt.low {B : Nat} {w w' : World} {v : Value} {l : List Int} (h : IntsAt w v l) (hb : Below B w w') (hl : l ≠ [] → ∀ k, v.ownBlock = some k → k < B) : IntsAt w' v l := by
  obtain ⟨A, c, rfl, hcell⟩ := h
  refine ⟨A, c, rfl, fun i x hx => ?_⟩
  obtain ⟨b, o, rfl, hj⟩ := hcell i x hx
  exact ⟨b, o, rfl, (hb.cell (p := ⟨b, o + i, none⟩) (hl (fun h => by rw [h] at hx; simp at hx) b rfl)).trans hj⟩

set_option maxRecDepth 100000 in
set_option maxHeartbeats 4000000 in
theorem lasts_calls (bs : List ByteArray) (sy n : Int) (l : List Int) {A0 A1 : Option Addr} {c0 c1 : Nat} {p : Addr} (w : World) (hS : StrsAt w (.slice A0 bs.length c0) bs) (hI : IntsAt w (.slice A1 l.length c1) l) (hG : Gl (.pointer (some p)) w) :
    Calls Tryd.prog 4 #[.slice A0 bs.length c0, .int .i64 sy, .agg #[.int .i64 n, .slice A1 l.length c1]] w fun e w' => e = .returned (.bool true) ∧ Below w.heap.size w w' := by
  obtain ⟨B, hB⟩ : ∃ B, B = w.heap.size + 1 := ⟨_, rfl⟩
  have hbW := (Below.refl w.heap.size w).alloc (Nat.le_refl _) (.cells #[.int .i64 n, .slice A1 l.length c1] 39)
  have hWs : (w.alloc (.cells #[.int .i64 n, .slice A1 l.length c1] 39)).heap.size = B := by rw [hB]; simp
  have hC := heap_alloc_new w (.cells #[.int .i64 n, .slice A1 l.length c1] 39)
  obtain ⟨W1, hW1⟩ : ∃ W1, W1 = w.alloc (.cells #[.int .i64 n, .slice A1 l.length c1] 39) := ⟨_, rfl⟩
  rw [← hW1] at hbW hWs hC
  have HN : Aside0 (Calls Tryd.prog 6 #[] (w.alloc (.cells #[.int .i64 n, .slice A1 l.length c1] 39)) fun e w' => ∃ d, e = .returned (.pointer (some ⟨d, 0, none⟩)) ∧ LiveX B w' d DS.new [] ∧ B ≤ w'.heap.size ∧ Below B W1 w') := ⟨by
    rw [← hW1]
    refine (new_live (B := B) (Nat.le_of_eq hWs.symm)).mono ?_
    rintro e w' ⟨d, rfl, hl, hb⟩
    exact ⟨d, rfl, LiveX.of hl, Nat.le_trans (Nat.le_of_eq hWs.symm) hb.size, hb⟩⟩
  have HG : Aside0 (Gl (.pointer (some p)) W1) := ⟨hG.below hbW⟩
  have H1 : Aside0 (1 < B) := ⟨by have := hG.lt; omega⟩
  have HF : Aside0 (∀ wr, Below B W1 wr → Below w.heap.size w wr) := ⟨fun wr h => hbW.trans (h.mono (by omega))⟩
  have HS : Aside0 (∀ wr, Below B W1 wr → ∀ i x, bs[i]? = some x → ∃ b o, A0 = some ⟨b, o, none⟩ ∧ wr.cell? ⟨b, o + i, none⟩ = some (.string x)) := ⟨fun wr h i x hx => by
    obtain ⟨A, c, he, hcell⟩ := hS
    cases he
    obtain ⟨b, o, rfl, hj⟩ := hcell i x hx
    exact ⟨b, o, rfl, ((HF.out wr h).cell (p := ⟨b, o + i, none⟩) (World.block_lt_of_cell? w _ hj)).trans hj⟩⟩
  have HO : Aside0 (l ≠ [] → ∀ k, (Value.slice A1 l.length c1).ownBlock = some k → k < B) := ⟨fun hne k hk => by have := ints_lt hI hne k hk; omega⟩
  have HI : Aside0 (∀ wr, Below B W1 wr → IntsAt wr (.slice A1 l.length c1) l) := ⟨fun wr h => IntsAt.low hI (HF.out wr h) (ints_lt hI)⟩
  obtain ⟨g4, hg4⟩ : ∃ g4, g4 = w.heap.size := ⟨_, rfl⟩
  have HX : Aside0 (∀ wr, Below B W1 wr → wr.cell? ⟨w.heap.size, 0, none⟩ = some (.int .i64 n) ∧ wr.cell? ⟨w.heap.size, 1, none⟩ = some (.slice A1 l.length c1)) := ⟨fun wr h => ⟨(h.cell (p := ⟨w.heap.size, 0, none⟩) (by show w.heap.size < B; omega)).trans (blk_cell hC 0), (h.cell (p := ⟨w.heap.size, 1, none⟩) (by show w.heap.size < B; omega)).trans (blk_cell hC 1)⟩⟩
  clear hS hI hG hB hbW hWs hC hW1 hg4
  go_enter Tryd.func4, Tryd.ntmps4
  go_wp2_with (first
    | (go_at_call 6; (with_reducible refine HN.out.mono ?_); rintro e w0 ⟨d, rfl, hl, hs, hb⟩; have L0 := Aside0.mk (And.intro hl (And.intro hs hb)); clear hl hs hb)
    | (go_at_call 5; (with_reducible refine (op_new (bs := bs) L0.out.1 L0.out.2.1 L0.out.2.2 HG.out H1.out).mono ?_); rintro e w1 ⟨A2, c2, g, rfl, hgB, hst⟩; have L1 := Aside0.mk hst; have HgB := Aside0.mk hgB; clear hst hgB)
    | (go_at_call 11; (with_reducible refine (lodestarlaw09_awake.calls 400 _ awake_true).mono ?_); rintro e w2 ⟨rfl, hb⟩; have L2 := Aside0.mk (St.below L1.out hb); clear hb)
    | go_in)
  go_loopw [11] (fun vi wr => ∃ i : Nat, vi = .int .i64 i ∧ i ≤ 50 ∧ Aside0 (i ≤ bs.length ∧ (∀ b ∈ bs.take i, b.size ≤ 65536) ∧ St B d g W1 wr bs i (LEN (bs.take (least sy i))) (2 * i + 4))) (fun vi _ => 50 - (intOf vi).toNat)
  case atStart => exact ⟨0, rfl, Nat.zero_le _, ⟨Nat.zero_le _, (fun b hb => by simp at hb), (by rw [least_zero]; exact L2.out.mono (by omega))⟩⟩
  case round =>
    obtain ⟨i, rfl, hi, H6⟩ := hrel
    clear L0 L1 L2
    by_cases ht : i < bs.length
    · have hd1 : decide ((i : Int) < (bs.length : Int)) = true := by simpa using ht
      by_cases h5 : i < 50
      · have hd2 : decide ((i : Int) < 50) = true := by simp; omega
        obtain ⟨x, hx⟩ : ∃ x, bs[i]? = some x := ⟨_, List.getElem?_eq_getElem ht⟩
        obtain ⟨b0, o0, rfl, hc⟩ := HS.out wr H6.out.2.2.stay i x hx
        have HX0 := Aside0.mk hx
        clear hx
        by_cases hbig : 65536 < x.size
        · have hd3 : decide ((65536 : Int) < (x.size : Int)) = true := by simp; omega
          go_wp2
          go_ret
          exact ⟨rfl, HF.out _ H6.out.2.2.stay⟩
        · have hd3 : decide ((65536 : Int) < (x.size : Int)) = false := by simp; omega
          have hLe : Aside0 (LEN (bs.take i) ≤ 65556 * i) := ⟨len_le bs i H6.out.2.1⟩
          by_cases hsy : (i : Int) + 1 = sy
          · have hd4 : ((i : Int) + 1 == sy) = true := by simpa using hsy
            have HSy := Aside0.mk hsy
            clear hsy
            go_wp2_with (first
              | (go_at_call 7; (with_reducible refine (ap_st H6.out.2.2 HG.out H1.out HgB.out HX0.out h5 (by omega) hLe.out (by omega)).mono ?_); rintro e w7 ⟨rfl, hst⟩; have L7 := Aside0.mk hst; clear hst)
              | (go_at_call 8; (with_reducible refine (sy_st L7.out HG.out H1.out HgB.out (by omega)).mono ?_); rintro e w8 ⟨rfl, hst⟩; have L8 := Aside0.mk hst; clear hst)
              | go_in)
            go_simp
            have hms := meas h5
            refine ⟨⟨i + 1, by simp, by omega, ⟨by omega, fun b hb => ?_, ?_⟩⟩, by simpa [intOf] using hms⟩
            · rw [take_one HX0.out] at hb
              rcases List.mem_append.1 hb with hb | hb
              · exact H6.out.2.1 b hb
              · rw [List.mem_singleton.1 hb]; omega
            · rw [least_next HSy.out]
              exact L8.out.mono (by omega)
          · have hd4 : ((i : Int) + 1 == sy) = false := by simpa using hsy
            have HSy := Aside0.mk hsy
            clear hsy
            go_wp2_with (first
              | (go_at_call 7; (with_reducible refine (ap_st H6.out.2.2 HG.out H1.out HgB.out HX0.out h5 (by omega) hLe.out (by omega)).mono ?_); rintro e w7 ⟨rfl, hst⟩; have L7 := Aside0.mk hst; clear hst)
              | go_in)
            go_simp
            have hms := meas h5
            refine ⟨⟨i + 1, by simp, by omega, ⟨by omega, fun b hb => ?_, ?_⟩⟩, by simpa [intOf] using hms⟩
            · rw [take_one HX0.out] at hb
              rcases List.mem_append.1 hb with hb | hb
              · exact H6.out.2.1 b hb
              · rw [List.mem_singleton.1 hb]; omega
            · rw [least_same HSy.out]
              exact L7.out.mono (by omega)
      · have hd2 : decide ((i : Int) < 50) = false := by simp; omega
        have hie : min (bs.length : Int) 50 = (i : Int) := by omega
        have HLe : Aside0 (LEN (bs.take i) ≤ 65556 * i) := ⟨len_le bs i H6.out.2.1⟩
        by_cases hp : 1 ≤ sy
        · have hd5 : decide (1 ≤ sy) = true := by simpa using hp
          by_cases hn : sy ≤ (i : Int)
          · have hd6 : decide (sy ≤ (i : Int)) = true := decide_eq_true hn
            have hlt8 : ∀ (rs : List S23), least sy i ≤ rs.length → decide ((rs.length : Int) < sy) = false := fun rs h => decide_eq_false (by unfold least at h; rw [if_pos (by omega)] at h; omega)
            have hlt9 : ∀ (rs : List S23), rs.length ≤ i → decide ((i : Int) < (rs.length : Int)) = false := fun rs h => decide_eq_false (by omega)
            have HD8 := Aside0.mk hlt8
            have HD9 := Aside0.mk hlt9
            clear hlt8 hlt9
            have z01 := HX.out wr H6.out.2.2.stay
            have z0 := z01.1
            have z1 := z01.2
            clear z01
            go_wp2_with (first
              | (go_at_call 12; (with_reducible refine (cr_st H6.out.2.2 n l (HI.out _ H6.out.2.2.stay) HO.out HLe.out hi (by omega)).mono ?_); rintro e w3 ⟨rfl, c, hcl, hcu, hst⟩; obtain ⟨j, hji, hjl, hop⟩ := op_st1 hst HG.out H1.out hi H6.out.1 H6.out.2.1 HLe.out hcu; have hle := hjl _ hcl (least_le sy i); obtain ⟨rs, hrs⟩ : ∃ rs, rs = RECS 1 (bs.take j) := ⟨_, rfl⟩; have hrl : rs.length = j := (by rw [hrs, RECS_length, List.length_take]; have := H6.out.1; omega); have HRL := Aside0.mk hrl; have HRS := Aside0.mk hrs; rw [← hrs] at hop; have HOp := Aside0.mk hop; have HJ := Aside0.mk hji; have hd8 := HD8.out rs (by rw [hrl]; exact hle); have hd9 := HD9.out rs (by rw [hrl]; exact hji); have hd9m : (i < rs.length) = False := eq_false (by omega); have hd9n : rs.length ≤ i := (by omega); clear hcl hcu hst hji hjl hop hle hrl hrs z0 z1)
              | (go_at_call 5; (with_reducible refine ((HRS.out ▸ op_st2 (bs := bs) L4.out.2 (HRS.out ▸ L4.out.1) HG.out H1.out (Nat.le_trans HJ.out hi) (HZj.out) (HLj.out) : Calls Tryd.prog 5 #[.pointer (some ⟨d, 0, none⟩), .string nLog] w4 _)).mono ?_); rintro e w5 ⟨A5, c5, g5, rfl, hc5, hC5, hc4, hC4, hs5, hb5⟩; have HC5 := Aside0.mk (And.intro hc5 hC5); have HC4 := Aside0.mk (And.intro hc4 hC4); have HB5 := Aside0.mk hb5; clear hc5 hC5 hc4 hC4 hs5 hb5)
              | (go_at_call 5; (with_reducible refine HOp.out.mono ?_); rintro e w4 ⟨A4, c4, g4, Y, rfl, hR, hst⟩; have L4 := Aside0.mk (And.intro hR hst); have HZj : Aside0 (∀ b ∈ bs.take j, b.size ≤ 65536) := ⟨fun b hb => H6.out.2.1 b (by rw [← take_take_le HJ.out] at hb; exact List.mem_of_mem_take hb)⟩; have HLj : Aside0 (LEN (bs.take j) ≤ 65556 * j) := ⟨len_le bs j HZj.out⟩; clear hR hst)
              | (go_at_call 13; (with_reducible refine (lodestarref09_Same.calls (rs.length + 1) A4 c4 rs A5 c5 rs true w5 HC4.out.2 HC4.out.1 HC5.out.2 HC5.out.1 (same_self rs (rs.length + 1) (by have h1 := HRL.out; have h2 := HJ.out; omega) (by omega))).mono ?_); rintro e w6 ⟨rfl, ⟨nd, rfl⟩⟩)
              | go_in)
            go_loopw [20] (fun vi wr => ∃ q : Nat, vi = .int .i64 q ∧ q ≤ 50 ∧ Drawn0 w5 wr) (fun vi _ => 50 - (intOf vi).toNat)
            case atStart => exact ⟨0, rfl, Nat.zero_le _, ⟨⟨_, rfl⟩⟩⟩
            case round =>
              obtain ⟨q, rfl, hq, ⟨m1, rfl⟩⟩ := hrel
              by_cases htq : q < rs.length
              · have hdq : decide ((q : Int) < (rs.length : Int)) = true := by simpa using htq
                obtain ⟨x, hx⟩ : ∃ x, bs[q]? = some x := ⟨_, List.getElem?_eq_getElem (by have h1 := HRL.out; have h2 := HJ.out; have h3 := H6.out.1; omega)⟩
                have hxr : rs[q]? = some ⟨((1 + q : Nat) : Int), x⟩ := by rw [HRS.out]; exact recs_get _ 1 q x (by rw [List.getElem?_take, if_pos (by have h1 := HRL.out; omega)]; exact hx)
                obtain ⟨b1, o1, rfl, y0, y1⟩ := row_cell HC4.out.2 hxr
                obtain ⟨b0, o0, rfl, y2⟩ := HS.out w5 HB5.out q x hx
                have hcast : ((1 + q : Nat) : Int) = (q : Int) + 1 := by omega
                simp only [hcast] at y0 y1
                have h5q : q < 50 := by have h1 := HRL.out; have h2 := HJ.out; omega
                have hlb : decide ((q : Int) < (bs.length : Int)) = true := by have := (List.getElem?_eq_some_iff.1 hx).1; simpa using this
                clear hx hxr hcast
                go_wp2
                go_quiet (fail)
                go_wp2
                go_simp
                have hms := meas h5q
                exact ⟨⟨q + 1, by simp, by omega, ⟨⟨_, rfl⟩⟩⟩, by simpa [intOf] using hms⟩
              · have hdq : decide ((q : Int) < (rs.length : Int)) = false := by simpa using htq
                go_wp2
                go_ret
                exact ⟨rfl, HF.out _ (Below.drewN HB5.out _)⟩
          · have hd6 : decide (sy ≤ (i : Int)) = false := decide_eq_false hn
            have hlt8 : ∀ (rs : List S23), least sy i ≤ rs.length → decide ((rs.length : Int) < 0) = false := fun rs h => decide_eq_false (by unfold least at h; omega)
            have hlt9 : ∀ (rs : List S23), rs.length ≤ i → decide ((i : Int) < (rs.length : Int)) = false := fun rs h => decide_eq_false (by omega)
            have HD8 := Aside0.mk hlt8
            have HD9 := Aside0.mk hlt9
            clear hlt8 hlt9
            have z01 := HX.out wr H6.out.2.2.stay
            have z0 := z01.1
            have z1 := z01.2
            clear z01
            go_wp2_with (first
              | (go_at_call 12; (with_reducible refine (cr_st H6.out.2.2 n l (HI.out _ H6.out.2.2.stay) HO.out HLe.out hi (by omega)).mono ?_); rintro e w3 ⟨rfl, c, hcl, hcu, hst⟩; obtain ⟨j, hji, hjl, hop⟩ := op_st1 hst HG.out H1.out hi H6.out.1 H6.out.2.1 HLe.out hcu; have hle := hjl _ hcl (least_le sy i); obtain ⟨rs, hrs⟩ : ∃ rs, rs = RECS 1 (bs.take j) := ⟨_, rfl⟩; have hrl : rs.length = j := (by rw [hrs, RECS_length, List.length_take]; have := H6.out.1; omega); have HRL := Aside0.mk hrl; have HRS := Aside0.mk hrs; rw [← hrs] at hop; have HOp := Aside0.mk hop; have HJ := Aside0.mk hji; have hd8 := HD8.out rs (by rw [hrl]; exact hle); have hd9 := HD9.out rs (by rw [hrl]; exact hji); have hd9m : (i < rs.length) = False := eq_false (by omega); have hd9n : rs.length ≤ i := (by omega); clear hcl hcu hst hji hjl hop hle hrl hrs z0 z1)
              | (go_at_call 5; (with_reducible refine ((HRS.out ▸ op_st2 (bs := bs) L4.out.2 (HRS.out ▸ L4.out.1) HG.out H1.out (Nat.le_trans HJ.out hi) (HZj.out) (HLj.out) : Calls Tryd.prog 5 #[.pointer (some ⟨d, 0, none⟩), .string nLog] w4 _)).mono ?_); rintro e w5 ⟨A5, c5, g5, rfl, hc5, hC5, hc4, hC4, hs5, hb5⟩; have HC5 := Aside0.mk (And.intro hc5 hC5); have HC4 := Aside0.mk (And.intro hc4 hC4); have HB5 := Aside0.mk hb5; clear hc5 hC5 hc4 hC4 hs5 hb5)
              | (go_at_call 5; (with_reducible refine HOp.out.mono ?_); rintro e w4 ⟨A4, c4, g4, Y, rfl, hR, hst⟩; have L4 := Aside0.mk (And.intro hR hst); have HZj : Aside0 (∀ b ∈ bs.take j, b.size ≤ 65536) := ⟨fun b hb => H6.out.2.1 b (by rw [← take_take_le HJ.out] at hb; exact List.mem_of_mem_take hb)⟩; have HLj : Aside0 (LEN (bs.take j) ≤ 65556 * j) := ⟨len_le bs j HZj.out⟩; clear hR hst)
              | (go_at_call 13; (with_reducible refine (lodestarref09_Same.calls (rs.length + 1) A4 c4 rs A5 c5 rs true w5 HC4.out.2 HC4.out.1 HC5.out.2 HC5.out.1 (same_self rs (rs.length + 1) (by have h1 := HRL.out; have h2 := HJ.out; omega) (by omega))).mono ?_); rintro e w6 ⟨rfl, ⟨nd, rfl⟩⟩)
              | go_in)
            go_loopw [20] (fun vi wr => ∃ q : Nat, vi = .int .i64 q ∧ q ≤ 50 ∧ Drawn0 w5 wr) (fun vi _ => 50 - (intOf vi).toNat)
            case atStart => exact ⟨0, rfl, Nat.zero_le _, ⟨⟨_, rfl⟩⟩⟩
            case round =>
              obtain ⟨q, rfl, hq, ⟨m1, rfl⟩⟩ := hrel
              by_cases htq : q < rs.length
              · have hdq : decide ((q : Int) < (rs.length : Int)) = true := by simpa using htq
                obtain ⟨x, hx⟩ : ∃ x, bs[q]? = some x := ⟨_, List.getElem?_eq_getElem (by have h1 := HRL.out; have h2 := HJ.out; have h3 := H6.out.1; omega)⟩
                have hxr : rs[q]? = some ⟨((1 + q : Nat) : Int), x⟩ := by rw [HRS.out]; exact recs_get _ 1 q x (by rw [List.getElem?_take, if_pos (by have h1 := HRL.out; omega)]; exact hx)
                obtain ⟨b1, o1, rfl, y0, y1⟩ := row_cell HC4.out.2 hxr
                obtain ⟨b0, o0, rfl, y2⟩ := HS.out w5 HB5.out q x hx
                have hcast : ((1 + q : Nat) : Int) = (q : Int) + 1 := by omega
                simp only [hcast] at y0 y1
                have h5q : q < 50 := by have h1 := HRL.out; have h2 := HJ.out; omega
                have hlb : decide ((q : Int) < (bs.length : Int)) = true := by have := (List.getElem?_eq_some_iff.1 hx).1; simpa using this
                clear hx hxr hcast
                go_wp2
                go_quiet (fail)
                go_wp2
                go_simp
                have hms := meas h5q
                exact ⟨⟨q + 1, by simp, by omega, ⟨⟨_, rfl⟩⟩⟩, by simpa [intOf] using hms⟩
              · have hdq : decide ((q : Int) < (rs.length : Int)) = false := by simpa using htq
                go_wp2
                go_ret
                exact ⟨rfl, HF.out _ (Below.drewN HB5.out _)⟩
        · have hd5 : decide (1 ≤ sy) = false := by simpa using hp
          have hlt8 : ∀ (rs : List S23), least sy i ≤ rs.length → decide ((rs.length : Int) < 0) = false := fun rs h => decide_eq_false (by unfold least at h; omega)
          have hlt9 : ∀ (rs : List S23), rs.length ≤ i → decide ((i : Int) < (rs.length : Int)) = false := fun rs h => decide_eq_false (by omega)
          have HD8 := Aside0.mk hlt8
          have HD9 := Aside0.mk hlt9
          clear hlt8 hlt9
          have z01 := HX.out wr H6.out.2.2.stay
          have z0 := z01.1
          have z1 := z01.2
          clear z01
          go_wp2_with (first
            | (go_at_call 12; (with_reducible refine (cr_st H6.out.2.2 n l (HI.out _ H6.out.2.2.stay) HO.out HLe.out hi (by omega)).mono ?_); rintro e w3 ⟨rfl, c, hcl, hcu, hst⟩; obtain ⟨j, hji, hjl, hop⟩ := op_st1 hst HG.out H1.out hi H6.out.1 H6.out.2.1 HLe.out hcu; have hle := hjl _ hcl (least_le sy i); obtain ⟨rs, hrs⟩ : ∃ rs, rs = RECS 1 (bs.take j) := ⟨_, rfl⟩; have hrl : rs.length = j := (by rw [hrs, RECS_length, List.length_take]; have := H6.out.1; omega); have HRL := Aside0.mk hrl; have HRS := Aside0.mk hrs; rw [← hrs] at hop; have HOp := Aside0.mk hop; have HJ := Aside0.mk hji; have hd8 := HD8.out rs (by rw [hrl]; exact hle); have hd9 := HD9.out rs (by rw [hrl]; exact hji); have hd9m : (i < rs.length) = False := eq_false (by omega); have hd9n : rs.length ≤ i := (by omega); clear hcl hcu hst hji hjl hop hle hrl hrs z0 z1)
            | (go_at_call 5; (with_reducible refine ((HRS.out ▸ op_st2 (bs := bs) L4.out.2 (HRS.out ▸ L4.out.1) HG.out H1.out (Nat.le_trans HJ.out hi) (HZj.out) (HLj.out) : Calls Tryd.prog 5 #[.pointer (some ⟨d, 0, none⟩), .string nLog] w4 _)).mono ?_); rintro e w5 ⟨A5, c5, g5, rfl, hc5, hC5, hc4, hC4, hs5, hb5⟩; have HC5 := Aside0.mk (And.intro hc5 hC5); have HC4 := Aside0.mk (And.intro hc4 hC4); have HB5 := Aside0.mk hb5; clear hc5 hC5 hc4 hC4 hs5 hb5)
            | (go_at_call 5; (with_reducible refine HOp.out.mono ?_); rintro e w4 ⟨A4, c4, g4, Y, rfl, hR, hst⟩; have L4 := Aside0.mk (And.intro hR hst); have HZj : Aside0 (∀ b ∈ bs.take j, b.size ≤ 65536) := ⟨fun b hb => H6.out.2.1 b (by rw [← take_take_le HJ.out] at hb; exact List.mem_of_mem_take hb)⟩; have HLj : Aside0 (LEN (bs.take j) ≤ 65556 * j) := ⟨len_le bs j HZj.out⟩; clear hR hst)
            | (go_at_call 13; (with_reducible refine (lodestarref09_Same.calls (rs.length + 1) A4 c4 rs A5 c5 rs true w5 HC4.out.2 HC4.out.1 HC5.out.2 HC5.out.1 (same_self rs (rs.length + 1) (by have h1 := HRL.out; have h2 := HJ.out; omega) (by omega))).mono ?_); rintro e w6 ⟨rfl, ⟨nd, rfl⟩⟩)
            | go_in)
          go_loopw [20] (fun vi wr => ∃ q : Nat, vi = .int .i64 q ∧ q ≤ 50 ∧ Drawn0 w5 wr) (fun vi _ => 50 - (intOf vi).toNat)
          case atStart => exact ⟨0, rfl, Nat.zero_le _, ⟨⟨_, rfl⟩⟩⟩
          case round =>
            obtain ⟨q, rfl, hq, ⟨m1, rfl⟩⟩ := hrel
            by_cases htq : q < rs.length
            · have hdq : decide ((q : Int) < (rs.length : Int)) = true := by simpa using htq
              obtain ⟨x, hx⟩ : ∃ x, bs[q]? = some x := ⟨_, List.getElem?_eq_getElem (by have h1 := HRL.out; have h2 := HJ.out; have h3 := H6.out.1; omega)⟩
              have hxr : rs[q]? = some ⟨((1 + q : Nat) : Int), x⟩ := by rw [HRS.out]; exact recs_get _ 1 q x (by rw [List.getElem?_take, if_pos (by have h1 := HRL.out; omega)]; exact hx)
              obtain ⟨b1, o1, rfl, y0, y1⟩ := row_cell HC4.out.2 hxr
              obtain ⟨b0, o0, rfl, y2⟩ := HS.out w5 HB5.out q x hx
              have hcast : ((1 + q : Nat) : Int) = (q : Int) + 1 := by omega
              simp only [hcast] at y0 y1
              have h5q : q < 50 := by have h1 := HRL.out; have h2 := HJ.out; omega
              have hlb : decide ((q : Int) < (bs.length : Int)) = true := by have := (List.getElem?_eq_some_iff.1 hx).1; simpa using this
              clear hx hxr hcast
              go_wp2
              go_quiet (fail)
              go_wp2
              go_simp
              have hms := meas h5q
              exact ⟨⟨q + 1, by simp, by omega, ⟨⟨_, rfl⟩⟩⟩, by simpa [intOf] using hms⟩
            · have hdq : decide ((q : Int) < (rs.length : Int)) = false := by simpa using htq
              go_wp2
              go_ret
              exact ⟨rfl, HF.out _ (Below.drewN HB5.out _)⟩
    · have hd1 : decide ((i : Int) < (bs.length : Int)) = false := by simpa using ht
      have hie : min (bs.length : Int) 50 = (i : Int) := by have := H6.out.1; omega
      have HLe : Aside0 (LEN (bs.take i) ≤ 65556 * i) := ⟨len_le bs i H6.out.2.1⟩
      by_cases hp : 1 ≤ sy
      · have hd5 : decide (1 ≤ sy) = true := by simpa using hp
        by_cases hn : sy ≤ (i : Int)
        · have hd6 : decide (sy ≤ (i : Int)) = true := decide_eq_true hn
          have hlt8 : ∀ (rs : List S23), least sy i ≤ rs.length → decide ((rs.length : Int) < sy) = false := fun rs h => decide_eq_false (by unfold least at h; rw [if_pos (by omega)] at h; omega)
          have hlt9 : ∀ (rs : List S23), rs.length ≤ i → decide ((i : Int) < (rs.length : Int)) = false := fun rs h => decide_eq_false (by omega)
          have HD8 := Aside0.mk hlt8
          have HD9 := Aside0.mk hlt9
          clear hlt8 hlt9
          have z01 := HX.out wr H6.out.2.2.stay
          have z0 := z01.1
          have z1 := z01.2
          clear z01
          go_wp2_with (first
            | (go_at_call 12; (with_reducible refine (cr_st H6.out.2.2 n l (HI.out _ H6.out.2.2.stay) HO.out HLe.out hi (by omega)).mono ?_); rintro e w3 ⟨rfl, c, hcl, hcu, hst⟩; obtain ⟨j, hji, hjl, hop⟩ := op_st1 hst HG.out H1.out hi H6.out.1 H6.out.2.1 HLe.out hcu; have hle := hjl _ hcl (least_le sy i); obtain ⟨rs, hrs⟩ : ∃ rs, rs = RECS 1 (bs.take j) := ⟨_, rfl⟩; have hrl : rs.length = j := (by rw [hrs, RECS_length, List.length_take]; have := H6.out.1; omega); have HRL := Aside0.mk hrl; have HRS := Aside0.mk hrs; rw [← hrs] at hop; have HOp := Aside0.mk hop; have HJ := Aside0.mk hji; have hd8 := HD8.out rs (by rw [hrl]; exact hle); have hd9 := HD9.out rs (by rw [hrl]; exact hji); have hd9m : (i < rs.length) = False := eq_false (by omega); have hd9n : rs.length ≤ i := (by omega); clear hcl hcu hst hji hjl hop hle hrl hrs z0 z1)
            | (go_at_call 5; (with_reducible refine ((HRS.out ▸ op_st2 (bs := bs) L4.out.2 (HRS.out ▸ L4.out.1) HG.out H1.out (Nat.le_trans HJ.out hi) (HZj.out) (HLj.out) : Calls Tryd.prog 5 #[.pointer (some ⟨d, 0, none⟩), .string nLog] w4 _)).mono ?_); rintro e w5 ⟨A5, c5, g5, rfl, hc5, hC5, hc4, hC4, hs5, hb5⟩; have HC5 := Aside0.mk (And.intro hc5 hC5); have HC4 := Aside0.mk (And.intro hc4 hC4); have HB5 := Aside0.mk hb5; clear hc5 hC5 hc4 hC4 hs5 hb5)
            | (go_at_call 5; (with_reducible refine HOp.out.mono ?_); rintro e w4 ⟨A4, c4, g4, Y, rfl, hR, hst⟩; have L4 := Aside0.mk (And.intro hR hst); have HZj : Aside0 (∀ b ∈ bs.take j, b.size ≤ 65536) := ⟨fun b hb => H6.out.2.1 b (by rw [← take_take_le HJ.out] at hb; exact List.mem_of_mem_take hb)⟩; have HLj : Aside0 (LEN (bs.take j) ≤ 65556 * j) := ⟨len_le bs j HZj.out⟩; clear hR hst)
            | (go_at_call 13; (with_reducible refine (lodestarref09_Same.calls (rs.length + 1) A4 c4 rs A5 c5 rs true w5 HC4.out.2 HC4.out.1 HC5.out.2 HC5.out.1 (same_self rs (rs.length + 1) (by have h1 := HRL.out; have h2 := HJ.out; omega) (by omega))).mono ?_); rintro e w6 ⟨rfl, ⟨nd, rfl⟩⟩)
            | go_in)
          go_loopw [20] (fun vi wr => ∃ q : Nat, vi = .int .i64 q ∧ q ≤ 50 ∧ Drawn0 w5 wr) (fun vi _ => 50 - (intOf vi).toNat)
          case atStart => exact ⟨0, rfl, Nat.zero_le _, ⟨⟨_, rfl⟩⟩⟩
          case round =>
            obtain ⟨q, rfl, hq, ⟨m1, rfl⟩⟩ := hrel
            by_cases htq : q < rs.length
            · have hdq : decide ((q : Int) < (rs.length : Int)) = true := by simpa using htq
              obtain ⟨x, hx⟩ : ∃ x, bs[q]? = some x := ⟨_, List.getElem?_eq_getElem (by have h1 := HRL.out; have h2 := HJ.out; have h3 := H6.out.1; omega)⟩
              have hxr : rs[q]? = some ⟨((1 + q : Nat) : Int), x⟩ := by rw [HRS.out]; exact recs_get _ 1 q x (by rw [List.getElem?_take, if_pos (by have h1 := HRL.out; omega)]; exact hx)
              obtain ⟨b1, o1, rfl, y0, y1⟩ := row_cell HC4.out.2 hxr
              obtain ⟨b0, o0, rfl, y2⟩ := HS.out w5 HB5.out q x hx
              have hcast : ((1 + q : Nat) : Int) = (q : Int) + 1 := by omega
              simp only [hcast] at y0 y1
              have h5q : q < 50 := by have h1 := HRL.out; have h2 := HJ.out; omega
              have hlb : decide ((q : Int) < (bs.length : Int)) = true := by have := (List.getElem?_eq_some_iff.1 hx).1; simpa using this
              clear hx hxr hcast
              go_wp2
              go_quiet (fail)
              go_wp2
              go_simp
              have hms := meas h5q
              exact ⟨⟨q + 1, by simp, by omega, ⟨⟨_, rfl⟩⟩⟩, by simpa [intOf] using hms⟩
            · have hdq : decide ((q : Int) < (rs.length : Int)) = false := by simpa using htq
              go_wp2
              go_ret
              exact ⟨rfl, HF.out _ (Below.drewN HB5.out _)⟩
        · have hd6 : decide (sy ≤ (i : Int)) = false := decide_eq_false hn
          have hlt8 : ∀ (rs : List S23), least sy i ≤ rs.length → decide ((rs.length : Int) < 0) = false := fun rs h => decide_eq_false (by unfold least at h; omega)
          have hlt9 : ∀ (rs : List S23), rs.length ≤ i → decide ((i : Int) < (rs.length : Int)) = false := fun rs h => decide_eq_false (by omega)
          have HD8 := Aside0.mk hlt8
          have HD9 := Aside0.mk hlt9
          clear hlt8 hlt9
          have z01 := HX.out wr H6.out.2.2.stay
          have z0 := z01.1
          have z1 := z01.2
          clear z01
          go_wp2_with (first
            | (go_at_call 12; (with_reducible refine (cr_st H6.out.2.2 n l (HI.out _ H6.out.2.2.stay) HO.out HLe.out hi (by omega)).mono ?_); rintro e w3 ⟨rfl, c, hcl, hcu, hst⟩; obtain ⟨j, hji, hjl, hop⟩ := op_st1 hst HG.out H1.out hi H6.out.1 H6.out.2.1 HLe.out hcu; have hle := hjl _ hcl (least_le sy i); obtain ⟨rs, hrs⟩ : ∃ rs, rs = RECS 1 (bs.take j) := ⟨_, rfl⟩; have hrl : rs.length = j := (by rw [hrs, RECS_length, List.length_take]; have := H6.out.1; omega); have HRL := Aside0.mk hrl; have HRS := Aside0.mk hrs; rw [← hrs] at hop; have HOp := Aside0.mk hop; have HJ := Aside0.mk hji; have hd8 := HD8.out rs (by rw [hrl]; exact hle); have hd9 := HD9.out rs (by rw [hrl]; exact hji); have hd9m : (i < rs.length) = False := eq_false (by omega); have hd9n : rs.length ≤ i := (by omega); clear hcl hcu hst hji hjl hop hle hrl hrs z0 z1)
            | (go_at_call 5; (with_reducible refine ((HRS.out ▸ op_st2 (bs := bs) L4.out.2 (HRS.out ▸ L4.out.1) HG.out H1.out (Nat.le_trans HJ.out hi) (HZj.out) (HLj.out) : Calls Tryd.prog 5 #[.pointer (some ⟨d, 0, none⟩), .string nLog] w4 _)).mono ?_); rintro e w5 ⟨A5, c5, g5, rfl, hc5, hC5, hc4, hC4, hs5, hb5⟩; have HC5 := Aside0.mk (And.intro hc5 hC5); have HC4 := Aside0.mk (And.intro hc4 hC4); have HB5 := Aside0.mk hb5; clear hc5 hC5 hc4 hC4 hs5 hb5)
            | (go_at_call 5; (with_reducible refine HOp.out.mono ?_); rintro e w4 ⟨A4, c4, g4, Y, rfl, hR, hst⟩; have L4 := Aside0.mk (And.intro hR hst); have HZj : Aside0 (∀ b ∈ bs.take j, b.size ≤ 65536) := ⟨fun b hb => H6.out.2.1 b (by rw [← take_take_le HJ.out] at hb; exact List.mem_of_mem_take hb)⟩; have HLj : Aside0 (LEN (bs.take j) ≤ 65556 * j) := ⟨len_le bs j HZj.out⟩; clear hR hst)
            | (go_at_call 13; (with_reducible refine (lodestarref09_Same.calls (rs.length + 1) A4 c4 rs A5 c5 rs true w5 HC4.out.2 HC4.out.1 HC5.out.2 HC5.out.1 (same_self rs (rs.length + 1) (by have h1 := HRL.out; have h2 := HJ.out; omega) (by omega))).mono ?_); rintro e w6 ⟨rfl, ⟨nd, rfl⟩⟩)
            | go_in)
          go_loopw [20] (fun vi wr => ∃ q : Nat, vi = .int .i64 q ∧ q ≤ 50 ∧ Drawn0 w5 wr) (fun vi _ => 50 - (intOf vi).toNat)
          case atStart => exact ⟨0, rfl, Nat.zero_le _, ⟨⟨_, rfl⟩⟩⟩
          case round =>
            obtain ⟨q, rfl, hq, ⟨m1, rfl⟩⟩ := hrel
            by_cases htq : q < rs.length
            · have hdq : decide ((q : Int) < (rs.length : Int)) = true := by simpa using htq
              obtain ⟨x, hx⟩ : ∃ x, bs[q]? = some x := ⟨_, List.getElem?_eq_getElem (by have h1 := HRL.out; have h2 := HJ.out; have h3 := H6.out.1; omega)⟩
              have hxr : rs[q]? = some ⟨((1 + q : Nat) : Int), x⟩ := by rw [HRS.out]; exact recs_get _ 1 q x (by rw [List.getElem?_take, if_pos (by have h1 := HRL.out; omega)]; exact hx)
              obtain ⟨b1, o1, rfl, y0, y1⟩ := row_cell HC4.out.2 hxr
              obtain ⟨b0, o0, rfl, y2⟩ := HS.out w5 HB5.out q x hx
              have hcast : ((1 + q : Nat) : Int) = (q : Int) + 1 := by omega
              simp only [hcast] at y0 y1
              have h5q : q < 50 := by have h1 := HRL.out; have h2 := HJ.out; omega
              have hlb : decide ((q : Int) < (bs.length : Int)) = true := by have := (List.getElem?_eq_some_iff.1 hx).1; simpa using this
              clear hx hxr hcast
              go_wp2
              go_quiet (fail)
              go_wp2
              go_simp
              have hms := meas h5q
              exact ⟨⟨q + 1, by simp, by omega, ⟨⟨_, rfl⟩⟩⟩, by simpa [intOf] using hms⟩
            · have hdq : decide ((q : Int) < (rs.length : Int)) = false := by simpa using htq
              go_wp2
              go_ret
              exact ⟨rfl, HF.out _ (Below.drewN HB5.out _)⟩
      · have hd5 : decide (1 ≤ sy) = false := by simpa using hp
        have hlt8 : ∀ (rs : List S23), least sy i ≤ rs.length → decide ((rs.length : Int) < 0) = false := fun rs h => decide_eq_false (by unfold least at h; omega)
        have hlt9 : ∀ (rs : List S23), rs.length ≤ i → decide ((i : Int) < (rs.length : Int)) = false := fun rs h => decide_eq_false (by omega)
        have HD8 := Aside0.mk hlt8
        have HD9 := Aside0.mk hlt9
        clear hlt8 hlt9
        have z01 := HX.out wr H6.out.2.2.stay
        have z0 := z01.1
        have z1 := z01.2
        clear z01
        go_wp2_with (first
          | (go_at_call 12; (with_reducible refine (cr_st H6.out.2.2 n l (HI.out _ H6.out.2.2.stay) HO.out HLe.out hi (by omega)).mono ?_); rintro e w3 ⟨rfl, c, hcl, hcu, hst⟩; obtain ⟨j, hji, hjl, hop⟩ := op_st1 hst HG.out H1.out hi H6.out.1 H6.out.2.1 HLe.out hcu; have hle := hjl _ hcl (least_le sy i); obtain ⟨rs, hrs⟩ : ∃ rs, rs = RECS 1 (bs.take j) := ⟨_, rfl⟩; have hrl : rs.length = j := (by rw [hrs, RECS_length, List.length_take]; have := H6.out.1; omega); have HRL := Aside0.mk hrl; have HRS := Aside0.mk hrs; rw [← hrs] at hop; have HOp := Aside0.mk hop; have HJ := Aside0.mk hji; have hd8 := HD8.out rs (by rw [hrl]; exact hle); have hd9 := HD9.out rs (by rw [hrl]; exact hji); have hd9m : (i < rs.length) = False := eq_false (by omega); have hd9n : rs.length ≤ i := (by omega); clear hcl hcu hst hji hjl hop hle hrl hrs z0 z1)
          | (go_at_call 5; (with_reducible refine ((HRS.out ▸ op_st2 (bs := bs) L4.out.2 (HRS.out ▸ L4.out.1) HG.out H1.out (Nat.le_trans HJ.out hi) (HZj.out) (HLj.out) : Calls Tryd.prog 5 #[.pointer (some ⟨d, 0, none⟩), .string nLog] w4 _)).mono ?_); rintro e w5 ⟨A5, c5, g5, rfl, hc5, hC5, hc4, hC4, hs5, hb5⟩; have HC5 := Aside0.mk (And.intro hc5 hC5); have HC4 := Aside0.mk (And.intro hc4 hC4); have HB5 := Aside0.mk hb5; clear hc5 hC5 hc4 hC4 hs5 hb5)
          | (go_at_call 5; (with_reducible refine HOp.out.mono ?_); rintro e w4 ⟨A4, c4, g4, Y, rfl, hR, hst⟩; have L4 := Aside0.mk (And.intro hR hst); have HZj : Aside0 (∀ b ∈ bs.take j, b.size ≤ 65536) := ⟨fun b hb => H6.out.2.1 b (by rw [← take_take_le HJ.out] at hb; exact List.mem_of_mem_take hb)⟩; have HLj : Aside0 (LEN (bs.take j) ≤ 65556 * j) := ⟨len_le bs j HZj.out⟩; clear hR hst)
          | (go_at_call 13; (with_reducible refine (lodestarref09_Same.calls (rs.length + 1) A4 c4 rs A5 c5 rs true w5 HC4.out.2 HC4.out.1 HC5.out.2 HC5.out.1 (same_self rs (rs.length + 1) (by have h1 := HRL.out; have h2 := HJ.out; omega) (by omega))).mono ?_); rintro e w6 ⟨rfl, ⟨nd, rfl⟩⟩)
          | go_in)
        go_loopw [20] (fun vi wr => ∃ q : Nat, vi = .int .i64 q ∧ q ≤ 50 ∧ Drawn0 w5 wr) (fun vi _ => 50 - (intOf vi).toNat)
        case atStart => exact ⟨0, rfl, Nat.zero_le _, ⟨⟨_, rfl⟩⟩⟩
        case round =>
          obtain ⟨q, rfl, hq, ⟨m1, rfl⟩⟩ := hrel
          by_cases htq : q < rs.length
          · have hdq : decide ((q : Int) < (rs.length : Int)) = true := by simpa using htq
            obtain ⟨x, hx⟩ : ∃ x, bs[q]? = some x := ⟨_, List.getElem?_eq_getElem (by have h1 := HRL.out; have h2 := HJ.out; have h3 := H6.out.1; omega)⟩
            have hxr : rs[q]? = some ⟨((1 + q : Nat) : Int), x⟩ := by rw [HRS.out]; exact recs_get _ 1 q x (by rw [List.getElem?_take, if_pos (by have h1 := HRL.out; omega)]; exact hx)
            obtain ⟨b1, o1, rfl, y0, y1⟩ := row_cell HC4.out.2 hxr
            obtain ⟨b0, o0, rfl, y2⟩ := HS.out w5 HB5.out q x hx
            have hcast : ((1 + q : Nat) : Int) = (q : Int) + 1 := by omega
            simp only [hcast] at y0 y1
            have h5q : q < 50 := by have h1 := HRL.out; have h2 := HJ.out; omega
            have hlb : decide ((q : Int) < (bs.length : Int)) = true := by have := (List.getElem?_eq_some_iff.1 hx).1; simpa using this
            clear hx hxr hcast
            go_wp2
            go_quiet (fail)
            go_wp2
            go_simp
            have hms := meas h5q
            exact ⟨⟨q + 1, by simp, by omega, ⟨⟨_, rfl⟩⟩⟩, by simpa [intOf] using hms⟩
          · have hdq : decide ((q : Int) < (rs.length : Int)) = false := by simpa using htq
            go_wp2
            go_ret
            exact ⟨rfl, HF.out _ (Below.drewN HB5.out _)⟩
end Go.Proofs.YtdnfflfofgeokaaDoor.WalL
