/- DiskPlays, walked. -/
import Derived.Test.YtokienfegjlocaaRfV1
import Derived.Test.YtokienfegjlocaaRfVV
import Derived.Test.YtokienfegjlocaaRfV3
import Derived.Test.YtokienfegjlocaaDkQ
namespace Go.Proofs.Ytokienfegjlocaa.Rf
open Go.RowKit Go.Maps Go.Sort Go.Proofs.YtokienfegjlocaaW.PrintWords Go.Proofs.Ytokienfegjlocaa.PRef Go.Proofs.Ytokienfegjlocaa.Dk

/-! ### deeds as they come in -/
structure Deed where
  kind : Int
  a : ByteArray
  b : ByteArray
  n : Int
  faults : List S41
  crash : Int × List Int
def kCr : Kd (Int × List Int) := Kd.iso (Kd.pair (Kd.int .i64) (Kd.slice 3 (Kd.int .i64))) id
def k55 : Kd Deed := Kd.iso (Kd.pair (Kd.int .i64) (Kd.pair Kd.string (Kd.pair Kd.string (Kd.pair (Kd.int .i64) (Kd.pair (Kd.slice 41 k41) kCr))))) (fun x : Deed => (x.kind, x.a, x.b, x.n, x.faults, x.crash))
def wtD (x : Deed) : Nat := x.a.size + x.b.size + x.faults.length + 3
def sumD : List Deed → Nat
  | [] => 0
  | x :: l => wtD x + sumD l
theorem spot_none {w : World} {a : Addr} {u : Value} (h : w.cell? a = some u) : a = ⟨a.block, a.off, none⟩ := by
  obtain ⟨b, o, s⟩ := a
  cases s with
  | none => rfl
  | some k =>
    unfold World.cell? at h
    split at h
    · simp at h
    · cases h
theorem ints_of {w : World} {A : Option Addr} {l : List Int} (c : Nat) (hC : Kd.C (Kd.int .i64) w A l.length l) : IntsAt w (.slice A l.length c) l := by
  refine ⟨A, c, rfl, fun i y hy => ?_⟩
  have hlt : i < l.length := (List.getElem?_eq_some_iff.1 hy).1
  have hpos : 0 < l.length := Nat.lt_of_le_of_lt (Nat.zero_le _) hlt
  obtain ⟨ad, hA, hc⟩ := hC.2.2 hpos
  obtain ⟨z, hz⟩ : ∃ z, l[0]? = some z := ⟨_, List.getElem?_eq_getElem hpos⟩
  obtain ⟨c0, _, h2, h3⟩ := hc 0 z hz
  obtain ⟨cc, _, h5, h6⟩ := hc i y hy
  have e2 : c0 = [.int .i64 z] := h2
  have e5 : cc = [.int .i64 y] := h5
  have h7 := h3 0 (.int .i64 z) (by rw [e2]; rfl)
  have h8 := h6 0 (.int .i64 y) (by rw [e5]; rfl)
  have e1 : (0 : Nat) * (Kd.int .i64).sz + 0 = 0 := rfl
  have ha : ad.add 0 = ad := by simp [Addr.add]
  rw [e1, ha] at h7
  have hs := spot_none h7
  rw [hs] at hA h8
  refine ⟨_, _, hA, ?_⟩
  rw [Addr.add_lit] at h8
  have e : i * (Kd.int .i64).sz + 0 = i := by show i * 1 + 0 = i; omega
  rw [e] at h8
  exact h8
theorem k55_open {w : World} {x : Deed} {cs : List Value} (h : k55.K w x cs) : ∃ Af cf Ab cb, cs = [.int .i64 x.kind, .string x.a, .string x.b, .int .i64 x.n, .slice Af x.faults.length cf, .int .i64 x.crash.1, .slice Ab x.crash.2.length cb] ∧ x.faults.length ≤ cf ∧ Kd.C k41 w Af x.faults.length x.faults ∧ IntsAt w (.slice Ab x.crash.2.length cb) x.crash.2 := by
  obtain ⟨_, _, rfl, rfl, ⟨_, _, rfl, rfl, ⟨_, _, rfl, rfl, ⟨_, _, rfl, rfl, ⟨_, _, rfl, ⟨Af, cf, rfl, hcf, hCf⟩, ⟨_, _, rfl, rfl, ⟨Ab, cb, rfl, hcb, hCb⟩⟩⟩⟩⟩⟩⟩ := h
  exact ⟨Af, cf, Ab, cb, rfl, hcf, hCf, ints_of cb hCb⟩
section
variable {W0 w : World} {d m : Nat} {S : DS} {R : RS} {φ : List Nat} {n n' : Nat}
theorem Fit.mono (h : Fit S R φ n) (hn : n ≤ n') (hl : n' ≤ 8388608) : Fit S R φ n' := ⟨h.sim, h.s.mono hn, h.r.mono hn, hl⟩
theorem Done.mono {w' : World} (h : Done W0 w w' d m n) (hn : n ≤ n') (hl : n' ≤ 8388608) : Done W0 w w' d m n' := by
  obtain ⟨⟨S', R', φ', h1, h2⟩, h3⟩ := h
  exact ⟨⟨S', R', φ', h1, h2.mono hn hl⟩, h3⟩
/-- any deed -/
theorem do_any (hW : Below W0.heap.size W0 w) (h : Two [] W0.heap.size w d m S R) (hF : Fit S R φ n) (x : Deed) (Af Ab : Option Addr) (cf cb : Nat) (hC : Kd.C k41 W0 Af x.faults.length x.faults) (hcf : x.faults.length ≤ cf) (hI : IntsAt W0 (.slice Ab x.crash.2.length cb) x.crash.2) (hle : n + wtD x ≤ 8388608) :
    Calls Try.prog 18 #[.pointer (some ⟨d, 0, none⟩), .pointer (some ⟨m, 0, none⟩), .agg #[.int .i64 x.kind, .string x.a, .string x.b, .int .i64 x.n, .slice Af x.faults.length cf, .int .i64 x.crash.1, .slice Ab x.crash.2.length cb]] w fun e w' => e = .returned (.bool true) ∧ Done W0 w w' d m (n + wtD x) := by
  obtain ⟨kind, a, b, sz, fl, cr⟩ := x
  unfold wtD at hle ⊢
  dsimp only at *
  by_cases h0 : kind = 0
  · subst h0; exact (do0 h hF a b sz cr.1 Af Ab _ cf _ cb (by omega)).mono fun e w' q => ⟨q.1, q.2.mono (by omega) hle⟩
  by_cases h1 : kind = 1
  · subst h1; exact (do1 h hF a b sz cr.1 Af Ab _ cf _ cb (by omega)).mono fun e w' q => ⟨q.1, q.2.mono (by omega) hle⟩
  by_cases h2 : kind = 2
  · subst h2; exact (do2 h hF a b sz cr.1 Af Ab _ cf _ cb (by omega)).mono fun e w' q => ⟨q.1, q.2.mono (by omega) hle⟩
  by_cases h3 : kind = 3
  · subst h3; exact (do3 h hF a b sz cr.1 Af Ab _ cf _ cb (by omega)).mono fun e w' q => ⟨q.1, q.2.mono (by omega) hle⟩
  by_cases h4 : kind = 4
  · subst h4; exact (do4 h hF a b sz cr.1 Af Ab _ cf _ cb (by omega)).mono fun e w' q => ⟨q.1, q.2.mono (by omega) hle⟩
  by_cases h5 : kind = 5
  · subst h5; exact (do5 h hF a b sz cr.1 Af Ab _ cf _ cb (by omega)).mono fun e w' q => ⟨q.1, q.2.mono (by omega) hle⟩
  by_cases h6 : kind = 6
  · subst h6; exact (do6 hW h hF a b sz cr.1 Af Ab cf _ cb fl hC hcf (by omega)).mono fun e w' q => ⟨q.1, q.2.mono (by omega) hle⟩
  by_cases h7 : kind = 7
  · subst h7; exact (do7 hW h hF a b sz cr.1 Af Ab _ cf cb cr.2 hI).mono fun e w' q => ⟨q.1, q.2.mono (by omega) hle⟩
  · exact (do8 h hF kind (by omega) a b sz cr.1 Af Ab _ cf _ cb (by omega)).mono fun e w' q => ⟨q.1, q.2.mono (by omega) hle⟩
end
theorem fit0 : Fit DS.new R0 [] 0 := ⟨new_sim, ⟨Int.le_refl _, Nat.le_refl _, Nat.le_refl _, fun c hc => (List.not_mem_nil hc).elim, fun f hf => (List.not_mem_nil hf).elim⟩, ⟨Nat.le_refl _, Nat.le_refl _, fun f hf => (List.not_mem_nil hf).elim⟩, by decide⟩
theorem two0 {W w1 w2 : World} {d g mb : Nat} (hb1 : Below W.heap.size W w1) (hA : At (fun k => W.heap.size ≤ k ∧ k < w1.heap.size) w1 d DS.new mb [] (.slice none 0 0) (.slice none 0 0)) (hb : Below w1.heap.size w1 w2) (hg : g = w1.heap.size) (hx : w2.heap[g]? = some (.cells #[.slice none 0 0, .slice none 0 0, .slice none 0 0, .slice none 0 0, .slice none 0 0, .int .i64 0] 52 (0, 0))) : Two [] W.heap.size w2 d g DS.new R0 :=
  ⟨_, _, _, _, _, (· = g), _, _, _, _, _, hA.below hb,
    { blk := hx
      files := Kd.R_nil _ _ _ _ _
      now := Kd.R_nil _ _ _ _ _
      last := Kd.R_nil _ _ _ _ _
      opn := Kd.R_nil _ _ _ _ _
      faults := Kd.R_nil _ _ _ _ _
      ownm := rfl
      bnd := fun k hk => by rw [hk]; exact blk_lt hx }, fun k hk e => by omega, fun k hk => hk.1, fun k hk => by have := hb1.size; omega, fun p hp => (List.not_mem_nil hp).elim⟩
set_option maxRecDepth 100000 in
set_option maxHeartbeats 4000000 in
theorem plays_calls (W : World) (l : List Deed) {A : Option Addr} {c : Nat} (hC : Kd.C k55 W A l.length l) (hs : sumD l ≤ 8388608) (hll : l.length ≤ 8388608) :
    Calls Try.prog 6 #[.slice A l.length c] W fun e w' => e = .returned (.bool true) ∧ Below W.heap.size W w' := by
  have HC := Aside0.mk hC
  have HS := Aside0.mk hs
  clear hC hs
  go_enter Try.func6, Try.ntmps6
  go_wp2_with (first
    | (go_at_call 8; (with_reducible refine (new_calls _).mono ?_); rintro e w1 ⟨d, mb, rfl, hb, hA⟩; have HA := Aside0.mk hA; have B1 := Aside0.mk hb; clear hA hb)
    | ((with_reducible refine gate_dst (N := 8) rfl ?_); refine box_event ?hg (N := 8) ?hd (cs := #[.slice none 0 0, .slice none 0 0, .slice none 0 0, .slice none 0 0, .slice none 0 0, .int .i64 0]) (t := 52) ?hr ?_; (case hd => rfl); (case hg => rfl); (case hr => first | (go_simp; done) | (go_simp; rfl)); intro g hgb w2 hbox hb; have H2 := Aside0.mk (two0 B1.out HA.out hb hgb hbox); have B2 := Aside0.mk (B1.out.trans (hb.mono B1.out.size)); clear hbox hb hgb)
    | go_in)
  go_loopw [5] (fun vi wr => ∃ (i : Nat) (S : DS) (R : RS) (φ : List Nat) (n : Nat), vi = .int .i64 i ∧ i ≤ l.length ∧ Aside0 (Two [] W.heap.size wr d g S R) ∧ Aside0 (Fit S R φ n) ∧ Aside0 (n + sumD (l.drop i) ≤ 8388608) ∧ Aside0 (Below W.heap.size W wr)) (fun vi _ => l.length - (intOf vi).toNat)
  case atStart => exact ⟨0, DS.new, R0, [], 0, rfl, Nat.zero_le _, H2, ⟨fit0⟩, ⟨by rw [List.drop_zero]; have := HS.out; omega⟩, B2⟩
  case round =>
    obtain ⟨i, S, R, φ, n, rfl, hi, HT, HF, HN, HB⟩ := hrel
    by_cases ht : i < l.length
    · have hd1 : decide ((i : Int) < (l.length : Int)) = true := by simpa using ht
      obtain ⟨x, hx⟩ : ∃ x, l[i]? = some x := ⟨_, List.getElem?_eq_getElem ht⟩
      have hdr : l.drop i = x :: l.drop (i + 1) := by
        rw [List.drop_eq_getElem_cons ht]
        have := List.getElem?_eq_some_iff.1 hx
        rw [this.2]
      have hN2 : (n + wtD x) + sumD (l.drop (i + 1)) ≤ 8388608 := by
        have := HN.out
        rw [hdr, sumD] at this
        omega
      obtain ⟨ad, hA, hcell⟩ := HC.out.2.2 (by omega)
      obtain ⟨cl, _, hcl, hce⟩ := hcell i x hx
      obtain ⟨Af, cf, Ab, cb, rfl, hcf, hCf, hI⟩ := k55_open hcl
      have CD := Aside0.mk (do_any HB.out HT.out HF.out x Af Ab cf cb hCf hcf hI (by omega))
      subst hA
      have hlt : ∀ j u, ([.int .i64 x.kind, .string x.a, .string x.b, .int .i64 x.n, .slice Af x.faults.length cf, .int .i64 x.crash.1, .slice Ab x.crash.2.length cb] : List Value)[j]? = some u → wr.cell? (ad.add (i * 7 + j)) = some u := fun j u hu => by
        have h1 := hce j u hu
        rw [show k55.sz = 7 from rfl] at h1
        exact (HB.out.cell (World.block_lt_of_cell? W _ h1)).trans h1
      have y0 := hlt 0 _ rfl
      have hlt2 : ∀ j u, 0 < j → ([.int .i64 x.kind, .string x.a, .string x.b, .int .i64 x.n, .slice Af x.faults.length cf, .int .i64 x.crash.1, .slice Ab x.crash.2.length cb] : List Value)[j]? = some u → wr.cell? ⟨(ad.add (i * 7)).block, (ad.add (i * 7)).off + j, none⟩ = some u := fun j u hj hu => by
        rw [← add_field _ _ j hj]
        exact hlt j u hu
      have y1 := hlt2 1 _ (by decide) rfl
      have y2 := hlt2 2 _ (by decide) rfl
      have y3 := hlt2 3 _ (by decide) rfl
      have y4 := hlt2 4 _ (by decide) rfl
      have y5 := hlt2 5 _ (by decide) rfl
      have y6 := hlt2 6 _ (by decide) rfl
      rw [Nat.add_zero] at y0
      have HN2 := Aside0.mk hN2
      clear hx hdr hN2 hcell hce hcl hlt hlt2 hcf hCf hI
      go_wp2_with (first
        | (go_at_call 18; (with_reducible refine (CD.out).mono ?_); rintro e w3 ⟨rfl, ⟨S1, R1, φ1, hT1, hF1⟩, hB1⟩; have HT1 := Aside0.mk hT1; have HF1 := Aside0.mk hF1; have HB1 := Aside0.mk (HB.out.trans hB1); clear hT1 hF1 hB1)
        | (go_at_call 19; (with_reducible refine (like_calls HT1.out HF1.out).mono ?_); rintro e w4 ⟨rfl, hT1, hB1⟩; have HT2 := Aside0.mk hT1; have HB2 := Aside0.mk (HB1.out.trans hB1); clear hT1 hB1)
        | go_in)
      have hms := meas ht
      exact ⟨⟨i + 1, S1, R1, φ1, _, by simp, by omega, HT2, HF1, HN2, HB2⟩, by simpa [intOf] using hms⟩
    · have hd1 : decide ((i : Int) < (l.length : Int)) = false := by simpa using ht
      go_wp2_with (first
        | (go_at_call 15; (with_reducible refine (sure_calls _).mono ?_); rintro e wS ⟨rfl, hb⟩; have HE := Aside0.mk (HB.out.trans (hb.mono HB.out.size)); clear hb)
        | go_in)
      go_ret
      exact ⟨rfl, HE.out⟩
end Go.Proofs.Ytokienfegjlocaa.Rf
