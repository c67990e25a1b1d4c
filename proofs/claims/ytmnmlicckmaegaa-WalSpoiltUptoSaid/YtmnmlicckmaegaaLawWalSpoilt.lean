/- Proved: the statement 'WalSpoiltUptoSaid', that is, WalSpoilt answers true for every input of bulk at most 1048576, and the input reads as it did. Conditions: the given row's own (the bulk). -/
import Derived.Test.YtmnmlicckmaegaaRows
import Derived.Test.YtmnmlicckmaegaaOpen
import Derived.Test.YtmnmlicckmaegaaWalE
import Derived.WalkKit
import Derived.ProofKit
import Derived.OpenShut
import Derived.ShutString
import Derived.ChangeOld
import Derived.Below
import Derived.JoinedCond
namespace Go.Proofs.Ytmnmlicckmaegaa.walSpoilt
open Go.ChangeShapes Go.WideShapes Go.ChangeAt Go.RowKit Go.Proofs.Ytmnmlicckmaegaa.Opens Go.Proofs.Ytmnmlicckmaegaa.PWal Go.Proofs.Ytmnmlicckmaegaa.WalA Go.Proofs.Ytmnmlicckmaegaa.WalB Go.Proofs.Ytmnmlicckmaegaa.WalC Go.Proofs.Ytmnmlicckmaegaa.WalD Go.Proofs.Ytmnmlicckmaegaa.WalE Go.Proofs.YtmnmlicckmaegaaW.PrintLast Go.Proofs.YtmnmlicckmaegaaW.PrintMore Go.Proofs.YtmnmlicckmaegaaW.PrintWords
open Go.ChangeMaps (open_string shut_string)

theorem own : ownKnob Try.prog.godebug = none := by kernel_rfl
theorem laidOut : laidOutB Try.prog = true := by kernel_rfl
/-- what is asked of the lengths -/
def Small (l : List ByteArray) : Prop := l.length ≤ 1048576 ∧ LEN l ≤ 1099511627
def Up (l : List ByteArray) (i : Nat) : Prop := ∀ q, (h : q < l.length) → q < i → l[q].size ≤ 65536
theorem awake_any (w : World) : Calls Try.prog 16 #[] w fun e w' => e = .returned (.bool true) ∧ Below w.heap.size w w' := lodestarlaw09_awake.calls 300 true w (awake 300 (by omega))
theorem joined_any (l : List ByteArray) (A0 : Option Addr) (c0 : Nat) (w : World) (hr0 : Kd.C Kd.string w A0 l.length l) (hc0 : l.length ≤ c0) (hs : Small l) (hu : Up l l.length) :
    Calls Try.prog 17 #[.slice A0 l.length c0, .int .i64 1] w fun e w' => ∃ v1_ : Value, e = .returned (.tuple #[.string (JOIN 1 l), v1_, .bool true]) ∧ Kd.R (Kd.int .i64) 3 w' w.heap.size (fun _ => True) v1_ (ENDS l) ∧ Below w.heap.size w w' :=
  lodestarlaw09_joined.calls _ A0 c0 l 1 _ _ _ w hr0 hc0 (joined l 1 (l.length + 30) (by have := hs.1; omega) (by omega) (fun i h => hu i h h) (by have := hs.2; omega) (by have := hs.1; omega) (Nat.le_refl _))
theorem at_in (a : Int) (N : Nat) (h0 : 0 < N) (hN : N ≤ 1099511627) : ∃ p : Nat, p < N ∧ (wrap64 (a.tmod (N : Int) + (N : Int))).tmod (N : Int) = (p : Int) := by
  have h1 : (Int.tmod a (N : Int)) < (N : Int) := Int.tmod_lt_of_pos a (by omega)
  have h2 : -(N : Int) < Int.tmod a (N : Int) := Int.lt_tmod_of_pos a (b := (N : Int)) (by omega)
  generalize Int.tmod a (N : Int) = r at h1 h2
  rw [w64 (by omega) (by omega), Int.tmod_eq_emod_of_nonneg (by omega)]
  have h3 := Int.emod_nonneg (r + N) (b := (N : Int)) (by omega)
  have h4 := Int.emod_lt_of_pos (r + N) (b := (N : Int)) (by omega)
  exact ⟨((r + N) % (N : Int)).toNat, by omega, by omega⟩
theorem spoilt_plain (l : List ByteArray) (s : ByteArray) (p : Nat) (x : Int) (hs : Small l) (hu : Up l l.length) (hj : s = JOIN 1 l) (hp : p < s.size) (h0 : 0 ≤ x) (h1 : x ≤ 255) (hx : ¬ x = 0) :
    ∃ j, j < l.length ∧ (∀ i, i ≤ j → LEN (l.take i) ≤ p) ∧ p < LEN (l.take (j + 1)) ∧ Aside0 (SCAN (strOfNums ((bytesOf s).set p (bits .xor .u8 (bt s (p : Int)) x))) = (RECS 1 (l.take j), (LEN (l.take j) : Int), 90)) := by
  have hps : p < LEN l := by rw [← JOIN_size 1 l, ← hj]; exact hp
  obtain ⟨j, hjl, g1, g2⟩ := whole l p (by omega)
  have hlt : j < l.length := by
    rcases Nat.lt_or_ge j l.length with h | h
    · exact h
    · have hle := g1 j (Nat.le_refl _)
      rw [List.take_of_length_le h] at hle
      omega
  refine ⟨j, hlt, g1, g2 hlt, ⟨?_⟩⟩
  have hok : ∀ i, (h : i < l.length) → OkRec ((1 + i : Nat) : Int) l[i] := fun i h => by
    have := hu i h h
    have := hs.1
    unfold OkRec
    omega
  have hb := bt_range s (p : Int)
  obtain ⟨a, ha⟩ : ∃ a : Nat, bt s (p : Int) = a := ⟨(bt s (p : Int)).toNat, by omega⟩
  obtain ⟨y, rfl⟩ : ∃ y : Nat, x = y := ⟨x.toNat, by omega⟩
  have hxb : bits .xor .u8 (bt s (p : Int)) (y : Int) = ((a ^^^ y : Nat) : Int) := by rw [ha, u8_bits_xor _ _ (by omega) (by omega)]
  have hlt8 : a ^^^ y < 2 ^ 8 := Nat.xor_lt_two_pow (by omega) (by omega)
  have hne : ((a ^^^ y : Nat) : Int) ≠ bt s (p : Int) := by
    rw [ha]
    intro he
    have he' : a ^^^ y = a := by omega
    have := congrArg (fun z => a ^^^ z) he'
    simp only [← Nat.xor_assoc, Nat.xor_self, Nat.zero_xor] at this
    omega
  have hT := turned_set s p ((a ^^^ y : Nat) : Int) hp (by omega) (by omega) hne
  rw [hxb]
  rw [hj] at hT ⊢
  exact SCAN_turned l 1 p j _ _ hok hlt (g1 j (Nat.le_refl _)) (g2 hlt) hT
theorem bytesCells_size (w : World) (e : TypeId) (s : ByteArray) : s.size ≤ (Lib.bytesCells w e s).size := by
  unfold Lib.bytesCells
  simp
theorem set_cell (w1 : World) (s : ByteArray) (p q : Nat) (x : Int) (hp : p < s.size) (hq : q < s.size) :
    ((Lib.bytesWorld w1 5 s).setCell ⟨w1.heap.size, p, none⟩ (.int .u8 x)).cell? ⟨w1.heap.size, q, none⟩ = some (.int .u8 (((bytesOf s).set p x).getD q 0)) := by
  have hl : (bytesOf s).length = s.size := bytesOf_length s
  by_cases e : p = q
  · subst e
    rw [World.cell?_setCell_same _ _ _ (Lib.bytesWorld_cell w1 5 s p hp), List.getD_eq_getElem?_getD, List.getElem?_set_self (by omega)]
    rfl
  · rw [World.cell?_setCell_other _ _ _ _ (fun h => e (by injection h)), Lib.bytesWorld_cell w1 5 s q hq, List.getD_eq_getElem?_getD, List.getD_eq_getElem?_getD, List.getElem?_set_ne e]
    simp only [bytesOf, List.getElem?_map, Array.getElem?_toList]
    rw [Array.getElem?_eq_getElem (show q < s.data.size from hq)]
    rfl
theorem scan_any (s : ByteArray) (r1 : List S23) (r2 r3 : Int) (w : World) (hs : s.size ≤ 1099511627776) (h : Aside0 (SCAN s = (r1, r2, r3))) :
    Calls Try.prog 13 #[.string s] w fun e w' => ∃ v0_ : Value, e = .returned (.tuple #[v0_, .int .i64 r2, .int .i64 r3]) ∧ Kd.R k23 23 w' w.heap.size (fun _ => True) v0_ r1 ∧ Below w.heap.size w w' :=
  wal_Scan.calls (2 * s.size + 40) s r1 r2 r3 w ((walScan s _ hs (Nat.le_refl _)).trans (by rw [h.out]))
theorem set_size (s : ByteArray) (p : Nat) (x : Int) : (strOfNums ((bytesOf s).set p x)).size = s.size := by rw [strOfNums_size, List.length_set, bytesOf_length]
set_option maxHeartbeats 1600000 in
set_option maxRecDepth 100000 in
theorem walk (l : List ByteArray) (A0 : Option Addr) (c0 : Nat) (a1 a2 : Int) (w : World) (hr0 : Kd.C Kd.string w A0 l.length l) (hc0 : l.length ≤ c0) (hs : Small l) (h20 : 0 ≤ a2) (h21 : a2 ≤ 255) :
    Calls Try.prog 5 #[.slice A0 l.length c0, .int .i64 a1, .int .u8 a2] w fun e w' => e = .returned (.bool true) ∧ Below w.heap.size w w' := by
  have HS := Aside0.mk hs
  have HR := Aside0.mk hr0
  have HC := Aside0.mk hc0
  have hl63 : l.length ≤ 1048576 := hs.1
  clear hs hr0 hc0
  go_enter Try.func5, Try.ntmps5
  go_wp2
  go_loop [7] (fun v7 => ∃ i : Nat, i ≤ l.length ∧ v7 = .int .i64 i ∧ Aside0 (Up l i)) (fun v7 => l.length - (intOf v7).toNat)
  case atStart => exact ⟨0, by omega, rfl, ⟨fun q _ h => by omega⟩⟩
  case round =>
    obtain ⟨i, hi, rfl, HU⟩ := hrel
    by_cases hlt : i < l.length
    · have hd : decide ((i : Int) < (l.length : Int)) = true := by simp; omega
      obtain ⟨ad, ea, hc⟩ := Kd.at_string HR.out (i : Int) (by omega) (by omega)
      rw [rdOf_get l i hlt, Int.toNat_natCast] at hc
      subst ea
      by_cases hb : l[i].size ≤ 65536
      · have hbd : decide ((65536 : Int) < (l[i].size : Int)) = false := by simp; omega
        have HU2 : Aside0 (Up l (i + 1)) := ⟨fun q h hq => by
          by_cases e : q = i
          · subst e; exact hb
          · exact HU.out q h (by omega)⟩
        go_wp2
        go_round
        case measure => simp [intOf]; omega
        case rel => exact ⟨i + 1, by omega, by go_num, HU2⟩
      · have hbd : decide ((65536 : Int) < (l[i].size : Int)) = true := by simp; omega
        go_wp2_with (go_at_call 16; (with_reducible refine (awake_any _).mono ?_); rintro e w1 ⟨rfl, hb1⟩)
        go_ret
        exact ⟨rfl, hb1⟩
    · obtain rfl : i = l.length := by omega
      have hd : decide ((l.length : Int) < (l.length : Int)) = false := by simp
      go_wp2_with fail
      refine (joined_any l A0 c0 _ HR.out HC.out HS.out HU.out).mono ?_
      rintro e w1 ⟨v1, rfl, hR1, hb1⟩
      by_cases h0 : l.length = 0
      · have t0 : ((l.length : Int) == 0) = true := by rw [beq_iff_eq]; omega
        have H0 := Aside0.mk h0
        clear h0
        go_wp2_with (go_at_call 16; (with_reducible refine (awake_any _).mono ?_); rintro e w2 ⟨rfl, hb2⟩)
        go_ret
        exact ⟨rfl, below_step hb1 hb2⟩
      · have t0 : ((l.length : Int) == 0) = false := by rw [beq_eq_false_iff_ne]; omega
        by_cases h2 : a2 = 0
        · have t1 : (a2 == 0) = true := by rw [beq_iff_eq]; exact h2
          have H2 := Aside0.mk h2
          clear h2
          go_wp2_with (go_at_call 16; (with_reducible refine (awake_any _).mono ?_); rintro e w2 ⟨rfl, hb2⟩)
          go_ret
          exact ⟨rfl, below_step hb1 hb2⟩
        · have t1 : (a2 == 0) = false := by rw [beq_eq_false_iff_ne]; exact h2
          obtain ⟨s, hsj⟩ : ∃ s, s = JOIN 1 l := ⟨_, rfl⟩
          rw [← hsj]
          have hpos : 0 < s.size := by rw [hsj, JOIN_size]; have := LEN_ge l; omega
          have hup : s.size ≤ 1099511627 := by rw [hsj, JOIN_size]; exact HS.out.2
          have HJ := Aside0.mk hsj
          clear hsj
          have hne : s.toList.isEmpty = false := by
            rw [ByteArray.toList_eq]
            cases hl : s.data.toList with
            | nil => have : s.data.toList.length = s.size := by simp
                     rw [hl] at this; simp at this; omega
            | cons _ _ => rfl
          have kb := fun W => print_bytes (P := Try.prog) 9 42 5 Try.underlying9 Try.underlying42 Try.underlying5 s W
          obtain ⟨p, hp, hpe⟩ := at_in a1 s.size hpos hup
          obtain ⟨j, hj, g1, g2, HT⟩ := spoilt_plain l s p a2 HS.out HU.out HJ.out hp h20 h21 h2
          have G1 := Aside0.mk g1
          have G2 := Aside0.mk g2
          clear g1 g2 h2
          have hcell : (Lib.bytesWorld w1 5 s).cell? ⟨w1.heap.size, p, none⟩ = some (.int .u8 (bt s (p : Int))) := by
            rw [Lib.bytesWorld_cell w1 5 s p hp, bt_getD s p hp, List.getD_eq_getElem?_getD, List.getElem?_eq_getElem (by simpa using hp)]
            rfl
          have hfz : (Lib.bytesWorld w1 5 s).frozen? ⟨w1.heap.size, p, none⟩ = false := by
            unfold World.frozen?
            rw [Lib.bytesWorld_at_new]
            have hbl := bytesCells_size w1 5 s
            simp
            omega
          have HB1 : Aside0 (Below w1.heap.size w1 ((Lib.bytesWorld w1 5 s).setCell ⟨w1.heap.size, p, none⟩ (.int .u8 (bits .xor .u8 (bt s (p : Int)) a2)))) := ⟨(bytes_below (Below.refl _ _) (Nat.le_refl _) 5 s).setCell (Nat.le_refl _) _⟩
          have hkc : (convert 42 9 (.slice (some ⟨w1.heap.size, 0, none⟩) s.size (grownCap w1 s.size 0 5))).run Try.prog ((Lib.bytesWorld w1 5 s).setCell ⟨w1.heap.size, p, none⟩ (.int .u8 (bits .xor .u8 (bt s (p : Int)) a2))) = .ok (.string (strOfNums ((bytesOf s).set p (bits .xor .u8 (bt s (p : Int)) a2)))) ((Lib.bytesWorld w1 5 s).setCell ⟨w1.heap.size, p, none⟩ (.int .u8 (bits .xor .u8 (bt s (p : Int)) a2))) :=
            run_convert_bytes_arg _ 42 5 Try.underlying42 Try.underlying5 w1.heap.size 0 s.size _ _ (by rw [List.length_set, bytesOf_length]) (fun q hq => by rw [Nat.zero_add]; exact set_cell w1 s p q _ hp hq) 9 Try.underlying9
          generalize hW2 : (Lib.bytesWorld w1 5 s).setCell ⟨w1.heap.size, p, none⟩ (.int .u8 (bits .xor .u8 (bt s (p : Int)) a2)) = W2 at HB1 hkc
          obtain ⟨A2, c2, ev1⟩ := Kd.R_slice hR1
          subst ev1
          have HR2 := Aside0.mk (Kd.R_below hR1 HB1.out)
          clear hR1
          have hz := set_size s p (bits .xor .u8 (bt s (p : Int)) a2)
          go_wp2_with fail
          refine (scan_any _ _ _ _ _ (by rw [hz]; omega) HT).mono ?_
          clear hz hkc hcell hfz kb
          rintro e w3 ⟨v3, rfl, hR3, hb3⟩
          obtain ⟨A3, c3, ev3⟩ := Kd.R_slice hR3
          subst ev3
          have hl3 : (RECS 1 (l.take j)).length = j := by rw [RECS_length, List.length_take]; omega
          rw [hl3]
          clear hl3 hR3
          have HR3 := Aside0.mk (Kd.R_below HR2.out hb3)
          have HB3 := Aside0.mk (below_step hb1 (HB1.out.trans (hb3.mono HB1.out.size)))
          clear HR2 hb3 HB1 hb1
          have hel := ENDS_length l
          have HEL := Aside0.mk hel
          rw [hel] at HR3 ⊢
          clear hel hW2
          go_wp2
          go_loop [15] (fun v15 => ∃ i : Nat, i ≤ j ∧ v15 = .int .i64 i) (fun v15 => j - (intOf v15).toNat)
          case atStart => exact ⟨0, by omega, rfl⟩
          case round =>
            obtain ⟨i, hij, rfl⟩ := hrel
            obtain ⟨hn3, _, hC3⟩ := Kd.R_reads' HR3.out
            rw [HEL.out] at hC3
            obtain ⟨ad3, e3, hx3⟩ := Kd.at_int hC3 ((i + 1 : Nat) : Int) (by omega) (by omega)
            rw [ENDS_rd l (i + 1) (by omega), Int.toNat_natCast] at hx3
            obtain ⟨ad4, e4, hx4⟩ := Kd.at_int hC3 (i : Int) (by omega) (by omega)
            rw [ENDS_rd l i (by omega), Int.toNat_natCast] at hx4
            obtain rfl : ad3 = ad4 := by rw [e3] at e4; injection e4
            clear e4 hC3 hn3
            subst e3
            have hx5 : w3.cell? ⟨ad3.block, ad3.off + (i + 1), none⟩ = some (.int .i64 (LEN (l.take (i + 1)) : Int)) := by
              have ha : ad3.add (i + 1) = ⟨ad3.block, ad3.off + (i + 1), none⟩ := by unfold Addr.add; rw [if_neg (by omega)]
              rw [← ha]
              exact hx3
            by_cases hlt2 : i < j
            · have hle := G1.out (i + 1) (by omega)
              have t3 : decide (LEN (l.take (i + 1)) ≤ p) = true := decide_eq_true hle
              clear hle
              go_wp2
              go_round
              case measure => simp [intOf]; omega
              case rel => exact ⟨i + 1, by omega, by go_num⟩
            · obtain rfl : i = j := by omega
              have hgt := G2.out
              have t3 : decide (LEN (l.take (i + 1)) ≤ p) = false := decide_eq_false (by omega)
              clear hgt
              go_wp2_with (go_at_call 16; (with_reducible refine (awake_any _).mono ?_); rintro e w4 ⟨rfl, hb4⟩)
              go_ret
              exact ⟨rfl, below_step HB3.out hb4⟩
theorem wt_len : ∀ l : List ByteArray, LEN l ≤ 20 * Wt (fun s : ByteArray => s.size + 1) l ∧ l.length ≤ Wt (fun s : ByteArray => s.size + 1) l
  | [] => by simp [LEN, Wt]
  | b :: l => by
    have := wt_len l
    simp only [LEN, Wt, List.length_cons]
    omega

set_option maxRecDepth 100000 in
theorem contract (H : Type) (enc : TypeId × Value → H) (W : World) (base : Nat) (args : Array Value) (ds gs : List (DataW H)) (before : List MemPlace)
    (hval : ∀ (j : Nat) t v, Try.f5.params[j]? = some t → args[j]? = some v → Value.okWide Try.prog W .any base t v)
    (hW : DataW.Whole enc Try.prog Try.f5.params.toList Rows.walSpoiltSpec.vars false W args.toList ds gs before) (hk : Rows.uptoSmall H (ds ++ gs) = true) :
    Calls Try.prog 5 args W fun e W' => ∃ v, e = .returned v ∧ Rows.walSpoiltSpec.post enc Try.prog Try.f5 false true false false W args v W' := by
  have hW' := hW
  obtain ⟨p, q, hA0, hV, rfl, hfz, hnd⟩ := hW
  have hA : DataW.TrodAll enc Try.prog W 0 (fun _ => true) true Try.f5.params.toList args.toList ds p := hA0
  rw [Try.params5] at hA hval
  obtain ⟨v0, vs0, d0, ds0, p0, q0, hargs, rfl, rfl, h0, r0⟩ := trodAll_cons hA
  obtain ⟨v1, vs1, d1, ds1, p1, q1, rfl, rfl, rfl, h1, r1⟩ := trodAll_cons r0
  obtain ⟨v2, vs2, d2, ds2, p2, q2, rfl, rfl, rfl, h2, r2⟩ := trodAll_cons r1
  obtain ⟨rfl, rfl, rfl⟩ := trodAll_nil r2
  obtain rfl : args = #[v0, v1, v2] := by cases args; simp_all
  obtain ⟨rfl, rfl⟩ := trodVars_none hV
  have k0 := h0
  have lt0 : ∀ x ∈ p0, x.block < W.heap.size := by obtain ⟨m, hm⟩ := k0; exact DataW.trod_lt m _ _ _ hm
  obtain ⟨A, c, l, rfl, hle, hC, hm0, _⟩ := open_slice Try.underlying37 (opn_string Try.underlying9) (by kernel_rfl) (hval 0 37 v0 rfl rfl) h0
  obtain ⟨n, rfl, rfl, rfl, w1⟩ := open_int Try.underlying3 (hval 1 3 v1 rfl rfl) h1
  obtain ⟨x, rfl, rfl, rfl, w2⟩ := open_int Try.underlying5 (hval 2 5 v2 rfl rfl) h2
  have hb := bulk_le hk
  simp only [List.cons_append, List.nil_append, Rows.uptoBulkAll, Rows.uptoBulk] at hb
  obtain ⟨g1, g2⟩ := wt_len l
  clear hA0
  have hx : 0 ≤ x ∧ x ≤ 255 := by simpa [Lit.wf, IntKind.min, IntKind.max, IntKind.signed, IntKind.bits] using w2
  refine (walk l A c n x W hC hle ⟨by omega, by omega⟩ hx.1 hx.2).mono fun e W' ⟨he, bel⟩ => ?_
  subst he
  exact ⟨_, rfl, _, _, _, [], _, [], hW', trodAll_mk1 (shut_bool Try.underlying4 _), trodAll_cons_mk (Below.trod laidOut (by kernel_rfl) (of_decide_eq_true (by kernel_rfl)) k0 bel lt0) (trodAll_cons_mk (shut_int Try.underlying3 w1) (trodAll_cons_mk (shut_int Try.underlying5 w2) trodAll_mk0)), rfl, bel.frame _, fun h => by cases h⟩

set_option maxRecDepth 100000 in
theorem lifted (os : Os) (started : os.Started) (H : Type) (enc : TypeId × Value → H) (F : Stop.Interp) :
    ReturnsInHanded {} Try.checked os 5 .any ((Rows.OpenSpec.upto Rows.walSpoiltSpec).pre6 enc Try.prog Try.f5 Rows.walSpoiltUptoRow.domain false) (((Rows.OpenSpec.upto Rows.walSpoiltSpec).at F).post enc Try.prog Try.f5 false true false false) := by
  refine returnsInHanded_of_cond (C := Try.checked) (s := Rows.OpenSpec.upto Rows.walSpoiltSpec) (k := Rows.uptoSmall) rfl own started (by kernel_rfl) Try.func5
    (OpenSpec.witness (enc := enc) (C := Try.checked) (s := Rows.OpenSpec.upto Rows.walSpoiltSpec) (k := Rows.uptoSmall) rfl false ⟨#[], #[.slice none 0 0, .int .i64 0, .int .u8 0], []⟩ 8 (by kernel_rfl) (by kernel_rfl) (by kernel_rfl)
      (x := ([.nil, .lit (.int .i64 0), .lit (.int .u8 0)], [], [])) (by kernel_rfl) rfl (by kernel_rfl)) ?_
  intro W base args ds gs before hval hW _ hk _
  exact contract H enc W base args ds gs before hval hW hk

theorem over : Rows.walSpoiltUptoRow.holds Try.pinned (Rows.OpenSpec.upto Rows.walSpoiltSpec) :=
  OpenClaim.holds_of_cond 5 Try.f5 rfl rfl rfl rfl rfl rfl rfl ⟨rfl, rfl, rfl, rfl, rfl⟩ rfl rfl rfl rfl rfl (by kernel_rfl) Try.func5 (by kernel_rfl)
    (of_decide_eq_true (by kernel_rfl)) (by unfold Func.isWrapper; first | (rw [if_pos (by decide +kernel)]; kernel_rfl) | (rw [if_neg (by decide +kernel)]; exact ⟨rfl, rfl⟩))
    (fun os started H enc _ F => lifted os started H enc F)
theorem proved : Rows.WalSpoiltUptoSaid := over
#print axioms proved
end Go.Proofs.Ytmnmlicckmaegaa.walSpoilt
namespace Go.Proofs.Ytmnmlicckmaegaa
/-- The row, under a short name, for the claim. -/
theorem walSpoilt_holds : Rows.WalSpoiltUptoSaid := walSpoilt.proved
end Go.Proofs.Ytmnmlicckmaegaa
