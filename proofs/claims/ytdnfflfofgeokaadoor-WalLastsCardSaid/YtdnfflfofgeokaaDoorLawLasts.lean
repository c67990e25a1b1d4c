/- Proved: the statement 'WalLastsSaid' and its card 'WalLastsCardSaid', that is, WalLasts answers true for every row of bodies, every number of synced records and every crash, and the input reads as it did. Conditions: the given row's own (the two variables that it lists). -/
import Derived.Test.YtdnfflfofgeokaaDoorRows
import Derived.Test.YtdnfflfofgeokaaDoorCards
import Derived.Test.YtdnfflfofgeokaaDoorTie
import Derived.Test.YtdnfflfofgeokaaDoorOpen
import Derived.Test.YtdnfflfofgeokaaDoorWlF
import Derived.WalkKit
import Derived.ProofKit
import Derived.OpenShut
import Derived.ShutString
import Derived.ChangeOld
import Derived.ChangeSame
import Derived.ChangeVars
import Derived.JoinedOf
import Derived.Stop.Joined
import Derived.Stop.LaidErr
import Derived.SevenTiedAt
import Derived.Below
namespace Go.Proofs.YtdnfflfofgeokaaDoor.walLasts
open Go.ChangeShapes Go.WideShapes Go.ChangeAt Go.RowKit Go.Proofs.YtdnfflfofgeokaaDoor.Opens Go.Proofs.YtdnfflfofgeokaaDoorW.PrintWords Go.Proofs.YtdnfflfofgeokaaDoor.WalN Go.Proofs.YtdnfflfofgeokaaDoor.WalL Go.Proofs.YtdnfflfofgeokaaDoor.Dk

def kCrash : Kd (Int × List Int) := Kd.iso (Kd.pair (Kd.int .i64) (Kd.slice 3 (Kd.int .i64))) id
theorem opn39 : Opn Tryd.prog 39 kCrash (fun _ => 0) (fun _ => True) :=
  (opn_struct (fs := [_, _]) (f := id) Tryd.underlying39 (opnF_cons (opn_int Tryd.underlying3) (by kernel_rfl) (opnF_one (opn_slice Tryd.underlying37 (opn_int Tryd.underlying3) (by kernel_rfl)) (by kernel_rfl))) ⟨by kernel_rfl, by kernel_rfl, trivial⟩ (by kernel_rfl) (fun y => ⟨y, rfl⟩)).weak (fun _ => Nat.zero_le _) (fun _ _ => trivial)
theorem spot_none {w : World} {a : Addr} {u : Value} (h : w.cell? a = some u) : a = ⟨a.block, a.off, none⟩ := by
  obtain ⟨b, o, s⟩ := a
  cases s with
  | none => rfl
  | some k =>
    unfold World.cell? at h
    split at h
    · simp at h
    · cases h
theorem kCrash_open {w : World} {x : Int × List Int} {cs : List Value} (h : kCrash.K w x cs) : ∃ A c, cs = [.int .i64 x.1, .slice A x.2.length c] ∧ IntsAt w (.slice A x.2.length c) x.2 := by
  obtain ⟨n, l⟩ := x
  obtain ⟨_, _, rfl, rfl, ⟨A, c, rfl, _, hC⟩⟩ := h
  refine ⟨A, c, rfl, A, c, rfl, fun i y hy => ?_⟩
  have hlt : i < l.length := (List.getElem?_eq_some_iff.1 hy).1
  have hpos : 0 < l.length := Nat.lt_of_le_of_lt (Nat.zero_le _) hlt
  obtain ⟨ad, hA, hc⟩ := hC.2.2 hpos
  obtain ⟨z, hz⟩ : ∃ z, l[0]? = some z := ⟨_, List.getElem?_eq_getElem hpos⟩
  obtain ⟨c0, _, h2, h3⟩ := hc 0 z hz
  obtain ⟨cc, _, h5, h6⟩ := hc i y hy
  have e2 : c0 = [.int .i64 z] := h2
  have e5 : cc = [.int .i64 y] := h5
  have h7 := h3 0 (.int .i64 z) (by rw [e2]; rfl)
  have h8 := h6 0 (.int .i64 y) (by rw [e5]; rfl)
  have e1 : (0 : Nat) * (Kd.int .i64).sz + 0 = 0 := rfl
  have ha : ad.add 0 = ad := by simp [Addr.add]
  rw [e1, ha] at h7
  have hs := spot_none h7
  rw [hs] at hA h8
  refine ⟨_, _, hA, ?_⟩
  rw [Addr.add_lit] at h8
  have e : i * (Kd.int .i64).sz + 0 = i := by show i * 1 + 0 = i; omega
  rw [e] at h8
  exact h8
theorem strs_at {w : World} {A : Option Addr} {l : List ByteArray} {c : Nat} (hC : Kd.string.C w A l.length l) : StrsAt w (.slice A l.length c) l := by
  refine ⟨A, c, rfl, fun i y hy => ?_⟩
  have hlt : i < l.length := (List.getElem?_eq_some_iff.1 hy).1
  have hpos : 0 < l.length := Nat.lt_of_le_of_lt (Nat.zero_le _) hlt
  obtain ⟨ad, hA, hc⟩ := hC.2.2 hpos
  obtain ⟨z, hz⟩ : ∃ z, l[0]? = some z := ⟨_, List.getElem?_eq_getElem hpos⟩
  obtain ⟨c0, _, h2, h3⟩ := hc 0 z hz
  obtain ⟨cc, _, h5, h6⟩ := hc i y hy
  have e2 : c0 = [.string z] := h2
  have e5 : cc = [.string y] := h5
  have h7 := h3 0 (.string z) (by rw [e2]; rfl)
  have h8 := h6 0 (.string y) (by rw [e5]; rfl)
  have e1 : (0 : Nat) * Kd.string.sz + 0 = 0 := rfl
  have ha : ad.add 0 = ad := by simp [Addr.add]
  rw [e1, ha] at h7
  have hs := spot_none h7
  rw [hs] at hA h8
  refine ⟨_, _, hA, ?_⟩
  rw [Addr.add_lit] at h8
  have e : i * Kd.string.sz + 0 = i := by show i * 1 + 0 = i; omega
  rw [e] at h8
  exact h8
/-- the log's error is a pointer -/
theorem gl_ptr {W : World} (h : laidMetH Tryd.prog Rows.walLastsRow.laid W) : ∃ a, Gl (.pointer (some a)) W := by
  obtain ⟨v, hG⟩ := gl_of_laid h
  have h' : laidMet Tryd.prog [("lodestar/wal.errFine", Rows.laid_lodestar_wal_errFine)] W ∧ handlesMet Tryd.prog [("errors.errorType", Rows.laid_errors_errorType)] W := h
  obtain ⟨a, s, hv, _, _, _⟩ := laid_sentinel (ts := 9) h'.1 g0 g0t Tryd.underlying44 row149 Tryd.underlying149 Tryd.underlying169 (by rfl) (by rfl) Tryd.underlying9 (by kernel_rfl) (by kernel_rfl)
  have h0 := World.var?_cell g0 hv 0
  have h1 := hG.fine.symm.trans h0
  have h2 : v = .pointer (some a) := by simpa using h1
  exact ⟨a, h2 ▸ hG⟩

set_option maxRecDepth 100000 in
theorem lifted (os : Os) (started : os.Started) (H : Type) (enc : TypeId × Value → H) :
    ReturnsInHanded {} Tryd.checked os 4 .any (fun w args => (Rows.walLastsSpec.pre enc Tryd.prog Tryd.f4 [] false w args ∧ laidMetH Tryd.prog Rows.walLastsRow.laid w) ∧ sizedMet enc Tryd.prog Tryd.f4 (OpenSpec.ofChange Rows.walLastsSpec) false w args)
      (Rows.walLastsSpec.post enc Tryd.prog Tryd.f4 false true false false) := by
  refine returnsInHanded_of_change_and (C := Tryd.checked) (X := fun w _ => laidMetH Tryd.prog Rows.walLastsRow.laid w) (fun _ _ _ hh h => h.of_heap hh) own started (by kernel_rfl) Tryd.func4
    (ChangeSpec.witness_at (enc := enc) (C := Tryd.checked) (os := os) (X := fun w _ => laidMetH Tryd.prog Rows.walLastsRow.laid w) false (laidWorld os) #[.slice none 0 0, .int .i64 0, .agg #[.int .i64 0, .slice none 0 0]] 8 rfl (by kernel_rfl) (by kernel_rfl) (by kernel_rfl) (by kernel_rfl) (by kernel_rfl) (laidWorld_met os _)) ?_
  intro W base args ds gs before hval0 hW _ _ hL _
  have hval : ∀ (j : Nat) t v, Tryd.f4.params[j]? = some t → args[j]? = some v → Value.okWide Tryd.prog W .any base t v := hval0
  have hW' := hW
  obtain ⟨p, q, hA0, hV, rfl, hfz, hnd⟩ := hW
  have hA : DataW.TrodAll enc Tryd.prog W 0 (fun _ => true) true Tryd.f4.params.toList args.toList ds p := hA0
  rw [Tryd.params4] at hA hval
  obtain ⟨v0, vs0, d0, ds0, p0, q0, hargs, rfl, rfl, h0, r0⟩ := trodAll_cons hA
  obtain ⟨v1, vs1, d1, ds1, p1, q1, rfl, rfl, rfl, h1, r1⟩ := trodAll_cons r0
  obtain ⟨v2, vs2, d2, ds2, p2, q2, rfl, rfl, rfl, h2, r2⟩ := trodAll_cons r1
  obtain ⟨rfl, rfl, rfl⟩ := trodAll_nil r2
  obtain rfl : args = #[v0, v1, v2] := by cases args; simp_all
  obtain ⟨rfl, rfl⟩ := trodVars_none hV
  have k0 := h0
  have k2 := h2
  have lt0 : ∀ x ∈ p0, x.block < W.heap.size := by obtain ⟨m, hm⟩ := k0; exact DataW.trod_lt m _ _ _ hm
  have lt2 : ∀ x ∈ p2, x.block < W.heap.size := by obtain ⟨m, hm⟩ := k2; exact DataW.trod_lt m _ _ _ hm
  obtain ⟨A0, c0, bs, rfl, _, hC0, _, _⟩ := open_slice Tryd.underlying36 (opn_string Tryd.underlying9) (by kernel_rfl) (hval 0 36 v0 rfl rfl) h0
  obtain ⟨sy, rfl, rfl, rfl, _⟩ := open_int Tryd.underlying3 (hval 1 3 v1 rfl rfl) h1
  obtain ⟨cs, z, rfl, hK, _, _⟩ := open_struct Tryd.underlying39 opn39 (hval 2 39 v2 rfl rfl) h2
  obtain ⟨A1, c1, hcs, hI⟩ := kCrash_open hK
  obtain rfl : cs = #[.int .i64 z.1, .slice A1 z.2.length c1] := by cases cs; simp_all
  obtain ⟨a, hG⟩ := gl_ptr hL
  clear hA0
  refine (lasts_calls bs sy z.1 z.2 W (strs_at hC0) hI hG).mono fun e W' ⟨he, bel⟩ => ?_
  subst he
  exact ⟨_, rfl, _, _, _, [], _, [], hW', trodAll_mk1 (shut_bool Tryd.underlying4 _), trodAll_cons_mk (Below.trod laidOut (by kernel_rfl) (of_decide_eq_true (by kernel_rfl)) k0 bel lt0) (trodAll_cons_mk (shut_int Tryd.underlying3 (by assumption)) (trodAll_cons_mk (Below.trod laidOut (by kernel_rfl) (of_decide_eq_true (by kernel_rfl)) k2 bel lt2) trodAll_mk0)), rfl, bel.frame _, fun h => by cases h⟩

theorem said : Rows.WalLastsSaid :=
  OpenClaim.holds_of_wide 4 Tryd.f4 rfl rfl rfl rfl rfl rfl rfl ⟨rfl, rfl, rfl, rfl, rfl⟩ rfl rfl rfl rfl rfl (by kernel_rfl) Tryd.func4 (by kernel_rfl)
    (of_decide_eq_true (by kernel_rfl)) (by unfold Func.isWrapper; first | (rw [if_pos (by decide +kernel)]; kernel_rfl) | (rw [if_neg (by decide +kernel)]; exact ⟨rfl, rfl⟩))
    (fun os started H enc _ => lifted os started H enc)

theorem looks (f : FuncId) (fn : Func) (hf : Tryd.pinned.checked.prog.funcNamed "lodestar/lodestarlaw09.WalLasts" = some f) (hfn : Tryd.pinned.checked.prog.funcs[f]? = some fn) :
    true = Tryd.pinned.checked.prog.looks [] ∧ ∀ (j : Nat) t, fn.params[j]? = some t → Tryd.pinned.checked.prog.wantsStandIn t = false := by
  obtain rfl : f = 4 := Option.some.inj ((show Tryd.prog.funcNamed "lodestar/lodestarlaw09.WalLasts" = some 4 by kernel_rfl).symm.trans hf) |>.symm
  obtain rfl : fn = Tryd.f4 := (Option.some.inj (Tryd.func4.symm.trans hfn)).symm
  refine ⟨by kernel_rfl, fun j t ht => ?_⟩
  rw [Tryd.params4] at ht
  have hm := Array.mem_of_getElem? ht
  simp only [List.mem_toArray, List.mem_cons, List.mem_nil_iff, or_false] at hm
  rcases hm with rfl | rfl | rfl
  · exact (show Tryd.prog.wantsStandIn 36 = false by kernel_rfl)
  · exact (show Tryd.prog.wantsStandIn 3 = false by kernel_rfl)
  · exact (show Tryd.prog.wantsStandIn 39 = false by kernel_rfl)
theorem card : Rows.WalLastsCardSaid :=
  Claim7.holds_tied_plain_at .later [] _ _ _ _ said (fun _ h => by cases h) (by kernel_rfl) (fun _ h => by cases h) walLasts_row_tie rfl ⟨rfl, rfl⟩ (by kernel_rfl) rfl looks (by kernel_rfl)
#print axioms card
end Go.Proofs.YtdnfflfofgeokaaDoor.walLasts
namespace Go.Proofs.YtdnfflfofgeokaaDoor
/-- The card, under a short name, for the claim. -/
theorem walLasts_holds : Rows.WalLastsCardSaid := walLasts.card
end Go.Proofs.YtdnfflfofgeokaaDoor
