/- Proved: the statement 'PayloadFitsUptoSaid' and its card 'PayloadFitsUptoCardSaid', that is, PayloadFits answers true for every input of bulk at most 1048576, and the input reads as it did. Conditions: the given row's own (the bulk; the two tables that it lists). -/
import Derived.Test.YtbeljekpknpadaaDoorRows
import Derived.Test.YtbeljekpknpadaaDoorCards
import Derived.Test.YtbeljekpknpadaaDoorTie
import Derived.Test.YtbeljekpknpadaaDoorPuOpen3
import Derived.Test.YtbeljekpknpadaaDoorPPayUx20
import Derived.Test.YtbeljekpknpadaaDoorPuF
import Derived.WalkKit
import Derived.ProofKit
import Derived.OpenShut
import Derived.ShutString
import Derived.ChangeOld
import Derived.Below
import Derived.Deep.DeepHandedRow
namespace Go.Proofs.YtbeljekpknpadaaDoor.payloadFits
open Go.ChangeShapes Go.WideShapes Go.ChangeAt Go.RowKit Go.Proofs.YtbeljekpknpadaaDoor.Opens Go.Proofs.YtbeljekpknpadaaDoor.PPayU Go.Proofs.YtbeljekpknpadaaDoor.PPayUL Go.Proofs.YtbeljekpknpadaaDoor.PuOpenN
open Go.ChangeMaps (open_string shut_string)

set_option maxRecDepth 100000 in
theorem contract (H : Type) (enc : TypeId × Value → H) (W : World) (base : Nat) (args : Array Value) (ds gs : List (DataW H)) (before : List MemPlace)
    (hval : ∀ (j : Nat) t v, Tryd.f8.params[j]? = some t → args[j]? = some v → Value.okWide Tryd.prog W .any base t v)
    (hW : DataW.Whole enc Tryd.prog Tryd.f8.params.toList Rows.payloadFitsSpec.vars false W args.toList ds gs before) (hk : Rows.uptoSmall H (ds ++ gs) = true) (hL : laidMetH Tryd.prog Rows.payloadFitsUptoRow.laid W) :
    Calls Tryd.prog 8 args W fun e W' => ∃ v, e = .returned v ∧ Rows.payloadFitsSpec.post enc Tryd.prog Tryd.f8 false true false false W args v W' := by
  have hW' := hW
  obtain ⟨p, q, hA0, hV, rfl, hfz, hnd⟩ := hW
  have hA : DataW.TrodAll enc Tryd.prog W 0 (fun _ => true) true Tryd.f8.params.toList args.toList ds p := hA0
  rw [Tryd.params8] at hA hval
  obtain ⟨v0, vs0, d0, ds0, p0, q0, hargs, rfl, rfl, h0, r0⟩ := trodAll_cons hA
  obtain ⟨v1, vs1, d1, ds1, p1, q1, rfl, rfl, rfl, h1, r1⟩ := trodAll_cons r0
  obtain ⟨rfl, rfl, rfl⟩ := trodAll_nil r1
  obtain rfl : args = #[v0, v1] := by cases args; simp_all
  obtain ⟨rfl, rfl⟩ := trodVars_none hV
  have k0 := h0
  have lt0 : ∀ x ∈ p0, x.block < W.heap.size := by obtain ⟨m, hm⟩ := k0; exact DataW.trod_lt m _ _ _ hm
  have k1 := h1
  have lt1 : ∀ x ∈ p1, x.block < W.heap.size := by obtain ⟨m, hm⟩ := k1; exact DataW.trod_lt m _ _ _ hm
  obtain ⟨cs0, ⟨l, m⟩, rfl, hK0, hm0, _⟩ := open_struct Tryd.underlying51 opn51 (hval 0 51 v0 rfl rfl) h0
  obtain ⟨cs1, ⟨a0, l1, l2⟩, rfl, hK1, hm1, _⟩ := open_struct Tryd.underlying25 opn25 (hval 1 25 v1 rfl rfl) h1
  obtain ⟨B1, b1, B2, b2, e0, f1, f2, f3, f4⟩ := k51_open hK0
  obtain ⟨A1, c1, A2, c2, e1, g1, g2, g3, g4⟩ := k25_open hK1
  obtain rfl : cs0 = #[.slice B1 l.length b1, .slice B2 m.length b2] := by cases cs0; simp_all
  obtain rfl : cs1 = #[.int .i64 a0, .slice A1 l1.length c1, .slice A2 l2.length c2] := by cases cs1; simp_all
  have hU : LaidU W := tables hL
  have hb := bulk_le hk
  simp only [List.cons_append, List.nil_append, Rows.uptoBulkAll] at hb
  have hbb : m51 (l, m) ≤ 1048577 ∧ m25 (a0, l1, l2) ≤ 1048577 := by
    clear hA0
    have hm2 : m51 (l, m) ≤ Rows.uptoBulk d0 := hm0
    have hm3 : m25 (a0, l1, l2) ≤ Rows.uptoBulk d1 := hm1
    clear hm0 hm1
    omega
  have FS : FitS l m := fitS_of hbb.1
  have F0 : Fit l1 l2 := fit_of (by have e : m25 (0, l1, l2) = m25 (a0, l1, l2) := rfl; rw [e]; exact hbb.2)
  clear hA0
  obtain ⟨k, hpl⟩ := fits_plain l m a0 l1 l2 FS F0
  refine (lodestarlaw05_PayloadFits.calls k B1 b1 l B2 b2 m a0 A1 c1 l1 A2 c2 l2 W f2 f1 f4 f3 g2 g1 g4 g3 hU hpl).mono fun e W' ⟨he, bel⟩ => ?_
  subst he
  exact ⟨_, rfl, _, _, _, [], _, [], hW', trodAll_mk1 (shut_bool Tryd.underlying4 _), trodAll_cons_mk (Below.trod laidOut (by kernel_rfl) (of_decide_eq_true (by kernel_rfl)) k0 bel lt0) (trodAll_cons_mk (Below.trod laidOut (by kernel_rfl) (of_decide_eq_true (by kernel_rfl)) k1 bel lt1) trodAll_mk0), rfl, bel.frame _, fun h => by cases h⟩

def wit : Array Value := #[.agg #[.slice none 0 0, .slice none 0 0], .agg #[.int .i64 0, .slice none 0 0, .slice none 0 0]]
theorem reads (os : Os) {H : Type} (enc : TypeId × Value → H) : ∃ places, DataW.whole enc Tryd.prog ((laidWorld os).forCall (fun _ _ => 0) ⟨#[], wit, []⟩).memory Tryd.f8.params.toList Rows.payloadFitsSpec.vars false wit.toList 8 = some ([.agg [.nil, .nil], .agg [.lit (.int .i64 0), .nil, .nil]], [], places) :=
  ⟨[], by kernel_rfl⟩
set_option maxRecDepth 100000 in
theorem lifted (os : Os) (started : os.Started) (H : Type) (enc : TypeId × Value → H) (F : Stop.Interp) :
    ReturnsInHanded {} Tryd.checked os 8 .any ((Rows.OpenSpec.upto Rows.payloadFitsSpec).preRow enc Tryd.prog Tryd.f8 Rows.payloadFitsUptoRow.domain false Rows.payloadFitsUptoRow.laid) (((Rows.OpenSpec.upto Rows.payloadFitsSpec).at F).post enc Tryd.prog Tryd.f8 false true false false) := by
  obtain ⟨places, hx⟩ := reads os enc
  refine returnsInHanded_of_row (C := Tryd.checked) (s := Rows.OpenSpec.upto Rows.payloadFitsSpec) own started (by kernel_rfl) Tryd.func8
    (witness_row_at (enc := enc) (C := Tryd.checked) false (laidWorld os) wit rfl (by kernel_rfl) (by kernel_rfl) (by kernel_rfl)
      (OpenSpec.preRow_of_cond 8 hx (by kernel_rfl) (fun k hk => by cases hk; kernel_rfl) (by kernel_rfl) (laid_met os _))) ?_
  intro W base args ds gs before hval hW _ hcond _ hL _ _
  exact contract H enc W base args ds gs before hval hW (hcond _ rfl) hL

theorem saidUpto : Rows.PayloadFitsUptoSaid :=
  OpenClaim.holds_of_cond 8 Tryd.f8 rfl rfl rfl rfl rfl rfl rfl ⟨rfl, rfl, rfl, rfl, rfl⟩ rfl rfl rfl rfl rfl (by kernel_rfl) Tryd.func8 (by kernel_rfl)
    (of_decide_eq_true (by kernel_rfl)) (by unfold Func.isWrapper; first | (rw [if_pos (by decide +kernel)]; kernel_rfl) | (rw [if_neg (by decide +kernel)]; exact ⟨rfl, rfl⟩))
    (fun os started H enc _ F => by rw [OpenClaim.pre_eq_preRow]; exact lifted os started H enc F)

theorem looks (f : FuncId) (fn : Func) (hf : Tryd.pinned.checked.prog.funcNamed "lodestar/lodestarlaw05.PayloadFits" = some f) (hfn : Tryd.pinned.checked.prog.funcs[f]? = some fn) :
    false = Tryd.pinned.checked.prog.looks [] ∧ ∀ (j : Nat) t, fn.params[j]? = some t → Tryd.pinned.checked.prog.wantsStandIn t = false := by
  obtain rfl : f = 8 := Option.some.inj ((show Tryd.prog.funcNamed "lodestar/lodestarlaw05.PayloadFits" = some 8 by kernel_rfl).symm.trans hf) |>.symm
  obtain rfl : fn = Tryd.f8 := (Option.some.inj (Tryd.func8.symm.trans hfn)).symm
  refine ⟨by kernel_rfl, fun j t ht => ?_⟩
  rw [Tryd.params8] at ht
  have hm := Array.mem_of_getElem? ht
  simp only [List.mem_toArray, List.mem_cons, List.mem_nil_iff, or_false] at hm
  rcases hm with rfl | rfl
  · exact (show Tryd.prog.wantsStandIn 51 = false by kernel_rfl)
  · exact (show Tryd.prog.wantsStandIn 25 = false by kernel_rfl)
theorem cardUpto : Rows.PayloadFitsUptoCardSaid :=
  Claim7.holds_tied_plain_at .later [] _ _ _ _ saidUpto (fun _ h => by cases h) (by kernel_rfl) (fun _ h => by cases h) payloadFitsUpto_row_tie rfl ⟨rfl, rfl⟩ (by kernel_rfl) rfl looks (by kernel_rfl)
#print axioms cardUpto
end Go.Proofs.YtbeljekpknpadaaDoor.payloadFits
namespace Go.Proofs.YtbeljekpknpadaaDoor
/-- The card, under a short name, for the claim. -/
theorem payloadFits_holds : Rows.PayloadFitsUptoCardSaid := payloadFits.cardUpto
end Go.Proofs.YtbeljekpknpadaaDoor
