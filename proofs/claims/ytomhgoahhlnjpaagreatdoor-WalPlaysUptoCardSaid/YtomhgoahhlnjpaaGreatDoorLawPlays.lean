/- Proved: the statement 'WalPlaysUptoSaid' and its card 'WalPlaysUptoCardSaid', that is, WalPlays answers true for every script of bulk at most 1048576, and the script reads as it did. Conditions: the given row's own (the bulk; the two variables that it lists). -/
import Derived.Test.YtomhgoahhlnjpaaGreatDoorRows
import Derived.Test.YtomhgoahhlnjpaaGreatDoorCards
import Derived.Test.YtomhgoahhlnjpaaGreatDoorTie
import Derived.Test.YtomhgoahhlnjpaaGreatDoorOpen
import Derived.Test.YtomhgoahhlnjpaaGreatDoorPlMQ
import Derived.Test.YtomhgoahhlnjpaaGreatDoorWnE
import Derived.WalkKit
import Derived.ProofKit
import Derived.OpenShut
import Derived.ShutString
import Derived.ChangeOld
import Derived.ChangeSame
import Derived.ChangeVars
import Derived.JoinedOf
import Derived.Stop.Joined
import Derived.Stop.LaidErr
import Derived.SevenTiedAt
import Derived.Below
import Derived.Deep.DeepHandedRow
import Derived.Deep.DeepWitnessRowRef
namespace Go.Proofs.YtomhgoahhlnjpaaGreatDoor.walPlays
open Go.ChangeShapes Go.WideShapes Go.ChangeAt Go.RowKit Go.Proofs.YtomhgoahhlnjpaaGreatDoor.Opens Go.Proofs.YtomhgoahhlnjpaaGreatDoorW.PrintWords Go.Proofs.YtomhgoahhlnjpaaGreatDoor.PRef Go.Proofs.YtomhgoahhlnjpaaGreatDoor.WalN Go.Proofs.YtomhgoahhlnjpaaGreatDoor.Dk Go.Proofs.YtomhgoahhlnjpaaGreatDoor.Pl

theorem own : ownKnob Tryz.prog.godebug = none := by kernel_rfl
theorem laidOut : laidOutB Tryz.prog = true := by kernel_rfl

theorem opn43 : Opn Tryz.prog 43 kCr (fun _ => 0) (fun _ => True) :=
  (opn_struct (fs := [_, _]) (f := id) Tryz.underlying43 (opnF_cons (opn_int Tryz.underlying3) (by kernel_rfl) (opnF_one (opn_slice Tryz.underlying41 (opn_int Tryz.underlying3) (by kernel_rfl)) (by kernel_rfl))) ⟨by kernel_rfl, by kernel_rfl, trivial⟩ (by kernel_rfl) (fun y => ⟨y, rfl⟩)).weak (fun _ => Nat.zero_le _) (fun _ _ => trivial)
theorem opn40 : Opn Tryz.prog 40 k40 (fun _ => 1) (fun _ => True) :=
  (opn_struct (fs := [_, _, _]) (f := fun x : S40 => (x.f0, x.f1, x.f2)) Tryz.underlying40 (opnF_cons (opn_int Tryz.underlying3) (by kernel_rfl) (opnF_cons (opn_int Tryz.underlying3) (by kernel_rfl) (opnF_one (opn_int Tryz.underlying3) (by kernel_rfl)))) ⟨by kernel_rfl, by kernel_rfl, by kernel_rfl, trivial⟩ (by kernel_rfl) (fun y => ⟨⟨y.1, y.2.1, y.2.2⟩, rfl⟩)).weak (fun _ => by omega) (fun _ _ => trivial)
theorem opn45 : Opn Tryz.prog 45 k45 (fun x => x.body.size + 5) (fun _ => True) :=
  (opn_struct (fs := [_, _, _, _, _, _]) (f := fun x : Deed => (x.kind, x.body, x.seq, x.step, x.fault, x.crash)) Tryz.underlying45
    (opnF_cons (opn_int Tryz.underlying3) (by kernel_rfl) (opnF_cons (opn_string Tryz.underlying9) (by kernel_rfl) (opnF_cons (opn_int Tryz.underlying3) (by kernel_rfl) (opnF_cons (opn_int Tryz.underlying3) (by kernel_rfl)
      (opnF_cons opn40 (by kernel_rfl) (opnF_one opn43 (by kernel_rfl)))))))
    ⟨by kernel_rfl, by kernel_rfl, by kernel_rfl, by kernel_rfl, by kernel_rfl, by kernel_rfl, trivial⟩ (by kernel_rfl) (fun y => ⟨⟨y.1, y.2.1, y.2.2.1, y.2.2.2.1, y.2.2.2.2.1, y.2.2.2.2.2⟩, rfl⟩)).weak
    (fun x => by show x.body.size + 5 ≤ _; dsimp only; omega) (fun _ _ => trivial)
theorem sum_wt : ∀ l : List Deed, sumD l ≤ 6 * Wt (fun x : Deed => x.body.size + 5) l ∧ l.length ≤ Wt (fun x : Deed => x.body.size + 5) l
  | [] => ⟨Nat.le_refl _, Nat.le_refl _⟩
  | x :: l => by
    obtain ⟨h1, h2⟩ := sum_wt l
    refine ⟨?_, ?_⟩
    · rw [sumD, Wt, wtD]; omega
    · rw [List.length_cons, Wt]; omega
/-- the log's error is a pointer -/
theorem gl_ptr {W : World} (h : laidMetH Tryz.prog Rows.walPlaysRow.laid W) : ∃ a, Gl (.pointer (some a)) W := by
  obtain ⟨v, hG⟩ := gl_of_laid h
  have h' : laidMet Tryz.prog [("lodestar/wal.errFine", Rows.laid_lodestar_wal_errFine)] W ∧ handlesMet Tryz.prog [("errors.errorType", Rows.laid_errors_errorType)] W := h
  obtain ⟨a, s, hv, _, _, _⟩ := laid_sentinel (ts := 9) h'.1 g0 g0t Tryz.underlying91 row149 Tryz.underlying197 Tryz.underlying217 (by rfl) (by rfl) Tryz.underlying9 (by kernel_rfl) (by kernel_rfl)
  have h0 := World.var?_cell g0 hv 0
  have h1 := hG.fine.symm.trans h0
  have h2 : v = .pointer (some a) := by simpa using h1
  exact ⟨a, h2 ▸ hG⟩

set_option maxRecDepth 100000 in
theorem contract (H : Type) (enc : TypeId × Value → H) (W : World) (base : Nat) (args : Array Value) (ds gs : List (DataW H)) (before : List MemPlace)
    (hval : ∀ (j : Nat) t v, Tryz.f3.params[j]? = some t → args[j]? = some v → Value.okWide Tryz.prog W .any base t v)
    (hW : DataW.Whole enc Tryz.prog Tryz.f3.params.toList Rows.walPlaysSpec.vars false W args.toList ds gs before) (hk : Rows.uptoSmall H (ds ++ gs) = true) (hL : laidMetH Tryz.prog Rows.walPlaysUptoRow.laid W) :
    Calls Tryz.prog 3 args W fun e W' => ∃ v, e = .returned v ∧ Rows.walPlaysSpec.post enc Tryz.prog Tryz.f3 false true false false W args v W' := by
  have hW' := hW
  obtain ⟨p, q, hA0, hV, rfl, hfz, hnd⟩ := hW
  have hA : DataW.TrodAll enc Tryz.prog W 0 (fun _ => true) true Tryz.f3.params.toList args.toList ds p := hA0
  rw [Tryz.params3] at hA hval
  obtain ⟨v0, vs0, d0, ds0, p0, q0, hargs, rfl, rfl, h0, r0⟩ := trodAll_cons hA
  obtain ⟨rfl, rfl, rfl⟩ := trodAll_nil r0
  obtain rfl : args = #[v0] := by cases args; simp_all
  obtain ⟨rfl, rfl⟩ := trodVars_none hV
  have k0 := h0
  have lt0 : ∀ x ∈ p0, x.block < W.heap.size := by obtain ⟨m, hm⟩ := k0; exact DataW.trod_lt m _ _ _ hm
  obtain ⟨A, c, l, rfl, _, hC, hm0, _⟩ := open_slice Tryz.underlying22 opn45 (by kernel_rfl) (hval 0 22 v0 rfl rfl) h0
  have hb := bulk_le hk
  simp only [List.cons_append, List.nil_append, Rows.uptoBulkAll] at hb
  obtain ⟨g1, g2⟩ := sum_wt l
  obtain ⟨a, hG⟩ := gl_ptr hL
  clear hA0
  refine (plays_calls W l hC (by omega) (by omega) hG).mono fun e W' ⟨he, bel⟩ => ?_
  subst he
  exact ⟨_, rfl, _, _, _, [], _, [], hW', trodAll_mk1 (shut_bool Tryz.underlying4 _), trodAll_cons_mk (Below.trod laidOut (by kernel_rfl) (of_decide_eq_true (by kernel_rfl)) k0 bel lt0) trodAll_mk0, rfl, bel.frame _, fun h => by cases h⟩

theorem reads (os : Os) {H : Type} (enc : TypeId × Value → H) : ∃ places, DataW.whole enc Tryz.prog ((laidWorld os).forCall (fun _ _ => 0) ⟨#[], #[.slice none 0 0], []⟩).memory Tryz.f3.params.toList Rows.walPlaysSpec.vars false [.slice none 0 0] 8 = some ([.nil], [], places) :=
  ⟨[], by kernel_rfl⟩
set_option maxRecDepth 100000 in
theorem lifted (os : Os) (started : os.Started) (H : Type) (enc : TypeId × Value → H) (F : Stop.Interp) :
    ReturnsInHanded {} Tryz.checked os 3 .any ((Rows.OpenSpec.upto Rows.walPlaysSpec).preRow enc Tryz.prog Tryz.f3 Rows.walPlaysUptoRow.domain false Rows.walPlaysUptoRow.laid) (((Rows.OpenSpec.upto Rows.walPlaysSpec).at F).post enc Tryz.prog Tryz.f3 false true false false) := by
  obtain ⟨places, hx⟩ := reads os enc
  refine returnsInHanded_of_row (C := Tryz.checked) (s := Rows.OpenSpec.upto Rows.walPlaysSpec) own started (by kernel_rfl) Tryz.func3
    (witness_row_atRef (enc := enc) (C := Tryz.checked) false (laidWorld os) #[.slice none 0 0] rfl (by kernel_rfl) (by kernel_rfl) (by kernel_rfl)
      (OpenSpec.preRow_of_cond 8 hx (by kernel_rfl) (fun k hk => by cases hk; kernel_rfl) (by kernel_rfl) (laidWorld_met os _))) ?_
  intro W base args ds gs before hval hW _ hcond _ hL hS _
  exact contract H enc W base args ds gs before hval hW (hcond _ rfl) hL

theorem saidUpto : Rows.WalPlaysUptoSaid :=
  OpenClaim.holds_of_cond 3 Tryz.f3 rfl rfl rfl rfl rfl rfl rfl ⟨rfl, rfl, rfl, rfl, rfl⟩ rfl rfl rfl rfl rfl (by kernel_rfl) Tryz.func3 (by kernel_rfl)
    (of_decide_eq_true (by kernel_rfl)) (by unfold Func.isWrapper; first | (rw [if_pos (by decide +kernel)]; kernel_rfl) | (rw [if_neg (by decide +kernel)]; exact ⟨rfl, rfl⟩))
    (fun os started H enc _ F => by rw [OpenClaim.pre_eq_preRow]; exact lifted os started H enc F)

theorem looks (f : FuncId) (fn : Func) (hf : Tryz.pinned.checked.prog.funcNamed "lodestar/lodestarlaw09.WalPlays" = some f) (hfn : Tryz.pinned.checked.prog.funcs[f]? = some fn) :
    true = Tryz.pinned.checked.prog.looks [] ∧ ∀ (j : Nat) t, fn.params[j]? = some t → Tryz.pinned.checked.prog.wantsStandIn t = false := by
  obtain rfl : f = 3 := Option.some.inj ((show Tryz.prog.funcNamed "lodestar/lodestarlaw09.WalPlays" = some 3 by kernel_rfl).symm.trans hf) |>.symm
  obtain rfl : fn = Tryz.f3 := (Option.some.inj (Tryz.func3.symm.trans hfn)).symm
  refine ⟨by kernel_rfl, fun j t ht => ?_⟩
  rw [Tryz.params3] at ht
  have hm := Array.mem_of_getElem? ht
  simp only [List.mem_toArray, List.mem_cons, List.mem_nil_iff, or_false] at hm
  rcases hm with rfl
  exact (show Tryz.prog.wantsStandIn 22 = false by kernel_rfl)
theorem cardUpto : Rows.WalPlaysUptoCardSaid :=
  Claim7.holds_tied_plain_at .later [] _ _ _ _ saidUpto (fun _ h => by cases h) (by kernel_rfl) (fun _ h => by cases h) walPlaysUpto_row_tie rfl ⟨rfl, rfl⟩ (by kernel_rfl) rfl looks (by kernel_rfl)
#print axioms cardUpto
end Go.Proofs.YtomhgoahhlnjpaaGreatDoor.walPlays
namespace Go.Proofs.YtomhgoahhlnjpaaGreatDoor
/-- The card, under a short name, for the claim. -/
theorem walPlays_holds : Rows.WalPlaysUptoCardSaid := walPlays.cardUpto
end Go.Proofs.YtomhgoahhlnjpaaGreatDoor
