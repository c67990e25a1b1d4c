/- Proved: the statement 'DiskPlaysUptoSaid', that is, DiskPlays answers true for every input of bulk at most 1048576, and the input reads as it did. Conditions: the given row's own (the bulk). -/
import Derived.Test.YtokienfegjlocaaRows
import Derived.Test.YtokienfegjlocaaOpen
import Derived.Test.YtokienfegjlocaaRfZ
import Derived.WalkKit
import Derived.ProofKit
import Derived.OpenShut
import Derived.ShutString
import Derived.ChangeOld
import Derived.Below
import Derived.JoinedCond
namespace Go.Proofs.Ytokienfegjlocaa.diskPlays
open Go.ChangeShapes Go.WideShapes Go.ChangeAt Go.RowKit Go.Proofs.Ytokienfegjlocaa.Opens Go.Proofs.YtokienfegjlocaaW.PrintWords Go.Proofs.Ytokienfegjlocaa.PRef Go.Proofs.Ytokienfegjlocaa.Rf

theorem own : ownKnob Try.prog.godebug = none := by kernel_rfl
theorem laidOut : laidOutB Try.prog = true := by kernel_rfl

theorem opn25 : Opn Try.prog 25 kCr (fun _ => 0) (fun _ => True) :=
  (opn_struct (fs := [_, _]) (f := id) Try.underlying25 (opnF_cons (opn_int Try.underlying3) (by kernel_rfl) (opnF_one (opn_slice Try.underlying23 (opn_int Try.underlying3) (by kernel_rfl)) (by kernel_rfl))) ⟨by kernel_rfl, by kernel_rfl, trivial⟩ (by kernel_rfl) (fun y => ⟨y, rfl⟩)).weak (fun _ => Nat.zero_le _) (fun _ _ => trivial)
theorem opn41 : Opn Try.prog 41 k41 (fun _ => 1) (fun _ => True) :=
  (opn_struct (fs := [_, _, _]) (f := fun x : S41 => (x.f0, x.f1, x.f2)) Try.underlying41 (opnF_cons (opn_int Try.underlying3) (by kernel_rfl) (opnF_cons (opn_int Try.underlying3) (by kernel_rfl) (opnF_one (opn_int Try.underlying3) (by kernel_rfl)))) ⟨by kernel_rfl, by kernel_rfl, by kernel_rfl, trivial⟩ (by kernel_rfl) (fun y => ⟨⟨y.1, y.2.1, y.2.2⟩, rfl⟩)).weak (fun _ => by omega) (fun _ _ => trivial)
theorem wt_one {α : Type} (l : List α) : l.length ≤ Wt (fun _ => 1) l := by
  induction l with
  | nil => exact Nat.le_refl _
  | cons x l ih => simp only [Wt, List.length_cons]; omega
theorem opn55 : Opn Try.prog 55 k55 wtD (fun _ => True) :=
  (opn_struct (fs := [_, _, _, _, _, _]) (f := fun x : Deed => (x.kind, x.a, x.b, x.n, x.faults, x.crash)) Try.underlying55
    (opnF_cons (opn_int Try.underlying3) (by kernel_rfl) (opnF_cons (opn_string Try.underlying9) (by kernel_rfl) (opnF_cons (opn_string Try.underlying9) (by kernel_rfl) (opnF_cons (opn_int Try.underlying3) (by kernel_rfl)
      (opnF_cons (opn_slice Try.underlying43 opn41 (by kernel_rfl)) (by kernel_rfl) (opnF_one opn25 (by kernel_rfl)))))))
    ⟨by kernel_rfl, by kernel_rfl, by kernel_rfl, by kernel_rfl, by kernel_rfl, by kernel_rfl, trivial⟩ (by kernel_rfl) (fun y => ⟨⟨y.1, y.2.1, y.2.2.1, y.2.2.2.1, y.2.2.2.2.1, y.2.2.2.2.2⟩, rfl⟩)).weak
    (fun x => by have := wt_one x.faults; show x.a.size + x.b.size + x.faults.length + 3 ≤ _; dsimp only; omega) (fun _ _ => trivial)
theorem sum_wt : ∀ l : List Deed, sumD l = Wt wtD l ∧ l.length ≤ Wt wtD l
  | [] => ⟨rfl, Nat.le_refl _⟩
  | x :: l => by
    obtain ⟨h1, h2⟩ := sum_wt l
    have : 3 ≤ wtD x := by unfold wtD; omega
    exact ⟨by rw [sumD, Wt, h1], by rw [List.length_cons, Wt]; omega⟩

set_option maxRecDepth 100000 in
theorem contract (H : Type) (enc : TypeId × Value → H) (W : World) (base : Nat) (args : Array Value) (ds gs : List (DataW H)) (before : List MemPlace)
    (hval : ∀ (j : Nat) t v, Try.f6.params[j]? = some t → args[j]? = some v → Value.okWide Try.prog W .any base t v)
    (hW : DataW.Whole enc Try.prog Try.f6.params.toList Rows.diskPlaysSpec.vars false W args.toList ds gs before) (hk : Rows.uptoSmall H (ds ++ gs) = true) :
    Calls Try.prog 6 args W fun e W' => ∃ v, e = .returned v ∧ Rows.diskPlaysSpec.post enc Try.prog Try.f6 false true false false W args v W' := by
  have hW' := hW
  obtain ⟨p, q, hA0, hV, rfl, hfz, hnd⟩ := hW
  have hA : DataW.TrodAll enc Try.prog W 0 (fun _ => true) true Try.f6.params.toList args.toList ds p := hA0
  rw [Try.params6] at hA hval
  obtain ⟨v0, vs0, d0, ds0, p0, q0, hargs, rfl, rfl, h0, r0⟩ := trodAll_cons hA
  obtain ⟨rfl, rfl, rfl⟩ := trodAll_nil r0
  obtain rfl : args = #[v0] := by cases args; simp_all
  obtain ⟨rfl, rfl⟩ := trodVars_none hV
  have k0 := h0
  have lt0 : ∀ x ∈ p0, x.block < W.heap.size := by obtain ⟨m, hm⟩ := k0; exact DataW.trod_lt m _ _ _ hm
  obtain ⟨A, c, l, rfl, _, hC, hm0, _⟩ := open_slice Try.underlying46 opn55 (by kernel_rfl) (hval 0 46 v0 rfl rfl) h0
  have hb := bulk_le hk
  simp only [List.cons_append, List.nil_append, Rows.uptoBulkAll] at hb
  obtain ⟨g1, g2⟩ := sum_wt l
  clear hA0
  refine (plays_calls W l hC (by omega) (by omega)).mono fun e W' ⟨he, bel⟩ => ?_
  subst he
  exact ⟨_, rfl, _, _, _, [], _, [], hW', trodAll_mk1 (shut_bool Try.underlying4 _), trodAll_cons_mk (Below.trod laidOut (by kernel_rfl) (of_decide_eq_true (by kernel_rfl)) k0 bel lt0) trodAll_mk0, rfl, bel.frame _, fun h => by cases h⟩

set_option maxRecDepth 100000 in
theorem lifted (os : Os) (started : os.Started) (H : Type) (enc : TypeId × Value → H) (F : Stop.Interp) :
    ReturnsInHanded {} Try.checked os 6 .any ((Rows.OpenSpec.upto Rows.diskPlaysSpec).pre6 enc Try.prog Try.f6 Rows.diskPlaysUptoRow.domain false) (((Rows.OpenSpec.upto Rows.diskPlaysSpec).at F).post enc Try.prog Try.f6 false true false false) := by
  refine returnsInHanded_of_cond (C := Try.checked) (s := Rows.OpenSpec.upto Rows.diskPlaysSpec) (k := Rows.uptoSmall) rfl own started (by kernel_rfl) Try.func6
    (OpenSpec.witness (enc := enc) (C := Try.checked) (s := Rows.OpenSpec.upto Rows.diskPlaysSpec) (k := Rows.uptoSmall) rfl false ⟨#[], #[.slice none 0 0], []⟩ 8 (by kernel_rfl) (by kernel_rfl) (by kernel_rfl)
      (x := ([.nil], [], [])) (by kernel_rfl) rfl (by kernel_rfl)) ?_
  intro W base args ds gs before hval hW _ hk _
  exact contract H enc W base args ds gs before hval hW hk

theorem over : Rows.diskPlaysUptoRow.holds Try.pinned (Rows.OpenSpec.upto Rows.diskPlaysSpec) :=
  OpenClaim.holds_of_cond 6 Try.f6 rfl rfl rfl rfl rfl rfl rfl ⟨rfl, rfl, rfl, rfl, rfl⟩ rfl rfl rfl rfl rfl (by kernel_rfl) Try.func6 (by kernel_rfl)
    (of_decide_eq_true (by kernel_rfl)) (by unfold Func.isWrapper; first | (rw [if_pos (by decide +kernel)]; kernel_rfl) | (rw [if_neg (by decide +kernel)]; exact ⟨rfl, rfl⟩))
    (fun os started H enc _ F => lifted os started H enc F)
theorem proved : Rows.DiskPlaysUptoSaid := over
#print axioms proved
end Go.Proofs.Ytokienfegjlocaa.diskPlays
namespace Go.Proofs.Ytokienfegjlocaa
/-- The row, under a short name, for the claim. -/
theorem diskPlays_holds : Rows.DiskPlaysUptoSaid := diskPlays.proved
end Go.Proofs.Ytokienfegjlocaa
