/- Proved: the statement 'WalFramesUptoSaid', that is, WalFrames answers true for every input of bulk at most 1048576, and the input reads as it did. Conditions: the given row's own (the bulk). -/
import Derived.Test.YtmnmlicckmaegaaRows
import Derived.Test.YtmnmlicckmaegaaOpen
import Derived.Test.YtmnmlicckmaegaaWalC
import Derived.WalkKit
import Derived.ProofKit
import Derived.OpenShut
import Derived.ShutString
import Derived.ChangeOld
import Derived.Below
import Derived.JoinedCond
namespace Go.Proofs.Ytmnmlicckmaegaa.walFrames
open Go.ChangeShapes Go.WideShapes Go.ChangeAt Go.RowKit Go.Proofs.Ytmnmlicckmaegaa.Opens Go.Proofs.Ytmnmlicckmaegaa.PWal Go.Proofs.Ytmnmlicckmaegaa.WalA Go.Proofs.Ytmnmlicckmaegaa.WalB Go.Proofs.Ytmnmlicckmaegaa.WalC
open Go.ChangeMaps (open_string shut_string)

theorem own : ownKnob Try.prog.godebug = none := by kernel_rfl
theorem laidOut : laidOutB Try.prog = true := by kernel_rfl

/-- THE PLAIN LAW -/
theorem plain (a : Int) (b s : ByteArray) (hb : b.size ≤ 1048576) (hs : s.size ≤ 1048576) : ∃ k, lodestarlaw09_WalFrames.f k a b s = some true := by
  refine ⟨100000000, ?_⟩
  have hl := SCAN_length s
  unfold lodestarlaw09_WalFrames.f
  rw [walFrame a b _ (by omega), refFrame a b _ (by omega), walScan s _ (by omega) (by omega), refScan s _ (by omega) (by omega)]
  simp only [Option.bind_some]
  rw [if_pos trivial, if_pos trivial, same_self (SCAN s).1 _ (by omega) (by omega)]
  simp only [Option.bind_some]
  rw [if_pos trivial, if_pos trivial, if_pos trivial, awake _ (by omega)]
  rfl

theorem opn23 : Opn Try.prog 23 k23 (fun x => 1 + (x.f1.size + 1) + 1) (fun _ => True) :=
  (opn_struct (fs := [_, _]) Try.underlying23 (opnF_cons (opn_int Try.underlying3) (by kernel_rfl) (opnF_one (opn_string Try.underlying9) (by kernel_rfl))) ⟨by kernel_rfl, by kernel_rfl, trivial⟩ (by kernel_rfl) (fun y => ⟨⟨y.1, y.2⟩, rfl⟩)).weak (fun _ => Nat.le_refl _) (fun _ _ => trivial)

set_option maxRecDepth 100000 in
theorem contract (H : Type) (enc : TypeId × Value → H) (W : World) (base : Nat) (args : Array Value) (ds gs : List (DataW H)) (before : List MemPlace)
    (hval : ∀ (j : Nat) t v, Try.f3.params[j]? = some t → args[j]? = some v → Value.okWide Try.prog W .any base t v)
    (hW : DataW.Whole enc Try.prog Try.f3.params.toList Rows.walFramesSpec.vars false W args.toList ds gs before) (hk : Rows.uptoSmall H (ds ++ gs) = true) :
    Calls Try.prog 3 args W fun e W' => ∃ v, e = .returned v ∧ Rows.walFramesSpec.post enc Try.prog Try.f3 false true false false W args v W' := by
  have hW' := hW
  obtain ⟨p, q, hA0, hV, rfl, hfz, hnd⟩ := hW
  have hA : DataW.TrodAll enc Try.prog W 0 (fun _ => true) true Try.f3.params.toList args.toList ds p := hA0
  rw [Try.params3] at hA hval
  obtain ⟨v0, vs0, d0, ds0, p0, q0, hargs, rfl, rfl, h0, r0⟩ := trodAll_cons hA
  obtain ⟨v1, vs1, d1, ds1, p1, q1, rfl, rfl, rfl, h1, r1⟩ := trodAll_cons r0
  obtain ⟨rfl, rfl, rfl⟩ := trodAll_nil r1
  obtain rfl : args = #[v0, v1] := by cases args; simp_all
  obtain ⟨rfl, rfl⟩ := trodVars_none hV
  have k0 := h0
  have lt0 : ∀ x ∈ p0, x.block < W.heap.size := by obtain ⟨m, hm⟩ := k0; exact DataW.trod_lt m _ _ _ hm
  obtain ⟨cs, x, rfl, hK, hm0, _⟩ := open_struct Try.underlying23 opn23 (hval 0 23 v0 rfl rfl) h0
  obtain ⟨s, rfl, rfl, rfl, y1⟩ := open_string Try.underlying9 (hval 1 9 v1 rfl rfl) h1
  have hcs := k23_open hK
  obtain rfl : cs = #[.int .i64 x.f0, .string x.f1] := by cases cs; simp_all
  have hb := bulk_le hk
  simp only [List.cons_append, List.nil_append, Rows.uptoBulkAll, Rows.uptoBulk, Array.length_toList] at hb
  have hs : s.data.size = s.size := rfl
  have hbb : x.f1.size ≤ 1048576 ∧ s.size ≤ 1048576 := by
    clear y1 hA0
    have hm1 : 1 + (x.f1.size + 1) + 1 ≤ Rows.uptoBulk d0 := hm0
    clear hm0
    omega
  clear hA0
  obtain ⟨k, hpl⟩ := plain x.f0 x.f1 s hbb.1 hbb.2
  refine (lodestarlaw09_WalFrames.calls k x.f0 x.f1 s true W hpl).mono fun e W' ⟨he, bel⟩ => ?_
  subst he
  exact ⟨_, rfl, _, _, _, [], _, [], hW', trodAll_mk1 (shut_bool Try.underlying4 _), trodAll_cons_mk (Below.trod laidOut (by kernel_rfl) (of_decide_eq_true (by kernel_rfl)) k0 bel lt0) (trodAll_cons_mk (shut_string Try.underlying9 y1) trodAll_mk0), rfl, bel.frame _, fun h => by cases h⟩

set_option maxRecDepth 100000 in
theorem lifted (os : Os) (started : os.Started) (H : Type) (enc : TypeId × Value → H) (F : Stop.Interp) :
    ReturnsInHanded {} Try.checked os 3 .any ((Rows.OpenSpec.upto Rows.walFramesSpec).pre6 enc Try.prog Try.f3 Rows.walFramesUptoRow.domain false) (((Rows.OpenSpec.upto Rows.walFramesSpec).at F).post enc Try.prog Try.f3 false true false false) := by
  refine returnsInHanded_of_cond (C := Try.checked) (s := Rows.OpenSpec.upto Rows.walFramesSpec) (k := Rows.uptoSmall) rfl own started (by kernel_rfl) Try.func3
    (OpenSpec.witness (enc := enc) (C := Try.checked) (s := Rows.OpenSpec.upto Rows.walFramesSpec) (k := Rows.uptoSmall) rfl false ⟨#[], #[.agg #[.int .i64 0, .string .empty], .string .empty], []⟩ 8 (by kernel_rfl) (by kernel_rfl) (by kernel_rfl)
      (x := ([.agg [.lit (.int .i64 0), .lit (.string [])], .lit (.string [])], [], [])) (by kernel_rfl) rfl (by kernel_rfl)) ?_
  intro W base args ds gs before hval hW _ hk _
  exact contract H enc W base args ds gs before hval hW hk

theorem over : Rows.walFramesUptoRow.holds Try.pinned (Rows.OpenSpec.upto Rows.walFramesSpec) :=
  OpenClaim.holds_of_cond 3 Try.f3 rfl rfl rfl rfl rfl rfl rfl ⟨rfl, rfl, rfl, rfl, rfl⟩ rfl rfl rfl rfl rfl (by kernel_rfl) Try.func3 (by kernel_rfl)
    (of_decide_eq_true (by kernel_rfl)) (by unfold Func.isWrapper; first | (rw [if_pos (by decide +kernel)]; kernel_rfl) | (rw [if_neg (by decide +kernel)]; exact ⟨rfl, rfl⟩))
    (fun os started H enc _ F => lifted os started H enc F)
theorem proved : Rows.WalFramesUptoSaid := over
#print axioms proved
end Go.Proofs.Ytmnmlicckmaegaa.walFrames
namespace Go.Proofs.Ytmnmlicckmaegaa
/-- The row, under a short name, for the claim. -/
theorem walFrames_holds : Rows.WalFramesUptoSaid := walFrames.proved
end Go.Proofs.Ytmnmlicckmaegaa
