/- Proved: the statement 'DiskNobodySaid', that is, DiskNobody answers true for every input, and the input reads as it did. Conditions: none beyond the given row. -/
import Derived.Test.YtokienfegjlocaaRows
import Derived.Test.YtokienfegjlocaaOpen
import Derived.Test.YtokienfegjlocaaDkR
import Derived.WalkKit
import Derived.ProofKit
import Derived.OpenShut
import Derived.ShutString
import Derived.ChangeOld
import Derived.Below
namespace Go.Proofs.Ytokienfegjlocaa.diskNobody
open Go.ChangeShapes Go.WideShapes Go.ChangeAt Go.RowKit Go.Proofs.Ytokienfegjlocaa.Opens Go.Proofs.YtokienfegjlocaaW.PrintWords Go.Proofs.Ytokienfegjlocaa.Dk

theorem own : ownKnob Try.prog.godebug = none := by kernel_rfl
theorem laidOut : laidOutB Try.prog = true := by kernel_rfl

def kFault : Kd (Int × Int × Int) := Kd.iso (Kd.pair (Kd.int .i64) (Kd.pair (Kd.int .i64) (Kd.int .i64))) id
def kCrash : Kd (Int × List Int) := Kd.iso (Kd.pair (Kd.int .i64) (Kd.slice 3 (Kd.int .i64))) id
def kDeed : Kd (Int × ByteArray × ByteArray × Int × List (Int × Int × Int) × (Int × List Int)) :=
  Kd.iso (Kd.pair (Kd.int .i64) (Kd.pair Kd.string (Kd.pair Kd.string (Kd.pair (Kd.int .i64) (Kd.pair (Kd.slice 41 kFault) kCrash))))) id
theorem opn41 : Opn Try.prog 41 kFault (fun _ => 0) (fun _ => True) :=
  (opn_struct (fs := [_, _, _]) (f := id) Try.underlying41 (opnF_cons (opn_int Try.underlying3) (by kernel_rfl) (opnF_cons (opn_int Try.underlying3) (by kernel_rfl) (opnF_one (opn_int Try.underlying3) (by kernel_rfl)))) ⟨by kernel_rfl, by kernel_rfl, by kernel_rfl, trivial⟩ (by kernel_rfl) (fun y => ⟨y, rfl⟩)).weak (fun _ => Nat.zero_le _) (fun _ _ => trivial)
theorem opn25 : Opn Try.prog 25 kCrash (fun _ => 0) (fun _ => True) :=
  (opn_struct (fs := [_, _]) (f := id) Try.underlying25 (opnF_cons (opn_int Try.underlying3) (by kernel_rfl) (opnF_one (opn_slice Try.underlying23 (opn_int Try.underlying3) (by kernel_rfl)) (by kernel_rfl))) ⟨by kernel_rfl, by kernel_rfl, trivial⟩ (by kernel_rfl) (fun y => ⟨y, rfl⟩)).weak (fun _ => Nat.zero_le _) (fun _ _ => trivial)
theorem opn55 : Opn Try.prog 55 kDeed (fun _ => 0) (fun _ => True) :=
  (opn_struct (fs := [_, _, _, _, _, _]) (f := id) Try.underlying55 (opnF_cons (opn_int Try.underlying3) (by kernel_rfl) (opnF_cons (opn_string Try.underlying9) (by kernel_rfl) (opnF_cons (opn_string Try.underlying9) (by kernel_rfl) (opnF_cons (opn_int Try.underlying3) (by kernel_rfl)
    (opnF_cons (opn_slice Try.underlying43 opn41 (by kernel_rfl)) (by kernel_rfl) (opnF_one opn25 (by kernel_rfl))))))) ⟨by kernel_rfl, by kernel_rfl, by kernel_rfl, by kernel_rfl, by kernel_rfl, by kernel_rfl, trivial⟩ (by kernel_rfl) (fun y => ⟨y, rfl⟩)).weak (fun _ => Nat.zero_le _) (fun _ _ => trivial)
theorem kDeed_open {w : World} {x : Int × ByteArray × ByteArray × Int × List (Int × Int × Int) × (Int × List Int)} {cs : List Value} (h : kDeed.K w x cs) : ∃ A1 m1 c1 A2 m2 c2, cs = [.int .i64 x.1, .string x.2.1, .string x.2.2.1, .int .i64 x.2.2.2.1, .slice A1 m1 c1, .int .i64 x.2.2.2.2.2.1, .slice A2 m2 c2] := by
  obtain ⟨_, _, rfl, rfl, _, _, rfl, rfl, _, _, rfl, rfl, _, _, rfl, rfl, _, _, rfl, ⟨A1, c1, rfl, _⟩, _, _, rfl, rfl, ⟨A2, c2, rfl, _⟩⟩ := h
  exact ⟨_, _, _, _, _, _, rfl⟩

set_option maxRecDepth 100000 in
theorem contract (H : Type) (enc : TypeId × Value → H) (W : World) (base : Nat) (args : Array Value) (ds gs : List (DataW H)) (before : List MemPlace)
    (hval : ∀ (j : Nat) t v, Try.f7.params[j]? = some t → args[j]? = some v → Value.okWide Try.prog W .any base t v)
    (hW : DataW.Whole enc Try.prog Try.f7.params.toList Rows.diskNobodySpec.vars false W args.toList ds gs before) :
    Calls Try.prog 7 args W fun e W' => ∃ v, e = .returned v ∧ Rows.diskNobodySpec.post enc Try.prog Try.f7 false true false false W args v W' := by
  have hW' := hW
  obtain ⟨p, q, hA0, hV, rfl, hfz, hnd⟩ := hW
  have hA : DataW.TrodAll enc Try.prog W 0 (fun _ => true) true Try.f7.params.toList args.toList ds p := hA0
  rw [Try.params7] at hA hval
  obtain ⟨v0, vs0, d0, ds0, p0, q0, hargs, rfl, rfl, h0, r0⟩ := trodAll_cons hA
  obtain ⟨rfl, rfl, rfl⟩ := trodAll_nil r0
  obtain rfl : args = #[v0] := by cases args; simp_all
  obtain ⟨rfl, rfl⟩ := trodVars_none hV
  have k0 := h0
  have lt0 : ∀ x ∈ p0, x.block < W.heap.size := by obtain ⟨m, hm⟩ := k0; exact DataW.trod_lt m _ _ _ hm
  obtain ⟨cs, x, rfl, hK, _, _⟩ := open_struct Try.underlying55 opn55 (hval 0 55 v0 rfl rfl) h0
  obtain ⟨A1, m1, c1, A2, m2, c2, hcs⟩ := kDeed_open hK
  obtain rfl : cs = #[.int .i64 x.1, .string x.2.1, .string x.2.2.1, .int .i64 x.2.2.2.1, .slice A1 m1 c1, .int .i64 x.2.2.2.2.2.1, .slice A2 m2 c2] := by cases cs; simp_all
  clear hA0
  refine (nobody_calls _ _ _ _ _ A1 A2 m1 c1 m2 c2 W).mono fun e W' ⟨he, bel⟩ => ?_
  subst he
  exact ⟨_, rfl, _, _, _, [], _, [], hW', trodAll_mk1 (shut_bool Try.underlying4 _), trodAll_cons_mk (Below.trod laidOut (by kernel_rfl) (of_decide_eq_true (by kernel_rfl)) k0 bel lt0) trodAll_mk0, rfl, bel.frame _, fun h => by cases h⟩

set_option maxRecDepth 100000 in
theorem lifted (os : Os) (started : os.Started) (H : Type) (enc : TypeId × Value → H) :
    ReturnsInHanded {} Try.checked os 7 .any (Rows.diskNobodySpec.pre6 enc Try.prog Try.f7 [] false) (Rows.diskNobodySpec.post enc Try.prog Try.f7 false true false false) := by
  refine returnsInHanded_of_change (C := Try.checked) (s := Rows.diskNobodySpec) own started (by kernel_rfl) Try.func7
    (ChangeSpec.witness6 (enc := enc) (C := Try.checked) false ⟨#[], #[.agg #[.int .i64 0, .string .empty, .string .empty, .int .i64 0, .slice none 0 0, .int .i64 0, .slice none 0 0]], []⟩ 8 (by kernel_rfl) (by kernel_rfl) (by kernel_rfl) (by kernel_rfl)) ?_
  intro W base args ds gs before hval hW _ _
  exact contract H enc W base args ds gs before hval hW

theorem proved : Rows.DiskNobodySaid :=
  OpenClaim.holds_of_wide 7 Try.f7 rfl rfl rfl rfl rfl rfl rfl ⟨rfl, rfl, rfl, rfl, rfl⟩ rfl rfl rfl rfl rfl (by kernel_rfl) Try.func7 (by kernel_rfl)
    (of_decide_eq_true (by kernel_rfl)) (by unfold Func.isWrapper; first | (rw [if_pos (by decide +kernel)]; kernel_rfl) | (rw [if_neg (by decide +kernel)]; exact ⟨rfl, rfl⟩))
    (fun os started H enc _ => lifted os started H enc)
#print axioms proved
end Go.Proofs.Ytokienfegjlocaa.diskNobody
namespace Go.Proofs.Ytokienfegjlocaa
/-- The row, under a short name, for the claim. -/
theorem diskNobody_holds : Rows.DiskNobodySaid := diskNobody.proved
end Go.Proofs.Ytokienfegjlocaa
