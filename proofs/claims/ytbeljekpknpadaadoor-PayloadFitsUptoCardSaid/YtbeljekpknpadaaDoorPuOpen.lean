import Derived.Test.YtbeljekpknpadaaDoorPPayUx6
import Derived.Test.YtbeljekpknpadaaDoorOpenKu
import Derived.Test.YtbeljekpknpadaaDoorShelf
import Derived.Test.YtbeljekpknpadaaDoorRows
import Derived.WalkKit
import Derived.ProofKit
import Derived.Lib.LaidIn
import Derived.Lib.LaidU8T
import Derived.Deep.DeepLaidRun
namespace Go.Proofs.YtbeljekpknpadaaDoor.PuOpenN
open Go.ChangeShapes Go.WideShapes Go.ChangeAt Go.RowKit Go.Proofs.YtbeljekpknpadaaDoor.Opens Go.Proofs.YtbeljekpknpadaaDoor.PPayU
open Go.Proofs.YtbeljekpknpadaaDoorW.PrintWords

theorem own : ownKnob Tryd.prog.godebug = none := by kernel_rfl
theorem laidOut : laidOutB Tryd.prog = true := by kernel_rfl

/-! ### the tables that the rows list -/
theorem pin_first : Go.Pinned.utf8First = Lib.firstData := by kernel_rfl
theorem acc_eq : (Rows.laid_unicode_utf8_acceptRanges : DataW Unit) = Lib.acceptData := by kernel_rfl
theorem tables {W : World} (h : laidMet Tryd.prog [("unicode/utf8.acceptRanges", Rows.laid_unicode_utf8_acceptRanges), ("unicode/utf8.first", Rows.laid_unicode_utf8_first)] W) : LaidU W := by
  have h1 := Lib.laidMet.reads h (.head _)
  have h2 := Lib.laidMet.reads h (.tail _ (.head _))
  rw [acc_eq] at h1
  have h3 : Lib.VarReads Tryd.prog W "unicode/utf8.first" Lib.firstData := by
    rw [← pin_first]
    exact h2
  exact utf8Tabs_of_readsT (U8Types.of196 Tryd.laysValid) ⟨by kernel_rfl, by kernel_rfl, by kernel_rfl, by kernel_rfl, by kernel_rfl, by kernel_rfl, by kernel_rfl⟩ h3 h1

/-- THE WITNESS: the settled world, the two variables holding what their initialisers lay. -/
noncomputable def laidWorld (os : Os) : World :=
  let w0 := World.holding Tryd.prog os ⟨#[], #[], []⟩
  let put (h : Array Obj) (g : Nat) (cs : Array Value) : Array Obj := h.modify g fun
    | .cells _ t frozen => .cells cs t frozen
    | o => o
  let h1 := put w0.heap 0 (Lib.firstTab.map fun z => Value.int .u8 z).toArray
  let h2 := put h1 1 ((List.range 16).flatMap fun i => [Value.int .u8 (Lib.accLo i), Value.int .u8 (Lib.accHi i)]).toArray
  { w0 with heap := h2 }
theorem laid_met (os : Os) (args : Array Value) : laidMet Tryd.prog [("unicode/utf8.acceptRanges", Rows.laid_unicode_utf8_acceptRanges), ("unicode/utf8.first", Rows.laid_unicode_utf8_first)] ((laidWorld os).forCall (fun _ _ => 0) ⟨#[], args, []⟩).memory :=
  (LaidIn.of_run (l := [("unicode/utf8.acceptRanges", Rows.laid_unicode_utf8_acceptRanges), ("unicode/utf8.first", Rows.laid_unicode_utf8_first)]) [1, 0] 8 (by kernel_rfl) (by kernel_rfl) (by kernel_rfl) (by kernel_rfl)).met

/-! ### the parameters -/
theorem opn33 : Opn Tryd.prog 33 k33 (fun x => 1 + (1 + (x.f2.size + 1)) + 1) (fun _ => True) :=
  (opn_struct (fs := [_, _, _]) Tryd.underlying33 (opnF_cons (opn_int Tryd.underlying3) (by kernel_rfl) (opnF_cons (opn_int Tryd.underlying3) (by kernel_rfl) (opnF_one (opn_string Tryd.underlying9) (by kernel_rfl)))) ⟨by kernel_rfl, by kernel_rfl, by kernel_rfl, trivial⟩ (by kernel_rfl) (fun y => ⟨⟨y.1, y.2.1, y.2.2⟩, rfl⟩)).weak (fun _ => Nat.le_refl _) (fun _ _ => trivial)
theorem opn61 : Opn Tryd.prog 61 k61 (fun x => (x.f0.size + 1) + (1 + (1 + (x.f1.f2.size + 1)) + 1) + 1) (fun _ => True) :=
  (opn_struct (fs := [_, _]) Tryd.underlying61 (opnF_cons (opn_string Tryd.underlying9) (by kernel_rfl) (opnF_one opn33 (by kernel_rfl))) ⟨by kernel_rfl, by kernel_rfl, trivial⟩ (by kernel_rfl) (fun y => ⟨⟨y.1, y.2⟩, rfl⟩)).weak (fun _ => Nat.le_refl _) (fun _ _ => trivial)
theorem wt_len {α : Type} {m : α → Nat} (hm : ∀ x, 1 ≤ m x) : ∀ l : List α, l.length ≤ Wt m l
  | [] => by simp [Wt]
  | x :: l => by
    have h1 := hm x
    have h2 := wt_len hm l
    simp only [Wt, List.length_cons]
    omega
end Go.Proofs.YtbeljekpknpadaaDoor.PuOpenN
