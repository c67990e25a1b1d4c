/- Schemas and points among the parameters: their kinds, and what their bulk bounds. -/
import Derived.Test.YtbeljekpknpadaaDoorPuOpen2
import Derived.Test.YtbeljekpknpadaaDoorPuK
namespace Go.Proofs.YtbeljekpknpadaaDoor.PuOpenN
open Go.ChangeShapes Go.WideShapes Go.ChangeAt Go.RowKit Go.Proofs.YtbeljekpknpadaaDoor.Opens Go.Proofs.YtbeljekpknpadaaDoor.PPayU Go.Proofs.YtbeljekpknpadaaDoor.PPayUL
open Go.Proofs.YtbeljekpknpadaaDoorW.PrintWords
set_option linter.unusedVariables false
set_option linter.unusedSimpArgs false

def m89 (x : S89) : Nat := (x.f0.size + 1) + (1 + 1) + 1
def m93 (x : S93) : Nat := (x.f0.size + 1) + 1 + 1
def k51 : Kd (List S89 × List S93) := Kd.iso (Kd.pair (Kd.slice 89 k89) (Kd.slice 93 k93)) (fun x => x)
def m51 (x : List S89 × List S93) : Nat := (Wt m89 x.1 + 1) + (Wt m93 x.2 + 1) + 1
theorem opn89 : Opn Tryd.prog 89 k89 m89 (fun _ => True) :=
  (opn_struct (fs := [_, _, _]) Tryd.underlying89 (opnF_cons (opn_string Tryd.underlying9) (by kernel_rfl) (opnF_cons (opn_int Tryd.underlying3) (by kernel_rfl) (opnF_one (opn_int Tryd.underlying3) (by kernel_rfl)))) ⟨by kernel_rfl, by kernel_rfl, by kernel_rfl, trivial⟩ (by kernel_rfl) (fun y => ⟨⟨y.1, y.2.1, y.2.2⟩, rfl⟩)).weak (fun _ => Nat.le_refl _) (fun _ _ => trivial)
theorem opn93 : Opn Tryd.prog 93 k93 m93 (fun _ => True) :=
  (opn_struct (fs := [_, _]) Tryd.underlying93 (opnF_cons (opn_string Tryd.underlying9) (by kernel_rfl) (opnF_one (opn_int Tryd.underlying3) (by kernel_rfl))) ⟨by kernel_rfl, by kernel_rfl, trivial⟩ (by kernel_rfl) (fun y => ⟨⟨y.1, y.2⟩, rfl⟩)).weak (fun _ => Nat.le_refl _) (fun _ _ => trivial)
theorem opn51 : Opn Tryd.prog 51 k51 m51 (fun _ => True) :=
  (opn_struct (fs := [_, _]) Tryd.underlying51 (opnF_cons (opn_slice Tryd.underlying48 opn89 (by kernel_rfl)) (by kernel_rfl) (opnF_one (opn_slice Tryd.underlying49 opn93 (by kernel_rfl)) (by kernel_rfl))) ⟨by kernel_rfl, by kernel_rfl, trivial⟩ (by kernel_rfl) (fun y => ⟨y, rfl⟩)).weak (fun _ => Nat.le_refl _) (fun _ _ => trivial)
theorem k51_open {w : World} {x : List S89 × List S93} {cs : List Value} (h : k51.K w x cs) : ∃ A1 c1 A2 c2, cs = [.slice A1 x.1.length c1, .slice A2 x.2.length c2] ∧ x.1.length ≤ c1 ∧ k89.C w A1 x.1.length x.1 ∧ x.2.length ≤ c2 ∧ k93.C w A2 x.2.length x.2 := by
  obtain ⟨_, _, rfl, ⟨A1, c1, rfl, l1, g1⟩, ⟨A2, c2, rfl, l2, g2⟩⟩ := h
  exact ⟨A1, c1, A2, c2, rfl, l1, g1, l2, g2⟩
theorem fitS_of {l : List S89} {m : List S93} (h : m51 (l, m) ≤ 1048577) : FitS l m := by
  simp only [m51] at h
  have h1 := wt_len (m := m89) (fun x => by simp only [m89]; omega) l
  have h2 := wt_len (m := m93) (fun x => by simp only [m93]; omega) m
  refine ⟨by omega, by omega, fun x hx => ?_, fun x hx => ?_⟩
  · have := wt_mem (m := m89) l x hx
    simp only [m89] at this
    omega
  · have := wt_mem (m := m93) m x hx
    simp only [m93] at this
    omega
end Go.Proofs.YtbeljekpknpadaaDoor.PuOpenN
