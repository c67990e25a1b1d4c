/- Points among the parameters: their kinds, and what their bulk bounds. -/
import Derived.Test.YtbeljekpknpadaaDoorPuOpen
import Derived.Test.YtbeljekpknpadaaDoorPuE
namespace Go.Proofs.YtbeljekpknpadaaDoor.PuOpenN
open Go.ChangeShapes Go.WideShapes Go.ChangeAt Go.RowKit Go.Proofs.YtbeljekpknpadaaDoor.Opens Go.Proofs.YtbeljekpknpadaaDoor.PPayU Go.Proofs.YtbeljekpknpadaaDoor.PPayUL
open Go.Proofs.YtbeljekpknpadaaDoorW.PrintWords
set_option linter.unusedVariables false
set_option linter.unusedSimpArgs false

def m59 (x : S59) : Nat := (x.f0.size + 1) + (Wt (fun _ : Int => 1) x.f1 + 1) + 1
def m61 (x : S61) : Nat := (x.f0.size + 1) + (1 + (1 + (x.f1.f2.size + 1)) + 1) + 1
def k25 : Kd (Int × List S59 × List S61) := Kd.iso (Kd.pair (Kd.int .i64) (Kd.pair (Kd.slice 59 k59) (Kd.slice 61 k61))) (fun x => x)
def m25 (x : Int × List S59 × List S61) : Nat := 1 + ((Wt m59 x.2.1 + 1) + (Wt m61 x.2.2 + 1)) + 1
theorem opn59 : Opn Tryd.prog 59 k59 m59 (fun _ => True) :=
  (opn_struct (fs := [_, _]) Tryd.underlying59 (opnF_cons (opn_string Tryd.underlying9) (by kernel_rfl) (opnF_one (opn_slice Tryd.underlying57 (opn_int Tryd.underlying3) (by kernel_rfl)) (by kernel_rfl))) ⟨by kernel_rfl, by kernel_rfl, trivial⟩ (by kernel_rfl) (fun y => ⟨⟨y.1, y.2⟩, rfl⟩)).weak (fun _ => Nat.le_refl _) (fun _ _ => trivial)
theorem opn25 : Opn Tryd.prog 25 k25 m25 (fun _ => True) :=
  (opn_struct (fs := [_, _, _]) Tryd.underlying25 (opnF_cons (opn_int Tryd.underlying3) (by kernel_rfl) (opnF_cons (opn_slice Tryd.underlying22 opn59 (by kernel_rfl)) (by kernel_rfl) (opnF_one (opn_slice Tryd.underlying23 opn61 (by kernel_rfl)) (by kernel_rfl)))) ⟨by kernel_rfl, by kernel_rfl, by kernel_rfl, trivial⟩ (by kernel_rfl) (fun y => ⟨y, rfl⟩)).weak (fun _ => Nat.le_refl _) (fun _ _ => trivial)
theorem k25_open {w : World} {x : Int × List S59 × List S61} {cs : List Value} (h : k25.K w x cs) : ∃ A1 c1 A2 c2, cs = [.int .i64 x.1, .slice A1 x.2.1.length c1, .slice A2 x.2.2.length c2] ∧ x.2.1.length ≤ c1 ∧ k59.C w A1 x.2.1.length x.2.1 ∧ x.2.2.length ≤ c2 ∧ k61.C w A2 x.2.2.length x.2.2 := by
  obtain ⟨_, _, rfl, rfl, ⟨_, _, rfl, ⟨A1, c1, rfl, l1, g1⟩, ⟨A2, c2, rfl, l2, g2⟩⟩⟩ := h
  exact ⟨A1, c1, A2, c2, rfl, l1, g1, l2, g2⟩
theorem wt_one (l : List Int) : Wt (fun _ : Int => 1) l = l.length := by
  induction l with
  | nil => rfl
  | cons x l ih => simp only [Wt, List.length_cons, ih]; omega
theorem wt_mem {α : Type} {m : α → Nat} : ∀ (l : List α) (x : α), x ∈ l → m x ≤ Wt m l
  | y :: l, x, h => by
    simp only [Wt]
    rcases List.mem_cons.1 h with rfl | h
    · omega
    · have := wt_mem (m := m) l x h
      omega
theorem wt59_m (l : List S59) : wt59 l ≤ 2 * Wt m59 l := by
  induction l with
  | nil => simp [wt59]
  | cons x l ih =>
    simp only [wt59, Wt, m59, wt_one]
    omega
theorem fit_of {l1 : List S59} {l2 : List S61} (h : m25 (0, l1, l2) ≤ 1048577) : Fit l1 l2 := by
  simp only [m25] at h
  have h1 := wt59_m l1
  have h2 := wt_len (m := m61) (fun x => by simp only [m61]; omega) l2
  refine ⟨by omega, by omega, fun x hx => ?_, fun x hx => ?_, fun x hx => ?_⟩
  · have := wt_mem (m := m59) l1 x hx
    simp only [m59] at this
    omega
  · have := wt_mem (m := m61) l2 x hx
    simp only [m61] at this
    omega
  · have := wt_mem (m := m61) l2 x hx
    simp only [m61] at this
    omega
end Go.Proofs.YtbeljekpknpadaaDoor.PuOpenN
