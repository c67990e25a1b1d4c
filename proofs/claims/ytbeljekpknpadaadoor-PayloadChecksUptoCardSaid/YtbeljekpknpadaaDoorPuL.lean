/- The law PayloadChecks, in plain Lean. -/
import Derived.Test.YtbeljekpknpadaaDoorPPayUx19
import Derived.Test.YtbeljekpknpadaaDoorPuG
import Derived.Test.YtbeljekpknpadaaDoorPuS
namespace Go.Proofs.YtbeljekpknpadaaDoor.PPayUL
open Go.RowKit Go.Proofs.YtbeljekpknpadaaDoor.PPayU Go.Proofs.YtbeljekpknpadaaDoorW.PrintWords Go.Proofs.YtbeljekpknpadaaDoorW.PrintLast Go.Proofs.YtbeljekpknpadaaDoorW.PrintMore
set_option linter.unusedVariables false
set_option linter.unusedSimpArgs false

theorem checks_plain (l : List S89) (m : List S93) (a0 : Int) (l1 : List S59) (l2 : List S61) (hs : FitS l m) (hf : Fit l1 l2) : ∃ k, lodestarlaw05_PayloadChecks.f k l m a0 l1 l2 = some true := by
  have h : Ev (fun k => lodestarlaw05_PayloadChecks.f k l m a0 l1 l2) true := by
    refine Ev.congr (fun k => by rw [lodestarlaw05_PayloadChecks.f]) ?_
    refine Ev.bind (copy_ev a0 l1 l2 hf) ?_
    refine Ev.bind (prog_schema l m hs) (Ev.bind (ref_schema l m hs) ?_)
    refine Ev.congr (fun k => by rw [if_pos rfl]) ?_
    refine Ev.bind (prog_check l m hs a0 l1 l2 hf) (Ev.bind (ref_check l m hs a0 l1 l2 hf) ?_)
    refine Ev.congr (fun k => by rw [if_pos rfl]) ?_
    refine Ev.bind (same_ev a0 l1 l2 hf) ?_
    refine Ev.congr (fun k => by rw [if_pos rfl]) ?_
    exact Ev.bind awake_ev (Ev.now _)
  exact h.rounds

end Go.Proofs.YtbeljekpknpadaaDoor.PPayUL
