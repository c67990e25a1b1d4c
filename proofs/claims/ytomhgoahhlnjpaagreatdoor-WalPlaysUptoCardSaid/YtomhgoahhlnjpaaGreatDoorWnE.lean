/- What the rows list, in memory: the log's error and the handle of 'error'; a world that has them. -/
import Derived.Test.YtomhgoahhlnjpaaGreatDoorRows
import Derived.Test.YtomhgoahhlnjpaaGreatDoorWnD
import Derived.Lib.LaidU8
import Derived.Lib.LaidIn
import Derived.LaidLaws
import Derived.LaidHandle
import Derived.ChangeArms
namespace Go.Proofs.YtomhgoahhlnjpaaGreatDoor.WalN
open Go.RowKit Go.ChangeShapes Go.WideShapes

theorem own : ownKnob Tryz.prog.godebug = none := by kernel_rfl
theorem laidOut : laidOutB Tryz.prog = true := by kernel_rfl
theorem g0 : Tryz.prog.globalNamed "lodestar/wal.errFine" = some 0 := by kernel_rfl
theorem g1 : Tryz.prog.globalNamed "errors.errorType" = some 1 := by kernel_rfl
theorem g0t : (Tryz.prog.globals[0]?).map (·.type) = some 91 := by kernel_rfl
theorem rt : (Tryz.prog.cutTypes.find? (·.1 == "internal/reflectlite.rtype")).map (·.2) = some 160 := by kernel_rfl
theorem oneRow : ((List.range 229).filter fun t => Tryz.prog.rowNamed t [101, 114, 114, 111, 114]) = [91] := by kernel_rfl
theorem types181 : Tryz.prog.types.size = 229 := by kernel_rfl

theorem star : "*" ++ "errors.errorString" = "*errors.errorString" := by decide
theorem row149 (u : TypeId) (h : Tryz.prog.typeName? 3 u = some "*errors.errorString") : u = 197 :=
  typeName_ptr_named (nm := "errors.errorString") (by rw [star]; kernel_rfl) (by kernel_rfl) (by decide) u (by rw [star]; exact h)
theorem gl_of_laid {W : World} (h : laidMetH Tryz.prog Rows.walPlaysRow.laid W) : ∃ p, Gl p W := by
  have h' : laidMet Tryz.prog [("lodestar/wal.errFine", Rows.laid_lodestar_wal_errFine)] W ∧ handlesMet Tryz.prog [("errors.errorType", Rows.laid_errors_errorType)] W := h
  have et : W.cell? ⟨1, 0, none⟩ = some (.iface 160 (.agg #[.pointer (some ⟨2, 91, none⟩)])) := by
    obtain ⟨name, u, ty, e1, e2, e3, e4, e5⟩ := h'.2 _ (List.mem_singleton.2 rfl)
    have en : name = [101, 114, 114, 111, 114] := (Option.some.inj e1).symm
    subst en
    obtain rfl := Option.some.inj (rt.symm.trans e2)
    have hm : ty ∈ (List.range 229).filter fun t => Tryz.prog.rowNamed t [101, 114, 114, 111, 114] := List.mem_filter.2 ⟨List.mem_range.2 (by rw [← types181]; exact e3), e4⟩
    rw [oneRow] at hm
    obtain rfl := List.mem_singleton.1 hm
    have hh : typeHandle Tryz.prog 91 = .pointer (some ⟨2, 91, none⟩) := by kernel_rfl
    rw [hh] at e5
    simpa using World.var?_cell g1 e5 0
  obtain ⟨g', t', cs, fuel, p, hg', ht', hvar, hd⟩ := Lib.laidMet.reads h'.1 (n := "lodestar/wal.errFine") (d := Rows.laid_lodestar_wal_errFine) (List.mem_singleton.2 rfl)
  obtain rfl := Option.some.inj (g0.symm.trans hg')
  obtain rfl := Option.some.inj (g0t.symm.trans ht')
  obtain ⟨f2, u, v, ecs, hname, hv⟩ := iface_of_trod Tryz.underlying91 hd
  have hu := row149 u hname
  subst hu
  refine ⟨v, ?_, et⟩
  have h0 := World.var?_cell g0 hvar 0
  rw [h0, ← Array.getElem?_toList, ecs]
  rfl

noncomputable def laidWorld (os : Os) : World :=
  let N := (World.settled Tryz.prog os).heap.size
  let w0 := World.holding Tryz.prog os ⟨#[.cells #[.string "fine".toUTF8] 217], #[], []⟩
  let put (h : Array Obj) (g : Nat) (cs : Array Value) : Array Obj := h.modify g fun
    | .cells _ t frozen => .cells cs t frozen
    | o => o
  let h1 := put w0.heap 0 #[.iface 197 (.pointer (some ⟨N, 0, none⟩))]
  let h2 := put h1 1 #[.iface 160 (.agg #[.pointer (some ⟨2, 91, none⟩)])]
  { w0 with heap := h2 }
theorem laidWorld_met (os : Os) (args : Array Value) : laidMetH Tryz.prog Rows.walPlaysRow.laid ((laidWorld os).forCall (fun _ _ => 0) ⟨#[], args, []⟩).memory := by
  refine laidMetH_of_parts ?_ (by kernel_rfl)
  have h1 : LaidIn Tryz.prog ((laidWorld os).forCall (fun _ _ => 0) ⟨#[], args, []⟩).memory [("lodestar/wal.errFine", Rows.laid_lodestar_wal_errFine)] [0, (World.settled Tryz.prog default).heap.size] :=
    LaidIn.of_run _ 10 (by kernel_rfl) (by kernel_rfl) (by kernel_rfl) (by kernel_rfl)
  exact h1.met
end Go.Proofs.YtomhgoahhlnjpaaGreatDoor.WalN
