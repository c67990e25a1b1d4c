/- errors.Is at the log's two errors; asked and code of package wal. -/
import Derived.Test.YtdnfflfofgeokaaDoorWnB
namespace Go.Proofs.YtdnfflfofgeokaaDoor.WalN
open Go.RowKit Go.Extern.Stop Go.Stop Go.Extern

def compF : Array Value → Sem Value := (ReflectliteType.method fun t => do Rtype.noPackHeld "Comparable" t; pure (.bool (← typeInfo t).comparable))
theorem isComparable149 (w : World) : (compF #[.agg #[.pointer (some ⟨2, 149, none⟩)]]).run Tryd.prog w = .ok (.bool true) w := by kernel_rfl
theorem isComp149 : (Tryd.prog.info? 149).map (·.comparable) = some true := by kernel_rfl
theorem isSize169 : (Tryd.prog.info? 169).map (·.size) = some 1 := by kernel_rfl
theorem noIs74 (v : Value) (xT : TypeId) (w : World) : (Instr.typeAssert (.iface 74 v) xT 110 true).run Tryd.prog w = .ok (.tuple #[.nilIface, .bool false]) w := run_typeAssert_lacksB Tryd.underlying110 (by kernel_rfl) (by kernel_rfl) v xT w
theorem noUnwrap74 (v : Value) (xT : TypeId) (w : World) : (Instr.typeAssert (.iface 74 v) xT 113 true).run Tryd.prog w = .ok (.tuple #[.nilIface, .bool false]) w := run_typeAssert_lacksB Tryd.underlying113 (by kernel_rfl) (by kernel_rfl) v xT w
theorem noUnwraps74 (v : Value) (xT : TypeId) (w : World) : (Instr.typeAssert (.iface 74 v) xT 115 true).run Tryd.prog w = .ok (.tuple #[.nilIface, .bool false]) w := run_typeAssert_lacksB Tryd.underlying115 (by kernel_rfl) (by kernel_rfl) v xT w

theorem is_fine (a : Addr) (w : World) :
    Calls Tryd.prog 27 #[.iface 149 (.pointer (some a)), .iface 149 (.pointer (some a))] w fun e w' => e = .returned (.bool true) ∧ w' = w := by
  obtain ⟨i, hi, hcmp⟩ := Option.map_eq_some_iff.1 isComp149
  obtain ⟨j, hj, hjs⟩ := Option.map_eq_some_iff.1 isSize169
  have h8 := @run_callFunc_extern Tryd.prog 36 _ Extern.ReflectliteType.typeOf Tryd.func36 (by kernel_rfl) (by kernel_rfl) (by kernel_rfl) (by kernel_rfl)
  have h32 := @run_callFunc_extern Tryd.prog 92 _ compF Tryd.func92 (by kernel_rfl) (by kernel_rfl) (by kernel_rfl) (by kernel_rfl)
  have tT := typeOf149
  have cT := isComparable149
  have mR := methodComparable
  have heq := run_eql_iface_ptr_same (P := Tryd.prog) w a Tryd.underlying44 Tryd.underlying149 hi hcmp hj
  go_enter Tryd.func27, Tryd.ntmps27
  go_wp2
  refine wp_loop_rounds 1 ?_
  rw [rounds_succ]
  go_wp2
  go_ret
  exact ⟨rfl, rfl⟩

theorem is_refused (c : Int) (v : Value) (w : World) :
    Calls Tryd.prog 27 #[.iface 74 (.agg #[.int .i64 c]), .iface 149 v] w fun e w' => e = .returned (.bool false) ∧ w' = w := by
  have h8 := @run_callFunc_extern Tryd.prog 36 _ Extern.ReflectliteType.typeOf Tryd.func36 (by kernel_rfl) (by kernel_rfl) (by kernel_rfl) (by kernel_rfl)
  have h32 := @run_callFunc_extern Tryd.prog 92 _ compF Tryd.func92 (by kernel_rfl) (by kernel_rfl) (by kernel_rfl) (by kernel_rfl)
  have tT := typeOf149
  have cT := isComparable149
  have mR := methodComparable
  have n1 := noIs74
  have n2 := noUnwrap74
  have n3 := noUnwraps74
  have hty := run_eql_iface_types (P := Tryd.prog) 74 149 (.agg #[.int .i64 c]) v Tryd.underlying44 (by decide) w
  go_enter Tryd.func27, Tryd.ntmps27
  go_wp2
  refine wp_loop_rounds 1 ?_
  rw [rounds_succ]
  go_wp2
  go_ret
  exact ⟨rfl, rfl⟩
end Go.Proofs.YtdnfflfofgeokaaDoor.WalN
