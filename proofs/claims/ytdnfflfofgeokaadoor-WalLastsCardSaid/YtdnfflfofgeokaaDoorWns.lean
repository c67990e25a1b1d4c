/- Several texts in one. -/
import Derived.Test.YtdnfflfofgeokaaDoorPWalx
import Derived.Test.YtdnfflfofgeokaaDoorProg
import Derived.WalkKit
import Derived.LaidEql
import Derived.Stop.Asserts
import Derived.RowKitTokens
import Derived.Below
/- awake, by the kernel. -/
namespace Go.Proofs.YtdnfflfofgeokaaDoor.WalN
open Go.Proofs.YtdnfflfofgeokaaDoor.PWal
theorem awake_true : lodestarlaw09_awake.f 400 = some true := by kernel_rfl
end Go.Proofs.YtdnfflfofgeokaaDoor.WalN

/- errors.Is and errors.As at the log's two errors: the one that says 'fine', and what the disk refused. -/
namespace Go.Proofs.YtdnfflfofgeokaaDoor.WalN
open Go.RowKit Go.Extern.Stop Go.Stop Go.Extern

theorem valueOf77 (t : Addr) (w : World) : (ReflectliteValue.unpack (.iface 77 (.pointer (some t)))).run Tryd.prog w
    = .ok (.agg #[.pointer (some ⟨2, 77, none⟩), .pointer (some ⟨w.heap.size, 0, none⟩), .int .u64 150]) (w.alloc (.cells #[.pointer (some t)] 77)) := by kernel_rfl
theorem type77 (a : Addr) (w : World) : (ReflectliteValue.methodAny (ReflectliteValue.valueError "reflectlite.Value.Type" 0) (fun t _ _ _ => ReflectliteType.toType t) #[.agg #[.pointer (some ⟨2, 77, none⟩), .pointer (some a), .int .u64 150]]).run Tryd.prog w
    = .ok (.iface 108 (.agg #[.pointer (some ⟨2, 77, none⟩)])) w := by kernel_rfl
theorem kind77 (w : World) : ((ReflectliteType.abiMethod fun t => (fun a : Nat => Value.int IntKind.u8 (a : Int)) <$> Rtype.kind t) #[.pointer (some ⟨2, 77, none⟩)]).run Tryd.prog w = .ok (.int .u8 22) w := by kernel_rfl
theorem kind74 (w : World) : ((ReflectliteType.abiMethod fun t => (fun a : Nat => Value.int IntKind.u8 (a : Int)) <$> Rtype.kind t) #[.pointer (some ⟨2, 74, none⟩)]).run Tryd.prog w = .ok (.int .u8 25) w := by kernel_rfl
theorem rlm (z : Sem Value) (f : TypeId → Addr → Nat → Nat → Sem Value) (v : Value) :
    ReflectliteValue.method z f #[v] = (do match ← ReflectliteValue.parts v with | none => z | some (t, a, fl) => f t a fl (fl % 32)) := rfl
theorem parts77 (a : Addr) (w : World) : (ReflectliteValue.parts (.agg #[.pointer (some ⟨2, 77, none⟩), .pointer (some a), .int .u64 150])).run Tryd.prog w = .ok (some (77, a, 150)) w := by kernel_rfl
theorem isNil77 (a p : Addr) (W : World) (ha : W.cell? a = some (.pointer (some p))) :
    (ReflectliteValue.method (ReflectliteValue.valueError "reflectlite.Value.IsNil" 0) ReflectliteValue.isNil #[.agg #[.pointer (some ⟨2, 77, none⟩), .pointer (some a), .int .u64 150]]).run Tryd.prog W = .ok (.bool false) W := by
  rw [rlm]
  simp only [Sem.run_bind, parts77, Result.andThen]
  simp [ReflectliteValue.isNil, loadVar, isAgg, underlying, Tryd.underlying77, ha, Result.andThen]
theorem elem77 (w : World) : (ReflectliteType.method ReflectliteType.elem #[.agg #[.pointer (some ⟨2, 77, none⟩)]]).run Tryd.prog w = .ok (.iface 108 (.agg #[.pointer (some ⟨2, 74, none⟩)])) w := by kernel_rfl
theorem implements74 (w : World) : (ReflectliteType.relation "Implements" ReflectliteType.implements_ #[.agg #[.pointer (some ⟨2, 74, none⟩)], .iface 108 (.agg #[.pointer (some ⟨2, 44, none⟩)])]).run Tryd.prog w = .ok (.bool true) w := by kernel_rfl
theorem typeOf74 (v : Value) (w : World) : (ReflectliteType.typeOf #[.iface 74 v]).run Tryd.prog w = .ok (.iface 108 (.agg #[.pointer (some ⟨2, 74, none⟩)])) w := by kernel_rfl
theorem typeOf149 (v : Value) (w : World) : (ReflectliteType.typeOf #[.iface 149 v]).run Tryd.prog w = .ok (.iface 108 (.agg #[.pointer (some ⟨2, 149, none⟩)])) w := by kernel_rfl
theorem assignable74 (w : World) : (ReflectliteType.relation "AssignableTo" ReflectliteType.assignableTo #[.agg #[.pointer (some ⟨2, 74, none⟩)], .iface 108 (.agg #[.pointer (some ⟨2, 74, none⟩)])]).run Tryd.prog w = .ok (.bool true) w := by kernel_rfl
theorem valueOf74 (c : Int) (w : World) : (ReflectliteValue.unpack (.iface 74 (.agg #[.int .i64 c]))).run Tryd.prog w
    = .ok (.agg #[.pointer (some ⟨2, 74, none⟩), .pointer (some ⟨w.heap.size, 0, none⟩), .int .u64 153]) (w.alloc (.cells #[.int .i64 c] 74)) := by kernel_rfl
theorem elemOf77 (w : World) : (Rtype.elem? 77).run Tryd.prog w = .ok (some 74) w := by kernel_rfl
theorem mk74 (p : Addr) (w : World) : (ReflectliteValue.mk 74 p ReflectliteValue.flagAddr).run Tryd.prog w = .ok (.agg #[.pointer (some ⟨2, 74, none⟩), .pointer (some p), .int .u64 409]) w := by kernel_rfl
theorem elemV77 (a p : Addr) (W : World) (ha : W.cell? a = some (.pointer (some p))) :
    (ReflectliteValue.method (ReflectliteValue.valueError "reflectlite.Value.Elem" 0) ReflectliteValue.elem #[.agg #[.pointer (some ⟨2, 77, none⟩), .pointer (some a), .int .u64 150]]).run Tryd.prog W
      = .ok (.agg #[.pointer (some ⟨2, 74, none⟩), .pointer (some p), .int .u64 409]) W := by
  rw [rlm]
  simp only [Sem.run_bind, parts77, Result.andThen]
  simp [ReflectliteValue.elem, loadVar, isAgg, underlying, Tryd.underlying77, ha, Result.andThen, elemOf77, mk74]
theorem rls (v x : Value) : ReflectliteValue.set #[v, x] = (do
    let (some (dst, a, fl), some (src, b, _)) := (← ReflectliteValue.parts v, ← ReflectliteValue.parts x)
      | unsupported (.noEntry "extern/(internal/reflectlite.Value).Set.zeroValue")
    if fl / ReflectliteValue.flagAddr % 2 == 0 then unsupported (.noEntry "extern/(internal/reflectlite.Value).Set.unaddressable")
    let val ← loadVar src b
    if ← Rtype.directlyAssignable dst src then storeVar dst a val
    else if ← Rtype.implements dst src then
      if (← Rtype.kind src) == 20 then
        match val with
        | .nilIface => unsupported (.noEntry "extern/reflectlite: a nil value of one interface type handed on as a value of another")
        | _ => storeVar dst a val
      else storeVar dst a (.iface src val)
    else panicString ("reflectlite.Set: value of type " ++ (← Rtype.spelt src) ++ " is not assignable to type " ++ (← Rtype.spelt dst))
    pure (.tuple #[])) := rfl
theorem parts74a (a : Addr) (w : World) : (ReflectliteValue.parts (.agg #[.pointer (some ⟨2, 74, none⟩), .pointer (some a), .int .u64 409])).run Tryd.prog w = .ok (some (74, a, 409)) w := by kernel_rfl
theorem parts74 (a : Addr) (w : World) : (ReflectliteValue.parts (.agg #[.pointer (some ⟨2, 74, none⟩), .pointer (some a), .int .u64 153])).run Tryd.prog w = .ok (some (74, a, 153)) w := by kernel_rfl
theorem direct74 (w : World) : (Rtype.directlyAssignable 74 74).run Tryd.prog w = .ok true w := by kernel_rfl
theorem size74 (w : World) : (sizeOf 74).run Tryd.prog w = .ok 1 w := by kernel_rfl
/-- (Value).Set: the variable at 'ta' gets what the Value's own variable 'b' holds. -/
theorem set74 (ta b : Addr) (c : Int) (old : Value) (W : World) (hb : W.cell? b = some (.int .i64 c)) (ht : W.cell? ta = some old) (hf : W.frozen? ta = false) :
    (ReflectliteValue.set #[.agg #[.pointer (some ⟨2, 74, none⟩), .pointer (some ta), .int .u64 409], .agg #[.pointer (some ⟨2, 74, none⟩), .pointer (some b), .int .u64 153]]).run Tryd.prog W
      = .ok (.tuple #[]) (W.setCell ta (.int .i64 c)) := by
  rw [rls]
  simp only [Sem.run_bind, parts74a, parts74, Result.andThen]
  simp [ReflectliteValue.flagAddr, loadVar, isAgg, underlying, Tryd.underlying74, hb, Result.andThen, direct74, storeVar, Value.cells, storeCells, loadCells, loadCellsFrom, Addr.add]
  rw [run_store Tryd.prog W ta _ _ (by rfl)]
  simp [ht, hf]
end Go.Proofs.YtdnfflfofgeokaaDoor.WalN

/- errors.As at what the disk refused. -/
namespace Go.Proofs.YtdnfflfofgeokaaDoor.WalN
open Go.RowKit Go.Extern.Stop Go.Stop Go.Extern

theorem methodKind (h : Value) (w : World) : (Go.method 281 108 (.agg #[h]) "Kind").run Tryd.prog w = .ok (82, h) w := by kernel_rfl
theorem methodElem (h : Value) (w : World) : (Go.method 281 108 (.agg #[h]) "Elem").run Tryd.prog w = .ok (93, .agg #[h]) w := by kernel_rfl
theorem methodImplements (h : Value) (w : World) : (Go.method 281 108 (.agg #[h]) "Implements").run Tryd.prog w = .ok (94, .agg #[h]) w := by kernel_rfl
theorem methodAssignableTo (h : Value) (w : World) : (Go.method 281 108 (.agg #[h]) "AssignableTo").run Tryd.prog w = .ok (91, .agg #[h]) w := by kernel_rfl
theorem methodComparable (h : Value) (w : World) : (Go.method 281 108 (.agg #[h]) "Comparable").run Tryd.prog w = .ok (92, .agg #[h]) w := by kernel_rfl

def V77 (n : Nat) : Value := .agg #[.pointer (some ⟨2, 77, none⟩), .pointer (some ⟨n, 0, none⟩), .int .u64 150]
set_option maxHeartbeats 4000000 in
theorem as_hit (c : Int) (t : Addr) (old : Value) (w : World) (hg : w.cell? ⟨1, 0, none⟩ = some (.iface 108 (.agg #[.pointer (some ⟨2, 44, none⟩)]))) (ht0 : w.cell? t = some old) (hf0 : w.frozen? t = false) :
    Calls Tryd.prog 28 #[.iface 74 (.agg #[.int .i64 c]), .iface 77 (.pointer (some t))] w fun ev w' => ev = .returned (.bool true) ∧ w' = ((((w.alloc (.cells #[.pointer (some t)] 77)).alloc (.cells #[.pointer (some ⟨2, 77, none⟩), .pointer (some ⟨w.heap.size, 0, none⟩), .int .u64 150] 94)).alloc (.cells #[.pointer (some ⟨2, 77, none⟩), .pointer (some ⟨w.heap.size, 0, none⟩), .int .u64 150] 94)).alloc (.cells #[.int .i64 c] 74)).setCell t (.int .i64 c) := by
  have h6 := @run_callFunc_extern Tryd.prog 38 _ (fun args => ReflectliteValue.unpack (args.getD 0 (.tuple #[]))) Tryd.func38 (by kernel_rfl) (by kernel_rfl) (by kernel_rfl) (by kernel_rfl)
  have h7 := @run_callFunc_extern Tryd.prog 39 _ (ReflectliteValue.methodAny (ReflectliteValue.valueError "reflectlite.Value.Type" 0) (fun t _ _ _ => ReflectliteType.toType t)) Tryd.func39 (by kernel_rfl) (by kernel_rfl) (by kernel_rfl) (by kernel_rfl)
  have h8 := @run_callFunc_extern Tryd.prog 40 _ (ReflectliteValue.method (ReflectliteValue.valueError "reflectlite.Value.IsNil" 0) ReflectliteValue.isNil) Tryd.func40 (by kernel_rfl) (by kernel_rfl) (by kernel_rfl) (by kernel_rfl)
  have h27 := @run_callFunc_extern Tryd.prog 82 _ (ReflectliteType.abiMethod fun t => do pure (.int .u8 (← Rtype.kind t))) Tryd.func82 (by kernel_rfl) (by kernel_rfl) (by kernel_rfl) (by kernel_rfl)
  have h37 := @run_callFunc_extern Tryd.prog 93 _ (ReflectliteType.method ReflectliteType.elem) Tryd.func93 (by kernel_rfl) (by kernel_rfl) (by kernel_rfl) (by kernel_rfl)
  have h38 := @run_callFunc_extern Tryd.prog 94 _ (ReflectliteType.relation "Implements" ReflectliteType.implements_) Tryd.func94 (by kernel_rfl) (by kernel_rfl) (by kernel_rfl) (by kernel_rfl)
  have h10 := @run_callFunc_extern Tryd.prog 36 _ ReflectliteType.typeOf Tryd.func36 (by kernel_rfl) (by kernel_rfl) (by kernel_rfl) (by kernel_rfl)
  have h35 := @run_callFunc_extern Tryd.prog 91 _ (ReflectliteType.relation "AssignableTo" ReflectliteType.assignableTo) Tryd.func91 (by kernel_rfl) (by kernel_rfl) (by kernel_rfl) (by kernel_rfl)
  have h11 := @run_callFunc_extern Tryd.prog 46 _ (ReflectliteValue.method (ReflectliteValue.valueError "reflectlite.Value.Elem" 0) ReflectliteValue.elem) Tryd.func46 (by kernel_rfl) (by kernel_rfl) (by kernel_rfl) (by kernel_rfl)
  have h12 := @run_callFunc_extern Tryd.prog 47 _ ReflectliteValue.set Tryd.func47 (by kernel_rfl) (by kernel_rfl) (by kernel_rfl) (by kernel_rfl)
  have tO := typeOf74
  have mA := methodAssignableTo
  have a25 := assignable74
  have v25 := valueOf74
  have f6 := valueOf77
  have f7 := type77
  have mK := methodKind
  have mE := methodElem
  have mI := methodImplements
  have k27 := kind77
  have k25 := kind74
  have e27 := elem77
  have i25 := implements74
  have n8 := isNil77 ⟨w.heap.size, 0, none⟩ t ((w.alloc (.cells #[.pointer (some t)] 77)).alloc (.cells #[.pointer (some ⟨2, 77, none⟩), .pointer (some ⟨w.heap.size, 0, none⟩), .int .u64 150] 94)) (by simp)
  have hlt : 1 < w.heap.size := World.block_lt_of_cell? w _ hg
  have hg2 : ((w.alloc (.cells #[.pointer (some t)] 77)).alloc (.cells #[.pointer (some ⟨2, 77, none⟩), .pointer (some ⟨w.heap.size, 0, none⟩), .int .u64 150] 94)).cell? ⟨1, 0, none⟩ = some (.iface 108 (.agg #[.pointer (some ⟨2, 44, none⟩)])) := by
    rw [World.cell?_alloc_lt _ _ ⟨1, 0, none⟩ (by simp; omega), World.cell?_alloc_lt _ _ ⟨1, 0, none⟩ hlt]; exact hg
  have htl : t.block < w.heap.size := World.block_lt_of_cell? w _ ht0
  have el := elemV77 ⟨w.heap.size, 0, none⟩ t (((w.alloc (.cells #[.pointer (some t)] 77)).alloc (.cells #[.pointer (some ⟨2, 77, none⟩), .pointer (some ⟨w.heap.size, 0, none⟩), .int .u64 150] 94)).alloc (.cells #[.pointer (some ⟨2, 77, none⟩), .pointer (some ⟨w.heap.size, 0, none⟩), .int .u64 150] 94)) (by rw [World.cell?_alloc_lt _ _ ⟨w.heap.size, 0, none⟩ (by simp; omega)]; simp)
  have st := set74 t ⟨w.heap.size + 1 + 1 + 1, 0, none⟩ c old ((((w.alloc (.cells #[.pointer (some t)] 77)).alloc (.cells #[.pointer (some ⟨2, 77, none⟩), .pointer (some ⟨w.heap.size, 0, none⟩), .int .u64 150] 94)).alloc (.cells #[.pointer (some ⟨2, 77, none⟩), .pointer (some ⟨w.heap.size, 0, none⟩), .int .u64 150] 94)).alloc (.cells #[.int .i64 c] 74))
    (by rw [World.cell?_alloc_at _ _ _ _ (by simp)]; rfl)
    (by rw [World.cell?_alloc_lt _ _ t (by simp; omega), World.cell?_alloc_lt _ _ t (by simp; omega), World.cell?_alloc_lt _ _ t (by simp; omega), World.cell?_alloc_lt _ _ t htl]; exact ht0)
    (by rw [World.frozen?_alloc_old _ _ t (by simp; omega), World.frozen?_alloc_old _ _ t (by simp; omega), World.frozen?_alloc_old _ _ t (by simp; omega), World.frozen?_alloc_old _ _ t (Nat.ne_of_lt htl)]; exact hf0)
  go_enter Tryd.func28, Tryd.ntmps28
  go_wp2
  refine wp_loop_rounds 1 ?_
  rw [rounds_succ]
  go_wp2
  go_ret
  exact ⟨rfl, rfl⟩
end Go.Proofs.YtdnfflfofgeokaaDoor.WalN

/- errors.Is at the log's two errors; asked and code of package wal. -/
namespace Go.Proofs.YtdnfflfofgeokaaDoor.WalN
open Go.RowKit Go.Extern.Stop Go.Stop Go.Extern

def compF : Array Value → Sem Value := (ReflectliteType.method fun t => do Rtype.noPackHeld "Comparable" t; pure (.bool (← typeInfo t).comparable))
theorem isComparable149 (w : World) : (compF #[.agg #[.pointer (some ⟨2, 149, none⟩)]]).run Tryd.prog w = .ok (.bool true) w := by kernel_rfl
theorem isComp149 : (Tryd.prog.info? 149).map (·.comparable) = some true := by kernel_rfl
theorem isSize169 : (Tryd.prog.info? 169).map (·.size) = some 1 := by kernel_rfl
theorem noIs74 (v : Value) (xT : TypeId) (w : World) : (Instr.typeAssert (.iface 74 v) xT 110 true).run Tryd.prog w = .ok (.tuple #[.nilIface, .bool false]) w := run_typeAssert_lacksB Tryd.underlying110 (by kernel_rfl) (by kernel_rfl) v xT w
theorem noUnwrap74 (v : Value) (xT : TypeId) (w : World) : (Instr.typeAssert (.iface 74 v) xT 113 true).run Tryd.prog w = .ok (.tuple #[.nilIface, .bool false]) w := run_typeAssert_lacksB Tryd.underlying113 (by kernel_rfl) (by kernel_rfl) v xT w
theorem noUnwraps74 (v : Value) (xT : TypeId) (w : World) : (Instr.typeAssert (.iface 74 v) xT 115 true).run Tryd.prog w = .ok (.tuple #[.nilIface, .bool false]) w := run_typeAssert_lacksB Tryd.underlying115 (by kernel_rfl) (by kernel_rfl) v xT w

theorem is_fine (a : Addr) (w : World) :
    Calls Tryd.prog 27 #[.iface 149 (.pointer (some a)), .iface 149 (.pointer (some a))] w fun e w' => e = .returned (.bool true) ∧ w' = w := by
  obtain ⟨i, hi, hcmp⟩ := Option.map_eq_some_iff.1 isComp149
  obtain ⟨j, hj, hjs⟩ := Option.map_eq_some_iff.1 isSize169
  have h8 := @run_callFunc_extern Tryd.prog 36 _ Extern.ReflectliteType.typeOf Tryd.func36 (by kernel_rfl) (by kernel_rfl) (by kernel_rfl) (by kernel_rfl)
  have h32 := @run_callFunc_extern Tryd.prog 92 _ compF Tryd.func92 (by kernel_rfl) (by kernel_rfl) (by kernel_rfl) (by kernel_rfl)
  have tT := typeOf149
  have cT := isComparable149
  have mR := methodComparable
  have heq := run_eql_iface_ptr_same (P := Tryd.prog) w a Tryd.underlying44 Tryd.underlying149 hi hcmp hj
  go_enter Tryd.func27, Tryd.ntmps27
  go_wp2
  refine wp_loop_rounds 1 ?_
  rw [rounds_succ]
  go_wp2
  go_ret
  exact ⟨rfl, rfl⟩

theorem is_refused (c : Int) (v : Value) (w : World) :
    Calls Tryd.prog 27 #[.iface 74 (.agg #[.int .i64 c]), .iface 149 v] w fun e w' => e = .returned (.bool false) ∧ w' = w := by
  have h8 := @run_callFunc_extern Tryd.prog 36 _ Extern.ReflectliteType.typeOf Tryd.func36 (by kernel_rfl) (by kernel_rfl) (by kernel_rfl) (by kernel_rfl)
  have h32 := @run_callFunc_extern Tryd.prog 92 _ compF Tryd.func92 (by kernel_rfl) (by kernel_rfl) (by kernel_rfl) (by kernel_rfl)
  have tT := typeOf149
  have cT := isComparable149
  have mR := methodComparable
  have n1 := noIs74
  have n2 := noUnwrap74
  have n3 := noUnwraps74
  have hty := run_eql_iface_types (P := Tryd.prog) 74 149 (.agg #[.int .i64 c]) v Tryd.underlying44 (by decide) w
  go_enter Tryd.func27, Tryd.ntmps27
  go_wp2
  refine wp_loop_rounds 1 ?_
  rw [rounds_succ]
  go_wp2
  go_ret
  exact ⟨rfl, rfl⟩
end Go.Proofs.YtdnfflfofgeokaaDoor.WalN

/- asked, code, Open at no disk and at no name, and the methods of no log. -/
namespace Go.Proofs.YtdnfflfofgeokaaDoor.WalN
open Go.RowKit Go.Extern.Stop Go.Stop Go.Extern Go.Proofs.YtdnfflfofgeokaaDoorW.PrintWords

/-- what the two variables hold -/
structure Gl (p : Value) (w : World) : Prop where
  fine : w.cell? ⟨0, 0, none⟩ = some (.iface 149 p)
  et : w.cell? ⟨1, 0, none⟩ = some (.iface 108 (.agg #[.pointer (some ⟨2, 44, none⟩)]))
theorem Gl.lt {p : Value} {w : World} (h : Gl p w) : 1 < w.heap.size := World.block_lt_of_cell? w _ h.et
theorem Gl.below {p : Value} {w w' : World} (h : Gl p w) (hb : Below w.heap.size w w') : Gl p w' :=
  ⟨(hb.cell (p := ⟨0, 0, none⟩) (Nat.lt_trans Nat.zero_lt_one h.lt)).trans h.fine, (hb.cell (p := ⟨1, 0, none⟩) h.lt).trans h.et⟩

theorem asked_ok {p : Value} {w : World} (h : Gl p w) : Calls Tryd.prog 17 #[.int .i64 0] w fun e w' => e = .returned (.iface 149 p) ∧ w' = w := by
  have h0 := h.fine
  go_enter Tryd.func17, Tryd.ntmps17
  go_wp2
  go_ret
  exact ⟨rfl, rfl⟩
theorem asked_no {c : Int} (hc : c ≠ 0) (w : World) : Calls Tryd.prog 17 #[.int .i64 c] w fun e w' => e = .returned (.iface 74 (.agg #[.int .i64 c])) ∧ w' = w := by
  have hz : (c == 0) = false := by simpa using hc
  go_enter Tryd.func17, Tryd.ntmps17
  go_wp2
  go_ret
  exact ⟨rfl, rfl⟩

theorem code_fine {p : Addr} {w : World} (h : Gl (.pointer (some p)) w) : Calls Tryd.prog 15 #[.iface 149 (.pointer (some p))] w fun e w' => e = .returned (.int .i64 0) ∧ Below w.heap.size w w' := by
  have h0 := (h.below ((Below.refl w.heap.size w).alloc (Nat.le_refl _) (.cells #[.int .i64 0] 74))).fine
  go_enter Tryd.func15, Tryd.ntmps15
  go_wp2_with (first | (go_at_call 27; (with_reducible refine (is_fine p _).mono ?_); rintro e w1 ⟨rfl, rfl⟩) | go_in)
  go_ret
  exact ⟨rfl, (Below.refl w.heap.size w).alloc (Nat.le_refl _) (.cells #[.int .i64 0] 74)⟩
theorem as_hit_below (c : Int) {b : Nat} {w1 : World} {p : Value} (hG : Gl p w1) (hb : w1.heap[b]? = some (.cells #[.int .i64 0] 74 (0, 0))) :
    Calls Tryd.prog 28 #[.iface 74 (.agg #[.int .i64 c]), .iface 77 (.pointer (some ⟨b, 0, none⟩))] w1 fun ev w' => ev = .returned (.bool true) ∧ Below b w1 w' ∧ w'.heap[b]? = some (.cells #[.int .i64 c] 74 (0, 0)) := by
  refine (as_hit c ⟨b, 0, none⟩ (.int .i64 0) w1 hG.et (blk_cell hb 0) (blk_frozen hb 0)).mono ?_
  rintro ev w' ⟨he, hw⟩
  have hlt := blk_lt hb
  have h1 := (((((Below.refl w1.heap.size w1).alloc (Nat.le_refl _) (.cells #[.pointer (some ⟨b, 0, none⟩)] 77)).alloc (by simp) (.cells #[.pointer (some ⟨2, 77, none⟩), .pointer (some ⟨w1.heap.size, 0, none⟩), .int .u64 150] 94)).alloc (by simp; omega) (.cells #[.pointer (some ⟨2, 77, none⟩), .pointer (some ⟨w1.heap.size, 0, none⟩), .int .u64 150] 94)).alloc (by simp; omega) (.cells #[.int .i64 c] 74))
  refine ⟨he, ?_, ?_⟩
  · rw [hw]
    exact (h1.mono (Nat.le_of_lt hlt)).setCell (Nat.le_refl _) _
  · rw [hw]
    exact blk_put ((h1.block b hlt).trans hb) 0 _ rfl
set_option maxHeartbeats 1000000 in
theorem code_refused {p : Value} {w : World} (h : Gl p w) (c : Int) : Calls Tryd.prog 15 #[.iface 74 (.agg #[.int .i64 c])] w fun e w' => e = .returned (.int .i64 c) ∧ Below w.heap.size w w' := by
  have hB := (Below.refl w.heap.size w).alloc (Nat.le_refl _) (.cells #[.int .i64 0] 74)
  have hG := h.below hB
  have h0 := hG.fine
  have HG := Aside0.mk hG
  have HB := Aside0.mk hB
  clear hG hB
  go_enter Tryd.func15, Tryd.ntmps15
  go_wp2_with (first
    | (go_at_call 27; (with_reducible refine (is_refused c p _).mono ?_); rintro e w1 ⟨rfl, rfl⟩)
    | (go_at_call 28; (with_reducible refine (as_hit_below c HG.out (heap_alloc_new w _)).mono ?_); rintro e w2 ⟨rfl, hb2, hx⟩; have x0 := blk_cell hx 0; have HB2 := Aside0.mk hb2; clear hb2 hx)
    | go_in)
  go_ret
  exact ⟨rfl, HB.out.trans HB2.out⟩

/-! ### no disk, no name, no log -/
theorem known_empty (d : Addr) (w : World) : Calls Tryd.prog 30 #[.pointer (some d), .string ⟨#[]⟩] w fun e w' => e = .returned (.int .i64 1) ∧ w' = w := by
  go_enter Tryd.func30, Tryd.ntmps30
  go_wp2
  go_ret
  exact ⟨rfl, rfl⟩
theorem read_empty (d : Addr) (w : World) : Calls Tryd.prog 25 #[.pointer (some d), .string ⟨#[]⟩] w fun e w' => e = .returned (.tuple #[.string ⟨#[]⟩, .int .i64 1]) ∧ w' = w := by
  go_enter Tryd.func25, Tryd.ntmps25
  go_wp2_with (first | (go_at_call 30; (with_reducible refine (known_empty d _).mono ?_); rintro e w1 ⟨rfl, rfl⟩) | go_in)
  go_ret2
  exact ⟨rfl, rfl⟩
theorem begun_empty (d : Addr) (w : World) : Calls Tryd.prog 14 #[.pointer (some d), .string ⟨#[]⟩] w fun e w' => e = .returned (.tuple #[.string ⟨#[]⟩, .iface 74 (.agg #[.int .i64 1])]) ∧ w' = w := by
  go_enter Tryd.func14, Tryd.ntmps14
  go_wp2_with (first
    | (go_at_call 25; (with_reducible refine (read_empty d _).mono ?_); rintro e w1 ⟨rfl, rfl⟩)
    | (go_at_call 17; (with_reducible refine (asked_no (by decide) _).mono ?_); rintro e w1 ⟨rfl, rfl⟩)
    | go_in)
  go_ret2
  exact ⟨rfl, rfl⟩
theorem open_nil (n : ByteArray) (w : World) : Calls Tryd.prog 5 #[.pointer none, .string n] w fun e w' => e = .returned (.tuple #[.pointer none, .slice none 0 0, .int .i64 1]) ∧ w' = w := by
  go_enter Tryd.func5, Tryd.ntmps5
  go_wp2
  go_ret3
  exact ⟨rfl, rfl⟩
theorem open_empty {p : Value} {w : World} (h : Gl p w) (d : Addr) : Calls Tryd.prog 5 #[.pointer (some d), .string ⟨#[]⟩] w fun e w' => e = .returned (.tuple #[.pointer none, .slice none 0 0, .int .i64 1]) ∧ Below w.heap.size w w' := by
  have HG := Aside0.mk h
  clear h
  go_enter Tryd.func5, Tryd.ntmps5
  go_wp2_with (first
    | (go_at_call 14; (with_reducible refine (begun_empty d _).mono ?_); rintro e w1 ⟨rfl, rfl⟩)
    | (go_at_call 15; (with_reducible refine (code_refused HG.out 1).mono ?_); rintro e w2 ⟨rfl, hb⟩; have HB := Aside0.mk hb; clear hb)
    | go_in)
  go_ret3
  exact ⟨rfl, HB.out⟩
theorem new_any (w : World) : Calls Tryd.prog 6 #[] w fun e w' => ∃ d, e = .returned (.pointer (some d)) ∧ Below w.heap.size w w' := by
  have hmm := @run_makeMap Tryd.prog
  go_enter Tryd.func6, Tryd.ntmps6
  go_wp2
  go_ret
  exact ⟨_, rfl, ((Below.refl _ w).alloc (Nat.le_refl _) _).alloc (by simp) _⟩
theorem append_nil (s : Int) (b : ByteArray) (w : World) : Calls Tryd.prog 7 #[.pointer none, .agg #[.int .i64 s, .string b]] w fun e w' => e = .returned (.int .i64 1) ∧ Below w.heap.size w w' := by
  go_enter Tryd.func7, Tryd.ntmps7
  go_wp2
  go_ret
  exact ⟨rfl, (Below.refl _ _).alloc (Nat.le_refl _) _⟩
theorem sync_nil (w : World) : Calls Tryd.prog 8 #[.pointer none] w fun e w' => e = .returned (.int .i64 1) ∧ w' = w := by
  go_enter Tryd.func8, Tryd.ntmps8
  go_wp2
  go_ret
  exact ⟨rfl, rfl⟩
theorem size_nil (w : World) : Calls Tryd.prog 9 #[.pointer none] w fun e w' => e = .returned (.int .i64 0) ∧ w' = w := by
  go_enter Tryd.func9, Tryd.ntmps9
  go_wp2
  go_ret
  exact ⟨rfl, rfl⟩
theorem broken_nil (w : World) : Calls Tryd.prog 10 #[.pointer none] w fun e w' => e = .returned (.bool true) ∧ w' = w := by
  go_enter Tryd.func10, Tryd.ntmps10
  go_wp2
  go_ret
  exact ⟨rfl, rfl⟩
theorem awake_calls (w : World) : Calls Tryd.prog 11 #[] w fun e w' => e = .returned (.bool true) ∧ Below w.heap.size w w' := PWal.lodestarlaw09_awake.calls 400 w awake_true

set_option maxRecDepth 100000 in
set_option maxHeartbeats 4000000 in
theorem none_calls {p : Value} {w : World} (h : Gl p w) (s : Int) (b : ByteArray) : Calls Tryd.prog 3 #[.agg #[.int .i64 s, .string b]] w fun e w' => e = .returned (.bool true) ∧ Below w.heap.size w w' := by
  have HG := Aside0.mk h
  have HC := Aside0.mk (heap_alloc_new w (.cells #[.int .i64 s, .string b] 23))
  have HB0 := Aside0.mk ((Below.refl w.heap.size w).alloc (Nat.le_refl _) (.cells #[.int .i64 s, .string b] 23))
  clear h
  go_enter Tryd.func3, Tryd.ntmps3
  go_wp2_with (first
    | (go_at_call 5; (with_reducible refine (open_nil ⟨#[120]⟩ _).mono ?_); rintro e wx ⟨rfl, rfl⟩)
    | (go_at_call 6; (with_reducible refine (new_any _).mono ?_); rintro e w1 ⟨d, rfl, hb⟩; have HB1 := Aside0.mk (HB0.out.trans (hb.mono HB0.out.size)); have HC1 := Aside0.mk ((hb.block _ (blk_lt HC.out)).trans HC.out); clear hb)
    | (go_at_call 5; (with_reducible refine (open_empty (HG.out.below HB1.out) d).mono ?_); rintro e w2 ⟨rfl, hb⟩; have HB2 := Aside0.mk (HB1.out.trans (hb.mono HB1.out.size)); have hc2 := (hb.block _ (blk_lt HC1.out)).trans HC1.out; have x0 := blk_cell hc2 0; have x1 := blk_cell hc2 1; clear hb hc2)
    | (go_at_call 7; (with_reducible refine (append_nil s b _).mono ?_); rintro e w3 ⟨rfl, hb⟩; have HB3 := Aside0.mk (HB2.out.trans (hb.mono HB2.out.size)); clear hb)
    | (go_at_call 8; (with_reducible refine (sync_nil _).mono ?_); rintro e wx ⟨rfl, rfl⟩)
    | (go_at_call 9; (with_reducible refine (size_nil _).mono ?_); rintro e wx ⟨rfl, rfl⟩)
    | (go_at_call 10; (with_reducible refine (broken_nil _).mono ?_); rintro e wx ⟨rfl, rfl⟩)
    | (go_at_call 11; (with_reducible refine (awake_calls _).mono ?_); rintro e wA ⟨rfl, hb⟩; have HF := Aside0.mk (HB3.out.trans (hb.mono HB3.out.size)); clear hb)
    | go_in)
  go_ret
  exact ⟨rfl, HF.out⟩
end Go.Proofs.YtdnfflfofgeokaaDoor.WalN
