/- The disk's methods, walked: New, Steps, known. -/
import Derived.Test.YtomhgoahhlnjpaaGreatDoorDkA
import Derived.StringKeys
namespace Go.Proofs.YtomhgoahhlnjpaaGreatDoor.Dk
open Go.RowKit Go.Maps Go.ChangeMaps Go.WideAt Go.WideMaps Go.Proofs.YtomhgoahhlnjpaaGreatDoorW.PrintWords

def DS.new : DS := { D := .map [], fs := [], opn := [], steps := 0, plan := [], puts := 0 }
theorem law9 : Keyed Tryz.prog 9 := string_keyed Tryz.underlying9
theorem zero68 (w : World) : (zeroValue 79).run Tryz.prog w = .ok (.pointer none) w := by kernel_rfl

set_option maxHeartbeats 1000000 in
theorem new_calls (w : World) : Calls Tryz.prog 4 #[] w fun e w' => ∃ d mb, e = .returned (.pointer (some ⟨d, 0, none⟩)) ∧ Below w.heap.size w w' ∧ At (fun k => w.heap.size ≤ k ∧ k < w'.heap.size) w' d DS.new mb [] (.slice none 0 0) (.slice none 0 0) := by
  have hmm := @run_makeMap Tryz.prog
  go_enter Tryz.func4, Tryz.ntmps4
  go_wp2
  go_ret
  refine ⟨_, w.heap.size, rfl, ((Below.refl _ w).alloc (Nat.le_refl _) _).alloc (by simp) _, ?_⟩
  have hM : ((w.alloc (.map #[] 0)).alloc (.cells #[.map (some w.heap.size), .slice none 0 0, .int .i64 0, .slice none 0 0] 58 (0, 0))).ownsMap Tryz.prog 9 (rdF []) w.heap.size 0 (.map []) := (World.ownsMap_made w _ _ _).alloc _
  have hs : ((w.alloc (.map #[] 0)).alloc (.cells #[.map (some w.heap.size), .slice none 0 0, .int .i64 0, .slice none 0 0] 58 (0, 0))).heap.size = w.heap.size + 2 := by simp
  refine { blk := (by rw [show w.heap.size + 1 = (w.alloc (.map #[] 0)).heap.size by simp]; exact heap_alloc_new _ _), mp := hM, file := (fun i b f h => by simp at h), len := rfl, nodup := List.nodup_nil, opn := own_nil _ _ _ _, old := (fun c h => by cases h), plan := ⟨none, 0, rfl, Nat.le_refl _, fun i f h => by simp [DS.new] at h⟩, pblk := (fun k h => by cases h), ownd := ?_, ownm := ?_, ownf := (fun b h => by cases h), owno := (fun k h => by cases h), ownp := (fun k h => by cases h), bnd := fun k h => h.2 }
  · exact ⟨by omega, by rw [hs]; omega⟩
  · exact ⟨by omega, by rw [hs]; omega⟩

set_option maxHeartbeats 1000000 in
theorem steps_nil (w : World) : Calls Tryz.prog 21 #[.pointer none] w fun e w' => e = .returned (.int .i64 0) ∧ w' = w := by
  go_enter Tryz.func21, Tryz.ntmps21
  go_wp2
  go_ret
  exact ⟨rfl, rfl⟩
set_option maxHeartbeats 1000000 in
theorem steps_calls {own : Nat → Prop} {w : World} {d mb : Nat} {S : DS} {bs : List Nat} {vo vp : Value} (h : At own w d S mb bs vo vp) : Calls Tryz.prog 21 #[.pointer (some ⟨d, 0, none⟩)] w fun e w' => e = .returned (.int .i64 S.steps) ∧ w' = w := by
  obtain ⟨c0, c1, c2, c3⟩ := h.cells
  clear h
  go_enter Tryz.func21, Tryz.ntmps21
  go_wp2
  go_ret
  exact ⟨rfl, rfl⟩

/-- a look-up in the disk's map -/
theorem wpList_lookup_dk (w : World) {ops : Array Oper} {rest : List Oper} {o : Oper} {a : Act} {Q : Exit → Act → World → Prop}
    (hg : o.guard = none) (m x : Operand) (hop : o.op = Op.lookup 55 m x false) {own : Nat → Prop} {d mb : Nat} {S : DS} {bs : List Nat} {vo vp : Value} (h : At own w d S mb bs vo vp)
    (hm : a.eval m = .map (some mb)) (name : ByteArray) (hx : a.eval x = .string name) (hl : name.size ≤ maxLen) (v : Value) (hv : fileV bs (S.find name) = v)
    (hK : wpList Tryz.prog ops Q rest (a.put o.dst v) w) :
    wpList Tryz.prog ops Q (o :: rest) a w := by
  refine wpList_plain hg fun K' hK' => ?_
  obtain ⟨v1, ps, hrun, hv1⟩ := h.mp.lookup law9 Tryz.underlying55 (zero68 w) (rdF_nil bs) (keyOf_string_mk Tryz.underlying9 hl)
  obtain ⟨hv2, _, _⟩ := rdF_inv hv1
  obtain rfl : v1 = v := hv2.trans hv
  unfold Oper.wp
  simp [execOp, hop, hm, hx, hrun, Result.andThen]
  exact hK' _ _ hK

def DS.known (S : DS) (name : ByteArray) : Int := if name.toList.isEmpty = true then 1 else match S.find name with | none => 20 | some _ => 0

set_option maxHeartbeats 1000000 in
theorem known_nil (name : ByteArray) (w : World) : Calls Tryz.prog 26 #[.pointer none, .string name] w fun e w' => e = .returned (.int .i64 1) ∧ w' = w := by
  go_enter Tryz.func26, Tryz.ntmps26
  go_wp2
  go_ret
  exact ⟨rfl, rfl⟩
set_option maxHeartbeats 1000000 in
theorem known_calls {own : Nat → Prop} {w : World} {d mb : Nat} {S : DS} {bs : List Nat} {vo vp : Value} (h : At own w d S mb bs vo vp) (name : ByteArray) (hl : name.size ≤ maxLen) : Calls Tryz.prog 26 #[.pointer (some ⟨d, 0, none⟩), .string name] w fun e w' => e = .returned (.int .i64 (S.known name)) ∧ w' = w := by
  obtain ⟨c0, c1, c2, c3⟩ := h.cells
  have H := Aside0.mk h
  have HL := Aside0.mk hl
  clear h hl
  unfold DS.known
  cases hn : name.toList.isEmpty with
  | true =>
    go_enter Tryz.func26, Tryz.ntmps26
    go_wp2
    go_ret
    exact ⟨rfl, rfl⟩
  | false =>
    cases hf : S.find name with
    | none =>
      have hv : Aside0 (fileV bs (S.find name) = .pointer none) := ⟨by rw [hf]; rfl⟩
      clear hf
      go_enter Tryz.func26, Tryz.ntmps26
      go_wp2_with (first | (at_lookup; refine wpList_lookup_dk w rfl _ _ rfl H.out rfl name rfl HL.out _ hv.out ?_) | go_in)
      go_ret
      exact ⟨rfl, rfl⟩
    | some i =>
      have hv : Aside0 (fileV bs (S.find name) = .pointer (some ⟨bs.getD i 0, 0, none⟩)) := ⟨by rw [hf]; rfl⟩
      clear hf
      go_enter Tryz.func26, Tryz.ntmps26
      go_wp2_with (first | (at_lookup; refine wpList_lookup_dk w rfl _ _ rfl H.out rfl name rfl HL.out _ hv.out ?_) | go_in)
      go_ret
      exact ⟨rfl, rfl⟩

end Go.Proofs.YtomhgoahhlnjpaaGreatDoor.Dk
