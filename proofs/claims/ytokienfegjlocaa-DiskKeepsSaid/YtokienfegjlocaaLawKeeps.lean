/- Proved: the statement 'DiskKeepsSaid', that is, DiskKeeps answers true for every input, and the input reads as it did. Conditions: none beyond the given row. -/
import Derived.Test.YtokienfegjlocaaRows
import Derived.Test.YtokienfegjlocaaOpen
import Derived.Test.YtokienfegjlocaaDkU
import Derived.WalkKit
import Derived.ProofKit
import Derived.OpenShut
import Derived.ShutString
import Derived.ChangeOld
import Derived.Below
import Derived.SizedLaws
namespace Go.Proofs.Ytokienfegjlocaa.diskKeeps
open Go.ChangeShapes Go.WideShapes Go.ChangeAt Go.RowKit Go.Proofs.Ytokienfegjlocaa.Opens Go.Proofs.YtokienfegjlocaaW.PrintWords Go.Proofs.Ytokienfegjlocaa.Dk

theorem own : ownKnob Try.prog.godebug = none := by kernel_rfl
theorem laidOut : laidOutB Try.prog = true := by kernel_rfl

def kCrash : Kd (Int × List Int) := Kd.iso (Kd.pair (Kd.int .i64) (Kd.slice 3 (Kd.int .i64))) id
theorem opn25 : Opn Try.prog 25 kCrash (fun _ => 0) (fun _ => True) :=
  (opn_struct (fs := [_, _]) (f := id) Try.underlying25 (opnF_cons (opn_int Try.underlying3) (by kernel_rfl) (opnF_one (opn_slice Try.underlying23 (opn_int Try.underlying3) (by kernel_rfl)) (by kernel_rfl))) ⟨by kernel_rfl, by kernel_rfl, trivial⟩ (by kernel_rfl) (fun y => ⟨y, rfl⟩)).weak (fun _ => Nat.zero_le _) (fun _ _ => trivial)
theorem okWide_pair {P : Program} {w : World} {r : Reach} {base : Nat} {t e : TypeId} {n : Nat} {v : Value} (ht : P.underlying t = some (.array n e)) (h : Value.okWide P w r base t v) : ∃ cs, v = .agg cs ∧ cs.size = P.cellsOf t := by
  unfold Value.okWide at h
  rw [ht] at h
  obtain ⟨cs, h1, h2, _⟩ := h
  exact ⟨cs, h1, h2⟩
theorem spot_none {w : World} {a : Addr} {u : Value} (h : w.cell? a = some u) : a = ⟨a.block, a.off, none⟩ := by
  obtain ⟨b, o, s⟩ := a
  cases s with
  | none => rfl
  | some k =>
    unfold World.cell? at h
    split at h
    · simp at h
    · cases h
theorem kCrash_open {w : World} {x : Int × List Int} {cs : List Value} (h : kCrash.K w x cs) : ∃ A c, cs = [.int .i64 x.1, .slice A x.2.length c] ∧ IntsAt w (.slice A x.2.length c) x.2 := by
  obtain ⟨n, l⟩ := x
  obtain ⟨_, _, rfl, rfl, ⟨A, c, rfl, _, hC⟩⟩ := h
  refine ⟨A, c, rfl, A, c, rfl, fun i y hy => ?_⟩
  have hlt : i < l.length := (List.getElem?_eq_some_iff.1 hy).1
  have hpos : 0 < l.length := Nat.lt_of_le_of_lt (Nat.zero_le _) hlt
  obtain ⟨ad, hA, hc⟩ := hC.2.2 hpos
  obtain ⟨z, hz⟩ : ∃ z, l[0]? = some z := ⟨_, List.getElem?_eq_getElem hpos⟩
  obtain ⟨c0, _, h2, h3⟩ := hc 0 z hz
  obtain ⟨cc, _, h5, h6⟩ := hc i y hy
  have e2 : c0 = [.int .i64 z] := h2
  have e5 : cc = [.int .i64 y] := h5
  have h7 := h3 0 (.int .i64 z) (by rw [e2]; rfl)
  have h8 := h6 0 (.int .i64 y) (by rw [e5]; rfl)
  have e1 : (0 : Nat) * (Kd.int .i64).sz + 0 = 0 := rfl
  have ha : ad.add 0 = ad := by simp [Addr.add]
  rw [e1, ha] at h7
  have hs := spot_none h7
  rw [hs] at hA h8
  refine ⟨_, _, hA, ?_⟩
  rw [Addr.add_lit] at h8
  have e : i * (Kd.int .i64).sz + 0 = i := by show i * 1 + 0 = i; omega
  rw [e] at h8
  exact h8
set_option maxRecDepth 10000 in
theorem two_open {H : Type} {enc : TypeId × Value → H} {W : World} {b0 base : Nat} {spare : Nat → Bool} {held : Bool} {r : Reach} {v : Value} {d : DataW H} {ps : List MemPlace} (hv : Value.okWide Try.prog W r b0 22 v) (h : DataW.Trod enc Try.prog W base spare held 22 v d ps) :
    ∃ x y : ByteArray, v = .agg #[.string x, .string y] ∧ d = .agg [.lit (.string x.data.toList), .lit (.string y.data.toList)] := by
  obtain ⟨cs, rfl, hcs⟩ := okWide_pair Try.underlying22 hv
  obtain ⟨fuel, hf⟩ := h
  obtain ⟨xs, m, _, hx, _, hl, he⟩ := DataW.trod_array Try.underlying22 hf
  have hc : Try.prog.cellsOf 9 = 1 := by kernel_rfl
  have hc2 : Try.prog.cellsOf 22 = 2 := by kernel_rfl
  rw [hc2] at hcs
  obtain ⟨l⟩ := cs
  match l, hcs with
  | [u0, u1], _ =>
  match xs, hl with
  | [x0, x1], _ =>
  have h0 := he 0 (by omega)
  have h1 := he 1 (by omega)
  rw [hc] at h0 h1
  obtain ⟨s0, e0, hs0, _⟩ := DataW.trod_string Try.underlying9 (show DataW.trod enc Try.prog W base spare held m 9 [u0] = some x0 from h0)
  obtain ⟨s1, e1, hs1, _⟩ := DataW.trod_string Try.underlying9 (show DataW.trod enc Try.prog W base spare held m 9 [u1] = some x1 from h1)
  cases e0
  cases e1
  refine ⟨s0, s1, rfl, ?_⟩
  have h3 := congrArg Prod.fst hx
  rw [hs0, hs1] at h3
  exact h3
theorem two_size {H : Type} {ts : List TypeId} {r : List (DataW H)} {x y : ByteArray} (hz : (DataW.weightsEach Try.prog (22 :: ts) (.agg [.lit (.string x.data.toList), .lit (.string y.data.toList)] :: r)).all (· ≤ reachBytes) = true) : x.size ≤ 140737488351232 ∧ y.size ≤ 140737488351232 := by
  have hw : (DataW.agg [.lit (.string x.data.toList), .lit (.string y.data.toList)] : DataW H).weights Try.prog 22 = [x.data.toList.length, y.data.toList.length] := by
    simp [DataW.weights, DataW.weightsAll, Try.underlying22]
  have hm := fun n hn => List.all_eq_true.1 hz n (DataW.weights_mem_each (j := 0) rfl rfl n hn)
  rw [hw] at hm
  have h6 : reachBytes = 140737488351232 := rfl
  have h1 := of_decide_eq_true (hm x.data.toList.length (by simp))
  have h2 := of_decide_eq_true (hm y.data.toList.length (by simp))
  rw [Array.length_toList] at h1 h2
  rw [h6] at h1 h2
  exact ⟨h1, h2⟩

set_option maxRecDepth 100000 in
theorem contract (H : Type) (enc : TypeId × Value → H) (W : World) (base : Nat) (args : Array Value) (ds gs : List (DataW H)) (before : List MemPlace)
    (hval : ∀ (j : Nat) t v, Try.f4.params[j]? = some t → args[j]? = some v → Value.okWide Try.prog W .any base t v)
    (hW : DataW.Whole enc Try.prog Try.f4.params.toList Rows.diskKeepsSpec.vars false W args.toList ds gs before)
    (hz : (DataW.weightsEach Try.prog (Try.f4.params.toList ++ Rows.diskKeepsSpec.plain.varTypes Try.prog) (ds ++ gs)).all (· ≤ reachBytes) = true) :
    Calls Try.prog 4 args W fun e W' => ∃ v, e = .returned v ∧ Rows.diskKeepsSpec.post enc Try.prog Try.f4 false true false false W args v W' := by
  have hW' := hW
  obtain ⟨p, q, hA0, hV, rfl, hfz, hnd⟩ := hW
  have hA : DataW.TrodAll enc Try.prog W 0 (fun _ => true) true Try.f4.params.toList args.toList ds p := hA0
  rw [Try.params4] at hA hval hz
  obtain ⟨v0, vs0, d0, ds0, p0, q0, hargs, rfl, rfl, h0, r0⟩ := trodAll_cons hA
  obtain ⟨v1, vs1, d1, ds1, p1, q1, rfl, rfl, rfl, h1, r1⟩ := trodAll_cons r0
  obtain ⟨v2, vs2, d2, ds2, p2, q2, rfl, rfl, rfl, h2, r2⟩ := trodAll_cons r1
  obtain ⟨rfl, rfl, rfl⟩ := trodAll_nil r2
  obtain rfl : args = #[v0, v1, v2] := by cases args; simp_all
  obtain ⟨rfl, rfl⟩ := trodVars_none hV
  have k0 := h0
  have k1 := h1
  have lt0 : ∀ x ∈ p0, x.block < W.heap.size := by obtain ⟨m, hm⟩ := k0; exact DataW.trod_lt m _ _ _ hm
  have lt1 : ∀ x ∈ p1, x.block < W.heap.size := by obtain ⟨m, hm⟩ := k1; exact DataW.trod_lt m _ _ _ hm
  obtain ⟨x, y, rfl, rfl⟩ := two_open (hval 0 22 v0 rfl rfl) h0
  obtain ⟨cs, z, rfl, hK, _, _⟩ := open_struct Try.underlying25 opn25 (hval 1 25 v1 rfl rfl) h1
  obtain ⟨A, c, hcs, hI⟩ := kCrash_open hK
  obtain rfl : cs = #[.int .i64 z.1, .slice A z.2.length c] := by cases cs; simp_all
  obtain ⟨times, rfl, rfl, rfl, y2⟩ := open_int Try.underlying3 (hval 2 3 v2 rfl rfl) h2
  obtain ⟨hx, hy⟩ := two_size hz
  clear hA0 hz
  refine (keeps_calls x y z.1 times z.2 (by omega) (by omega) W hI).mono fun e W' ⟨he, bel⟩ => ?_
  subst he
  exact ⟨_, rfl, _, _, _, [], _, [], hW', trodAll_mk1 (shut_bool Try.underlying4 _), trodAll_cons_mk (Below.trod laidOut (by kernel_rfl) (of_decide_eq_true (by kernel_rfl)) k0 bel lt0) (trodAll_cons_mk (Below.trod laidOut (by kernel_rfl) (of_decide_eq_true (by kernel_rfl)) k1 bel lt1) (trodAll_cons_mk (shut_int Try.underlying3 y2) trodAll_mk0)), rfl, bel.frame _, fun h => by cases h⟩

set_option maxRecDepth 100000 in
theorem lifted (os : Os) (started : os.Started) (H : Type) (enc : TypeId × Value → H) :
    ReturnsInHanded {} Try.checked os 4 .any (Rows.diskKeepsSpec.pre6 enc Try.prog Try.f4 [] false) (Rows.diskKeepsSpec.post enc Try.prog Try.f4 false true false false) := by
  refine returnsInHanded_of_change_sized (C := Try.checked) (s := Rows.diskKeepsSpec) own started (by kernel_rfl) Try.func4
    (ChangeSpec.witness6 (enc := enc) (C := Try.checked) false ⟨#[], #[.agg #[.string .empty, .string .empty], .agg #[.int .i64 0, .slice none 0 0], .int .i64 0], []⟩ 8 (by kernel_rfl) (by kernel_rfl) (by kernel_rfl) (by kernel_rfl)) ?_
  intro W base args ds gs before hval hW _ hz _
  exact contract H enc W base args ds gs before hval hW hz

theorem proved : Rows.DiskKeepsSaid :=
  OpenClaim.holds_of_wide 4 Try.f4 rfl rfl rfl rfl rfl rfl rfl ⟨rfl, rfl, rfl, rfl, rfl⟩ rfl rfl rfl rfl rfl (by kernel_rfl) Try.func4 (by kernel_rfl)
    (of_decide_eq_true (by kernel_rfl)) (by unfold Func.isWrapper; first | (rw [if_pos (by decide +kernel)]; kernel_rfl) | (rw [if_neg (by decide +kernel)]; exact ⟨rfl, rfl⟩))
    (fun os started H enc _ => lifted os started H enc)
#print axioms proved
end Go.Proofs.Ytokienfegjlocaa.diskKeeps
namespace Go.Proofs.Ytokienfegjlocaa
/-- The row, under a short name, for the claim. -/
theorem diskKeeps_holds : Rows.DiskKeepsSaid := diskKeeps.proved
end Go.Proofs.Ytokienfegjlocaa
