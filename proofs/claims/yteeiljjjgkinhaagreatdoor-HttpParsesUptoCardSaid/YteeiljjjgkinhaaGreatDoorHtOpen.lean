import Derived.Test.YteeiljjjgkinhaaGreatDoorPHttpFx0
import Derived.Test.YteeiljjjgkinhaaGreatDoorOpen
import Derived.Test.YteeiljjjgkinhaaGreatDoorRows
import Derived.WalkKit
import Derived.ProofKit
import Derived.Lib.LaidIn
import Derived.Lib.LaidTab
import Derived.Lib.LaidU8T
import Derived.Lib.ItoaNum
import Derived.Shelf.Vars
import Derived.Great.CaseRows
import Derived.PinnedBridge
import Derived.Deep.DeepLaidRun
import Derived.LaidLaws
namespace Go.Proofs.YteeiljjjgkinhaaGreatDoor.HtOpenN
open Go.ChangeShapes Go.WideShapes Go.ChangeAt Go.RowKit Go.Proofs.YteeiljjjgkinhaaGreatDoor.Opens Go.Proofs.YteeiljjjgkinhaaGreatDoor.PHttpF
open Go.Proofs.YteeiljjjgkinhaaGreatDoorW.PrintWords

theorem own : ownKnob Tryz.prog.godebug = none := by kernel_rfl
theorem laidOut : laidOutB Tryz.prog = true := by kernel_rfl

/-! ### the variables that the rows list -/
def laidL : List (String × DataW Unit) := [("math/bits.deBruijn32tab", Rows.laid_math_bits_deBruijn32tab), ("math/bits.deBruijn64tab", Rows.laid_math_bits_deBruijn64tab), ("internal/strconv.uint64pow10", Rows.laid_internal_strconv_uint64pow10), ("unicode/utf8.acceptRanges", Rows.laid_unicode_utf8_acceptRanges), ("strconv.ErrRange", Rows.laid_strconv_ErrRange), ("strconv.ErrSyntax", Rows.laid_strconv_ErrSyntax), ("unicode.CaseRanges", Rows.laid_unicode_CaseRanges), ("unicode/utf8.first", Rows.laid_unicode_utf8_first)]
theorem tab_of_reads {P : Program} {W : World} {name : String} {k : IntKind} {zs : List Int} {g : Nat} {t e : TypeId} {n : Nat}
    (hg : P.globalNamed name = some g) (hty : (P.globals[g]?).map (·.type) = some t) (ht : P.underlying t = some (.array n e)) (he : P.underlying e = some (.int k)) (hce : P.cellsOf e = 1) (hct : P.cellsOf t = n)
    (h : Lib.VarReads P W name (Lib.tabData k zs)) : Lib.TabIs P W name k zs := by
  obtain ⟨g', t', cs, fuel, p, hg', ht', hvar, hd⟩ := h
  obtain rfl := Option.some.inj (hg.symm.trans hg')
  obtain rfl := Option.some.inj (hty.symm.trans ht')
  unfold Lib.TabIs
  rw [hvar, ← Lib.cells_of_tab ht he hce hct hd]
theorem pow_eq : (Rows.laid_internal_strconv_uint64pow10 : DataW Unit) = Lib.tabData .u64 Lib.pow10Tab := by kernel_rfl
theorem err_of_reads {P : Program} {W : World} {name tn : String} {g : Nat} {t : TypeId} {ms : Array (String × TypeId)} {d : DataW Unit}
    (hg : P.globalNamed name = some g) (hty : (P.globals[g]?).map (·.type) = some t) (ht : P.underlying t = some (.interface ms)) (h : Lib.VarReads P W name (.iface tn d)) : ∃ (te : TypeId) (pe : Value), W.cell? ⟨g, 0, none⟩ = some (.iface te pe) := by
  obtain ⟨g', t', cs, fuel, p, hg', ht', hvar, hd⟩ := h
  obtain rfl := Option.some.inj (hg.symm.trans hg')
  obtain rfl := Option.some.inj (hty.symm.trans ht')
  obtain ⟨_, te, pe, e, _⟩ := iface_of_trod ht hd
  refine ⟨te, pe, ?_⟩
  have h0 := World.var?_cell hg hvar 0
  rw [h0]
  have e2 : cs.toList[0]? = some (.iface te pe) := by rw [e]; rfl
  rw [← e2, Array.getElem?_toList]
theorem tables {W : World} (h : laidMet Tryz.prog laidL W) (hs : W.ShapedOpen Tryz.prog) : LaidU W := by
  refine ⟨?_, ?_, ?_⟩
  · exact cell_of_shapedOpen_int (g := 0) (t := 3) (zero := #[.int .i64 0]) (k := .i64) hs (of_decide_eq_true (by kernel_rfl)) (by kernel_rfl) rfl (by kernel_rfl) (by kernel_rfl) Tryz.underlying3
  · have h1 := Lib.laidMet.reads h (n := "internal/strconv.uint64pow10") (d := Rows.laid_internal_strconv_uint64pow10) (.tail _ (.tail _ (.head _)))
    rw [pow_eq] at h1
    exact tab_of_reads (g := 4) (t := 127) (e := 108) (n := 20) (by kernel_rfl) (by kernel_rfl) (by kernel_rfl) (by kernel_rfl) (by kernel_rfl) (by kernel_rfl) h1
  · exact err_of_reads (g := 3) (t := 59) (by kernel_rfl) (by kernel_rfl) Tryz.underlying59 (Lib.laidMet.reads h (n := "strconv.ErrRange") (d := Rows.laid_strconv_ErrRange) (.tail _ (.tail _ (.tail _ (.tail _ (.head _))))))

/-- THE WITNESS: the settled world with three blocks more (the rows of unicode.CaseRanges; the two errors' texts), the variables holding what their initialisers lay. -/
noncomputable def laidWorld (os : Os) : World :=
  let N := (World.settled Tryz.prog os).heap.size
  let w0 := World.holding Tryz.prog os ⟨#[.cells (Lib.caseT.flatMap Lib.cells5).toArray 145, .cells #[.string "invalid syntax".toUTF8] 140, .cells #[.string "value out of range".toUTF8] 140], #[], []⟩
  let put (h : Array Obj) (g : Nat) (cs : Array Value) : Array Obj := h.modify g fun
    | .cells _ t frozen => .cells cs t frozen
    | o => o
  let h1 := put w0.heap 1 #[.slice (some ⟨N, 0, none⟩) 336 336]
  let h2 := put h1 2 #[.iface 138 (.pointer (some ⟨N + 1, 0, none⟩))]
  let h3 := put h2 3 #[.iface 138 (.pointer (some ⟨N + 2, 0, none⟩))]
  let h4 := put h3 4 (Lib.pow10Tab.map fun z => Value.int .u64 z).toArray
  let h5 := put h4 5 (Lib.firstTab.map fun z => Value.int .u8 z).toArray
  let h6 := put h5 6 ((List.range 16).flatMap fun i => [Value.int .u8 (Lib.accLo i), Value.int .u8 (Lib.accHi i)]).toArray
  let h7 := put h6 7 #[.int .u8 0, .int .u8 1, .int .u8 28, .int .u8 2, .int .u8 29, .int .u8 14, .int .u8 24, .int .u8 3, .int .u8 30, .int .u8 22, .int .u8 20, .int .u8 15, .int .u8 25, .int .u8 17, .int .u8 4, .int .u8 8, .int .u8 31, .int .u8 27, .int .u8 13, .int .u8 23, .int .u8 21, .int .u8 19, .int .u8 16, .int .u8 7, .int .u8 26, .int .u8 12, .int .u8 18, .int .u8 6, .int .u8 11, .int .u8 5, .int .u8 10, .int .u8 9]
  let h8 := put h7 8 #[.int .u8 0, .int .u8 1, .int .u8 56, .int .u8 2, .int .u8 57, .int .u8 49, .int .u8 28, .int .u8 3, .int .u8 61, .int .u8 58, .int .u8 42, .int .u8 50, .int .u8 38, .int .u8 29, .int .u8 17, .int .u8 4, .int .u8 62, .int .u8 47, .int .u8 59, .int .u8 36, .int .u8 45, .int .u8 43, .int .u8 51, .int .u8 22, .int .u8 53, .int .u8 39, .int .u8 33, .int .u8 30, .int .u8 24, .int .u8 18, .int .u8 12, .int .u8 5, .int .u8 63, .int .u8 55, .int .u8 48, .int .u8 27, .int .u8 60, .int .u8 41, .int .u8 37, .int .u8 16, .int .u8 46, .int .u8 35, .int .u8 44, .int .u8 21, .int .u8 52, .int .u8 32, .int .u8 23, .int .u8 11, .int .u8 54, .int .u8 26, .int .u8 40, .int .u8 15, .int .u8 34, .int .u8 20, .int .u8 31, .int .u8 10, .int .u8 25, .int .u8 14, .int .u8 19, .int .u8 9, .int .u8 13, .int .u8 8, .int .u8 7, .int .u8 6]
  { w0 with heap := h8 }
theorem cTypes : Great.CTypes Tryz.prog 120 145 143 86 21 := ⟨by kernel_rfl, by kernel_rfl, by kernel_rfl, by kernel_rfl, by kernel_rfl, by kernel_rfl, by kernel_rfl, by kernel_rfl, by kernel_rfl⟩
theorem case_eq : Rows.laid_unicode_CaseRanges = .slice (Lib.caseT.map Lib.rowData) [] := Pinned.caseRanges_eq
theorem laid_met (os : Os) (args : Array Value) : laidMet Tryz.prog laidL ((laidWorld os).forCall (fun _ _ => 0) ⟨#[], args, []⟩).memory := by
  have h1 : LaidIn Tryz.prog ((laidWorld os).forCall (fun _ _ => 0) ⟨#[], args, []⟩).memory [("math/bits.deBruijn32tab", Rows.laid_math_bits_deBruijn32tab), ("math/bits.deBruijn64tab", Rows.laid_math_bits_deBruijn64tab), ("internal/strconv.uint64pow10", Rows.laid_internal_strconv_uint64pow10), ("unicode/utf8.acceptRanges", Rows.laid_unicode_utf8_acceptRanges), ("strconv.ErrRange", Rows.laid_strconv_ErrRange), ("strconv.ErrSyntax", Rows.laid_strconv_ErrSyntax)] [2, 3, 4, 6, 7, 8, (World.settled Tryz.prog default).heap.size + 1, (World.settled Tryz.prog default).heap.size + 2] :=
    LaidIn.of_run _ 10 (by kernel_rfl) (by kernel_rfl) (by kernel_rfl) (by kernel_rfl)
  have h2 : LaidIn Tryz.prog ((laidWorld os).forCall (fun _ _ => 0) ⟨#[], args, []⟩).memory [("unicode.CaseRanges", .slice (Lib.caseT.map Lib.rowData) [])] [1, (World.settled Tryz.prog default).heap.size] :=
    Great.laidIn_case cTypes Lib.caseT (g := 1) (B := (World.settled Tryz.prog default).heap.size) (tg := 120) (tb := 145) (by kernel_rfl) (by kernel_rfl) (of_decide_eq_true (by kernel_rfl)) Lib.rowsWf (by kernel_rfl) (by kernel_rfl) (of_decide_eq_true (by kernel_rfl))
  have h3 : LaidIn Tryz.prog ((laidWorld os).forCall (fun _ _ => 0) ⟨#[], args, []⟩).memory [("unicode/utf8.first", Rows.laid_unicode_utf8_first)] [5] :=
    LaidIn.of_run _ 8 (by kernel_rfl) (by kernel_rfl) (by kernel_rfl) (by kernel_rfl)
  have h12 := (h1.append h2 (by kernel_rfl)).append h3 (by kernel_rfl)
  have e : laidL = [("math/bits.deBruijn32tab", Rows.laid_math_bits_deBruijn32tab), ("math/bits.deBruijn64tab", Rows.laid_math_bits_deBruijn64tab), ("internal/strconv.uint64pow10", Rows.laid_internal_strconv_uint64pow10), ("unicode/utf8.acceptRanges", Rows.laid_unicode_utf8_acceptRanges), ("strconv.ErrRange", Rows.laid_strconv_ErrRange), ("strconv.ErrSyntax", Rows.laid_strconv_ErrSyntax)] ++ [("unicode.CaseRanges", .slice (Lib.caseT.map Lib.rowData) [])] ++ [("unicode/utf8.first", Rows.laid_unicode_utf8_first)] := by
    unfold laidL
    rw [case_eq]
    rfl
  rw [e]
  exact h12.met

/-! ### the parameters -/
def k23 : Kd (ByteArray × ByteArray × ByteArray) := Kd.iso (Kd.pair Kd.string (Kd.pair Kd.string Kd.string)) (fun x => x)
def k37 : Kd (Int × ByteArray) := Kd.iso (Kd.pair (Kd.int .i64) Kd.string) (fun x => x)
theorem k23_open {w : World} {x : ByteArray × ByteArray × ByteArray} {cs : List Value} (h : k23.K w x cs) : cs = [.string x.1, .string x.2.1, .string x.2.2] := by
  obtain ⟨_, _, rfl, rfl, _, _, rfl, rfl, rfl⟩ := h
  rfl
theorem k37_open {w : World} {x : Int × ByteArray} {cs : List Value} (h : k37.K w x cs) : cs = [.int .i64 x.1, .string x.2] := by
  obtain ⟨_, _, rfl, rfl, rfl⟩ := h
  rfl
theorem opn23 : Opn Tryz.prog 23 k23 (fun x => (x.1.size + 1) + ((x.2.1.size + 1) + (x.2.2.size + 1)) + 1) (fun _ => True) :=
  (opn_struct (fs := [_, _, _]) Tryz.underlying23 (opnF_cons (opn_string Tryz.underlying9) (by kernel_rfl) (opnF_cons (opn_string Tryz.underlying9) (by kernel_rfl) (opnF_one (opn_string Tryz.underlying9) (by kernel_rfl)))) ⟨by kernel_rfl, by kernel_rfl, by kernel_rfl, trivial⟩ (by kernel_rfl) (fun y => ⟨y, rfl⟩)).weak (fun _ => Nat.le_refl _) (fun _ _ => trivial)
theorem opn37 : Opn Tryz.prog 37 k37 (fun x => 1 + (x.2.size + 1) + 1) (fun x => (Lit.int .i64 x.1).wf = true) :=
  (opn_struct (fs := [_, _]) Tryz.underlying37 (opnF_cons (opn_int Tryz.underlying3) (by kernel_rfl) (opnF_one (opn_string Tryz.underlying9) (by kernel_rfl))) ⟨by kernel_rfl, by kernel_rfl, trivial⟩ (by kernel_rfl) (fun y => ⟨y, rfl⟩)).weak (fun _ => Nat.le_refl _) (fun _ h => h.1)
theorem wf_range {n : Int} (h : (Lit.int .i64 n).wf = true) : -9223372036854775808 ≤ n ∧ n ≤ 9223372036854775807 := by
  simp [Lit.wf, IntKind.min, IntKind.max, IntKind.bits, IntKind.signed] at h
  omega
end Go.Proofs.YteeiljjjgkinhaaGreatDoor.HtOpenN
