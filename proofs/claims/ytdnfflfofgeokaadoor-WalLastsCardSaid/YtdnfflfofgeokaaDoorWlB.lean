/- The log, walked: begun, Open. -/
import Derived.Test.YtdnfflfofgeokaaDoorWlA
import Derived.Test.YtdnfflfofgeokaaDoorWnE
import Derived.Test.YtdnfflfofgeokaaDoorWals
namespace Go.Proofs.YtdnfflfofgeokaaDoor.WalL
open Go.RowKit Go.Extern.Stop Go.Stop Go.Extern Go.Proofs.YtdnfflfofgeokaaDoorW.PrintWords Go.Proofs.YtdnfflfofgeokaaDoor.WalN Go.Proofs.YtdnfflfofgeokaaDoor.Dk Go.Proofs.YtdnfflfofgeokaaDoor.PWal Go.Proofs.YtdnfflfofgeokaaDoor.WalB

theorem Gl.low {p : Value} {B : Nat} {w w' : World} (h : Gl p w) (hb : Below B w w') (hB : 1 < B) : Gl p w' :=
  ⟨(hb.cell (p := ⟨0, 0, none⟩) (by show 0 < B; omega)).trans h.fine, (hb.cell (p := ⟨1, 0, none⟩) hB).trans h.et⟩

section
variable {B : Nat} {w : World} {d : Nat} {X : List (Nat × Obj)} {p : Addr}
theorem begun_old {z : ByteArray} {m k : Int} (h : LiveX B w d (lg z m [] k) X) (hG : Gl (.pointer (some p)) w) :
    Calls Tryd.prog 14 #[.pointer (some ⟨d, 0, none⟩), .string nLog] w fun e w' => e = .returned (.tuple #[.string z, .iface 149 (.pointer (some p))]) ∧ w' = w := by
  have HR := read_x h nLog (by decide)
  rw [lg_read] at HR
  have HR2 := Aside0.mk HR
  have HG := Aside0.mk hG
  clear h hG HR
  go_enter Tryd.func14, Tryd.ntmps14
  go_wp2_with (first
    | (go_at_call 25; (with_reducible refine (HR2.out).mono ?_); rintro e w1 ⟨rfl, rfl⟩)
    | (go_at_call 17; (with_reducible refine (asked_ok HG.out).mono ?_); rintro e w1 ⟨rfl, rfl⟩)
    | go_in)
  go_ret2
  exact ⟨rfl, rfl⟩
set_option maxHeartbeats 1000000 in
theorem begun_new (h : LiveX B w d DS.new X) (hB : B ≤ w.heap.size) (hG : Gl (.pointer (some p)) w) (h1 : 1 < B) :
    Calls Tryd.prog 14 #[.pointer (some ⟨d, 0, none⟩), .string nLog] w fun e w' => e = .returned (.tuple #[.string ⟨#[]⟩, .iface 149 (.pointer (some p))]) ∧ LiveX B w' d (lg ⟨#[]⟩ 0 [] 2) X ∧ Below B w w' := by
  have HR := read_x h nLog (by decide)
  rw [new_read] at HR
  have HW := write_x h hB nLog ⟨#[]⟩ (by decide) (by decide) (by decide) (by decide) (by decide) (fun f hf => by cases hf) (by decide) (fun f hf => by cases hf)
  rw [new_write] at HW
  have HR2 := Aside0.mk HR
  have HW2 := Aside0.mk HW
  have HN : Aside0 (∀ w1, LiveX B w1 d (lg ⟨#[]⟩ 0 [oLog] 1) X → B ≤ w1.heap.size → Calls Tryd.prog 26 #[.pointer (some ⟨d, 0, none⟩)] w1 fun e w' => e = .returned (.int .i64 0) ∧ LiveX B w' d (lg ⟨#[]⟩ 0 [] 2) X ∧ Below B w1 w') := ⟨fun w1 hl hb => by
    have h2 := syncNames_x hl hb (by decide) (by decide)
    rw [new_names] at h2
    exact h2⟩
  have HG := Aside0.mk hG
  have HB := Aside0.mk hB
  have H1 := Aside0.mk h1
  clear h hG HR HW hB h1
  go_enter Tryd.func14, Tryd.ntmps14
  go_wp2_with (first
    | (go_at_call 25; (with_reducible refine (HR2.out).mono ?_); rintro e w1 ⟨rfl, rfl⟩)
    | (go_at_call 21; (with_reducible refine (HW2.out).mono ?_); rintro e w1 ⟨rfl, hl, hb⟩; have L1 := Aside0.mk (And.intro hl (And.intro (Nat.le_trans HB.out hb.size) hb)); clear hl hb)
    | (go_at_call 26; (with_reducible refine (HN.out _ L1.out.1 L1.out.2.1).mono ?_); rintro e w2 ⟨rfl, hl, hb⟩; have L2 := Aside0.mk (And.intro hl (L1.out.2.2.trans hb)); clear hl hb)
    | (go_at_call 17; (with_reducible refine (asked_ok (Gl.low HG.out L2.out.2 H1.out)).mono ?_); rintro e wx ⟨rfl, rfl⟩)
    | go_in)
  go_ret2
  exact ⟨rfl, L2.out.1, L2.out.2⟩

/-- a log's own block -/
def logO (d : Nat) (size last : Int) (broken : Bool) : Obj := .cells #[.pointer (some ⟨d, 0, none⟩), .string nLog, .int .i64 size, .int .i64 last, .bool broken] 54 (0, 0)
/-- what Open leaves of a file -/
def left (z : ByteArray) (s : List S23 × Int × Int) : ByteArray := if s.2.2 = 91 then z.extract 0 s.2.1.toNat else z
def lastOf (l : List S23) : Int := match l.getLast? with | none => 0 | some x => x.f0
end
end Go.Proofs.YtdnfflfofgeokaaDoor.WalL
