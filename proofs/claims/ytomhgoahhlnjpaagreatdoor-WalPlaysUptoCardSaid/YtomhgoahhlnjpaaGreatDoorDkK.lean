/- The disk's methods, walked: Names. -/
import Derived.Test.YtomhgoahhlnjpaaGreatDoorDks
import Derived.Test.YtomhgoahhlnjpaaGreatDoorShelf
namespace Go.Proofs.YtomhgoahhlnjpaaGreatDoor.Dk
open Go.RowKit Go.Maps Go.ChangeMaps Go.WideAt Go.WideMaps Go.Sort Go.Proofs.YtomhgoahhlnjpaaGreatDoorW.PrintWords

def DS.names (S : DS) : List (List UInt8) := (strKeys S.D).mergeSort leB

theorem names_nil (w : World) : Calls Tryz.prog 46 #[.pointer none] w fun e w' => e = .returned (.slice none 0 0) ∧ w' = w := by
  go_enter Tryz.func46, Tryz.ntmps46
  go_wp2
  go_ret
  exact ⟨rfl, rfl⟩

theorem info9x : ∃ i, Tryz.prog.info? 9 = some i ∧ i.zero = some (.string ⟨#[]⟩) ∧ i.size = 1 ∧ i.bytes = 16 := by
  have h : (Tryz.prog.info? 9).map (fun i => (i.zero, i.size, i.bytes)) = some (some (.string ⟨#[]⟩), 1, 16) := by kernel_rfl
  obtain ⟨i, hi, hs⟩ := Option.map_eq_some_iff.1 h
  simp only [Prod.mk.injEq] at hs
  exact ⟨i, hi, hs.1, hs.2.1, hs.2.2⟩

set_option maxRecDepth 100000 in
set_option maxHeartbeats 4000000 in
theorem names_calls {own : Nat → Prop} {w : World} {d mb : Nat} {S : DS} {bs : List Nat} {vo vp : Value} (h : At own w d S mb bs vo vp) (hp : S.puts ≤ 8796093022208) :
    Calls Tryz.prog 46 #[.pointer (some ⟨d, 0, none⟩)] w fun e w' => ∃ v, e = .returned v ∧ w'.ownsRow w.heap.size 9 1 v S.names.length (S.names.map encStr) ∧ Below w.heap.size w w' := by
  obtain ⟨c0, c1, c2, c3⟩ := h.cells
  have hsz := h.mp.size_le
  have hmlt := h.mp.lt
  have HM := Aside0.mk h.mp
  have HSz : Aside0 (Maps.size S.D ≤ 8796093022208) := ⟨Nat.le_trans hsz hp⟩
  have HML := Aside0.mk hmlt
  clear h hp hsz hmlt
  obtain ⟨i0, q1, q2, q3, q4⟩ := info9x
  have Q1 := Aside0.mk q1
  have Q2 := Aside0.mk q2
  have Q3 := Aside0.mk q3
  have Q4 := Aside0.mk q4
  clear q1 q2 q3 q4
  go_enter Tryz.func46, Tryz.ntmps46
  go_wp2_with (first
    | (at_range; refine wpList_range_own _ rfl _ 55 rfl 9 79 law9 Tryz.underlying55 _ mb _ _ rfl HM.out ?_; intro w0 hrg0 hg0 hs0; have HRg0 := Aside0.mk hrg0; have HG0 := Aside0.mk hg0; have HS0 := Aside0.mk hs0; clear hrg0 hg0 hs0)
    | go_in)
  go_frame
  go_loopw [3] (fun v wr => ∃ (left : Lit → Bool) (cnt : Nat) (ss : List (List UInt8)), Aside0 (wr.ranges Tryz.prog 9 (rdF bs) mb w.heap.size S.puts S.D left cnt) ∧ ss.length + cnt ≤ Maps.size S.D ∧
      Aside0 (wr.ownsRow w.heap.size 9 1 v ss.length (ss.map encStr)) ∧ Aside0 (Collected S.D left ss) ∧ Aside0 (Below w.heap.size w wr))
    (fun _ wr => wr.rangeLeft mb w.heap.size)
  case atStart =>
    exact ⟨_, _, [], ⟨HRg0.out⟩, by simp, ⟨own_nil _ _ _ _⟩, ⟨Collected.start S.D⟩, ⟨(Below.refl _ _).grown HG0.out (Nat.le_refl _) (fun j hj => by cases hj)⟩⟩
  case round =>
    obtain ⟨left, cnt, ss, hrg, hcs, hrow, hC, hnx⟩ := hrel
    have HCS := Aside0.mk hcs
    clear hcs
    go_wp2_with (first
      | (at_next; refine wpList_next_ranges _ rfl _ rfl 9 law9 (rdF bs) encStr Value.pointer (fun key kl hk => by obtain ⟨x, hx, _⟩ := Maps.keyOf_str Tryz.underlying9 hk; exact ⟨x, hx⟩) (fun v y hv => by obtain ⟨hv2, _, _⟩ := rdF_inv hv; exact ⟨_, hv2.trans (Classical.choose_spec (show ∃ u, fileV bs (refO y.1) = .pointer u by cases refO y.1 <;> exact ⟨_, rfl⟩))⟩) mb w.heap.size _ _ _ _ rfl hrg.out ?_ ?_)
      | go_in)
    · intro hc0 hl0
      have HP := Aside0.mk (hC.out.perm HM.out law9 Tryz.underlying9 hl0)
      have HLen : Aside0 (S.names.length = ss.length) := ⟨by unfold DS.names; rw [List.length_mergeSort]; exact HP.out.length_eq.symm⟩
      have HNm : Aside0 (S.names = ss.mergeSort leB) := ⟨(mergeSort_of_perm HP.out).symm⟩
      clear hl0
      rcases hrow.out.2 with ⟨rfl, hz⟩ | ⟨g, cap, cur, rfl, hbase, hb, h1, h2, h3, h4⟩
      · go_wp2_with (first | (go_at_call 62; (with_reducible refine (Tryz.sort_Strings_none none 0 _).mono ?_); rintro e w' ⟨rfl, rfl⟩) | go_in)
        go_ret
        refine ⟨_, rfl, ?_, hnx.out⟩
        have h0 : S.names = [] := List.eq_nil_of_length_eq_zero (HLen.out.trans hz)
        rw [h0]
        exact own_nil _ _ _ _
      · have hH : Aside0 (Holds encStr wr g 0 ss.toArray) := ⟨holds_of_block hb (by simpa using h4)⟩
        have hgl : Aside0 (g < wr.heap.size) := ⟨(Array.getElem?_eq_some_iff.1 hb).1⟩
        have hlen : Aside0 (ss.length < 4611686018427387904) := ⟨by have := HCS.out; have := HSz.out; omega⟩
        have HB := Aside0.mk (And.intro hbase (And.intro hb (And.intro h1 (And.intro h2 h3))))
        clear hbase hb h1 h2 h3 h4
        go_wp2_with (first | (go_at_call 62; (with_reducible refine (Tryz.sort_Strings g 0 cap ss wr hH.out hgl.out hlen.out).mono ?_); rintro e w' ⟨rfl, nn, os, rfl⟩) | go_in)
        go_ret
        refine ⟨_, rfl, ?_, hnx.out.grown (grownBy_sorted _) hnx.out.size (fun j hj => by cases hj; exact HB.out.1)⟩
        rw [HLen.out, HNm.out]
        exact ownsRow_sorted (by simp) HB.out.1 HB.out.2.1 HB.out.2.2.1 HB.out.2.2.2.1 HB.out.2.2.2.2
    · intro x c kl yd yp w2 cnt2 hkey hlk hv hat hrg2 hlt hg2 hs2 hen
      obtain ⟨x', ex, rfl, _⟩ := Maps.keyOf_str Tryz.underlying9 hkey
      obtain rfl : x = x' := encStr_inj ex
      have hrow2 := Aside0.mk (hrow.out.kept hg2 (Or.inr (row_ne_iter hrow.out hrg.out).symm))
      have HS2 := Aside0.mk hs2
      have HG2 := Aside0.mk hg2
      have HR2 := Aside0.mk hrg2
      have HAt := Aside0.mk hat
      have HLt := Aside0.mk hlt
      clear hs2 hkey hv hrg2 hat hlt hg2 ex
      go_wp2_with (first
        | (at_builtin; refine wpList_append_own _ rfl _ _ 110 rfl w.heap.size 9 i0 (.string ⟨#[]⟩) 1 16 Tryz.underlying110 Q1.out Q2.out Q3.out Q4.out rfl (by decide) _ _ _ rfl (hrow2.out.alloc _) ⟨w2.heap.size, 0, none⟩ 1 1 [encStr x] rfl rfl (cell_one_new _ _ _) (by simp [Value.oneCell', encStr]) (by have := HCS.out; have := HSz.out; have := HLt.out; unfold maxLen at *; omega) (by have := HCS.out; have := HSz.out; have := HLt.out; omega) (by have := hnx.out.size; have := HG2.out.size; simp; omega) ?_; intro v' w3 hown' hg3 hnil3; have HO := Aside0.mk hown'; have HG3 := Aside0.mk hg3; clear hown' hg3 hnil3; go_frame)
        | go_in)
      have hrg3 := (HR2.out.alloc _).kept HG3.out (row_ne_low hrow2.out HML.out) (row_ne_iter hrow2.out HR2.out)
      go_roundw
      case rel =>
        refine ⟨_, cnt2, ss ++ [x], ⟨hrg3⟩, by have := HCS.out; have := HLt.out; simp; omega, ⟨by simpa using HO.out⟩, ⟨hC.out.step hlk HAt.out⟩, ⟨?_⟩⟩
        exact ((hnx.out.grown HG2.out hnx.out.size (fun j hj => by cases hj; exact Nat.le_refl _)).alloc (by have := hnx.out.size; have := HG2.out.size; omega) _).grown HG3.out (by have := hnx.out.size; have := HG2.out.size; simp; omega) (fun j hj => (hrow2.out.lt j hj).1)
      case measure => rw [hrg3.left_eq, hrg.out.left_eq]; exact HLt.out

end Go.Proofs.YtomhgoahhlnjpaaGreatDoor.Dk
