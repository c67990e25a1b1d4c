/- What the document's Encode answers, at every point: the same bytes as the program's. -/
import Derived.Test.YtbeljekpknpadaaDoorPyO
namespace Go.Proofs.YtbeljekpknpadaaDoor.PPayYL
open Go.RowKit Go.Proofs.YtbeljekpknpadaaDoor.PPayY Go.Proofs.YtbeljekpknpadaaDoorW.PrintWords Go.Proofs.YtbeljekpknpadaaDoorW.PrintLast Go.Proofs.YtbeljekpknpadaaDoorW.PrintMore
set_option linter.unusedVariables false
set_option linter.unusedSimpArgs false

theorem ba_ext {a b : ByteArray} (h : a.data.toList = b.data.toList) : a = b := by
  cases a
  cases b
  simp only at h
  rw [Array.ext' h]
theorem strOfNums_bytesOf (s : ByteArray) : strOfNums (bytesOf s) = s := by
  refine ba_ext ?_
  rw [strOfNums_data, bytesOf, List.map_map]
  conv => rhs; rw [← List.map_id s.data.toList]
  exact List.map_congr_left fun x _ => by simp
theorem sapp (a b : List Int) : strOfNums a ++ strOfNums b = strOfNums (a ++ b) := by
  refine ba_ext ?_
  rw [strOfNums_data, List.map_append, ← strOfNums_data, ← strOfNums_data]
  simp
theorem sapps (a : List Int) (s : ByteArray) : strOfNums a ++ s = strOfNums (a ++ bytesOf s) := by
  conv => lhs; rw [← strOfNums_bytesOf s]
  rw [sapp]
set_option maxRecDepth 100000 in
theorem val_empty (v : S33) (h : valB v = true) (hne : v.f0 ≠ 2) : bytesOf v.f2 = [] := by
  have e : v.f2.toList = [] := by
    unfold valB at h
    by_cases c1 : v.f0 = 1
    · rw [if_pos c1] at h
      simp only [Bool.and_eq_true, decide_eq_true_eq] at h
      exact h.1
    · rw [if_neg c1, if_neg hne] at h
      by_cases c3 : v.f0 = 3
      · rw [if_pos c3] at h
        simp only [Bool.and_eq_true, decide_eq_true_eq] at h
        exact h.1
      · rw [if_neg c3] at h
        cases h
  rw [Lib.toList_data] at e
  rw [bytesOf, e]
  rfl
set_option maxRecDepth 100000 in
theorem val_three (v : S33) (h : valB v = true) (h3 : v.f0 = 3) : 0 ≤ v.f1 ∧ v.f1 ≤ 1 := by
  unfold valB at h
  rw [if_neg (by omega), if_neg (by omega), if_pos h3] at h
  simp only [Bool.and_eq_true, Bool.or_eq_true, decide_eq_true_eq] at h
  omega
end Go.Proofs.YtbeljekpknpadaaDoor.PPayYL
