-- Written by a program of this session on top of the print: some functions by hand.
import Derived.Test.YteeiljjjgkinhaaDoorPHttpDx0
import Derived.Test.YteeiljjjgkinhaaDoorPHttpDx1
import Derived.Test.YteeiljjjgkinhaaDoorPHttpDx2
import Derived.Test.YteeiljjjgkinhaaDoorPHttpDx3
import Derived.Test.YteeiljjjgkinhaaDoorPHttpDx9
namespace Go.Proofs.YteeiljjjgkinhaaDoor.PHttpD
open Go.RowKit Go.Proofs.YteeiljjjgkinhaaDoorW.PrintWords Go.Proofs.YteeiljjjgkinhaaDoorW.PrintLast Go.Proofs.YteeiljjjgkinhaaDoorW.PrintMore
attribute [local go_sem] max2_int min2_int max_two min_two max_three min_three max_four min_four   -- for this text's walks alone
set_option linter.unusedVariables false
set_option linter.unusedSimpArgs false

attribute [local go_sem high] eqA23
/-! ### http_Print: function 14 -/
def http_Print.f (a0_0 : Int) (a0_1 : ByteArray) : Option (ByteArray) := (strconv_Itoa_12.f a0_0).bind fun t217 => (if 9 + t217.size ≤ 9223372036854775807 then (if ((⟨#[72, 84, 84, 80, 47, 49, 46, 49, 32]⟩ : ByteArray) ++ t217).size + 1 ≤ 9223372036854775807 then ((http_Reason.f a0_0).bind fun t218 => (if (((⟨#[72, 84, 84, 80, 47, 49, 46, 49, 32]⟩ : ByteArray) ++ t217) ++ (⟨#[32]⟩ : ByteArray)).size + t218.size ≤ 9223372036854775807 then (if ((((⟨#[72, 84, 84, 80, 47, 49, 46, 49, 32]⟩ : ByteArray) ++ t217) ++ (⟨#[32]⟩ : ByteArray)) ++ t218).size + 50 ≤ 9223372036854775807 then ((strconv_Itoa_12.f (a0_1.size : Int)).bind fun t219 => (if (((((⟨#[72, 84, 84, 80, 47, 49, 46, 49, 32]⟩ : ByteArray) ++ t217) ++ (⟨#[32]⟩ : ByteArray)) ++ t218) ++ (⟨#[13, 10, 67, 111, 110, 116, 101, 110, 116, 45, 84, 121, 112, 101, 58, 32, 97, 112, 112, 108, 105, 99, 97, 116, 105, 111, 110, 47, 106, 115, 111, 110, 13, 10, 67, 111, 110, 116, 101, 110, 116, 45, 76, 101, 110, 103, 116, 104, 58, 32]⟩ : ByteArray)).size + t219.size ≤ 9223372036854775807 then (if ((((((⟨#[72, 84, 84, 80, 47, 49, 46, 49, 32]⟩ : ByteArray) ++ t217) ++ (⟨#[32]⟩ : ByteArray)) ++ t218) ++ (⟨#[13, 10, 67, 111, 110, 116, 101, 110, 116, 45, 84, 121, 112, 101, 58, 32, 97, 112, 112, 108, 105, 99, 97, 116, 105, 111, 110, 47, 106, 115, 111, 110, 13, 10, 67, 111, 110, 116, 101, 110, 116, 45, 76, 101, 110, 103, 116, 104, 58, 32]⟩ : ByteArray)) ++ t219).size + 4 ≤ 9223372036854775807 then (if (((((((⟨#[72, 84, 84, 80, 47, 49, 46, 49, 32]⟩ : ByteArray) ++ t217) ++ (⟨#[32]⟩ : ByteArray)) ++ t218) ++ (⟨#[13, 10, 67, 111, 110, 116, 101, 110, 116, 45, 84, 121, 112, 101, 58, 32, 97, 112, 112, 108, 105, 99, 97, 116, 105, 111, 110, 47, 106, 115, 111, 110, 13, 10, 67, 111, 110, 116, 101, 110, 116, 45, 76, 101, 110, 103, 116, 104, 58, 32]⟩ : ByteArray)) ++ t219) ++ (⟨#[13, 10, 13, 10]⟩ : ByteArray)).size + a0_1.size ≤ 9223372036854775807 then (some ((((((((⟨#[72, 84, 84, 80, 47, 49, 46, 49, 32]⟩ : ByteArray) ++ t217) ++ (⟨#[32]⟩ : ByteArray)) ++ t218) ++ (⟨#[13, 10, 67, 111, 110, 116, 101, 110, 116, 45, 84, 121, 112, 101, 58, 32, 97, 112, 112, 108, 105, 99, 97, 116, 105, 111, 110, 47, 106, 115, 111, 110, 13, 10, 67, 111, 110, 116, 101, 110, 116, 45, 76, 101, 110, 103, 116, 104, 58, 32]⟩ : ByteArray)) ++ t219) ++ (⟨#[13, 10, 13, 10]⟩ : ByteArray)) ++ a0_1)) else (none)) else (none)) else (none))) else (none)) else (none))) else (none)) else (none))
def http_Print.T1 : Bool × List (List Nat × List Nat) := (true, [([], []), ([0], [0]), ([1], [1]), ([2], [2]), ([3], [3]), ([], []), ([5], [5]), ([6, 2], [6]), ([4, 7], [4, 7]), ([8], [8]), ([], []), ([10], [10]), ([11], [11]), ([12, 7], [12]), ([9, 13], [9, 13]), ([14], [14]), ([], []), ([16], [16]), ([15, 17], [15, 17]), ([18, 13, 0, 1, 2, 3, 4, 5, 6, 7, 8, 9, 10, 11, 12, 13, 14, 15, 16, 17, 18], [18])])
def http_Print.B1 : List Nat := [0, 1, 3, 7, 15, 0, 32, 103, 255, 511, 0, 1024, 3072, 7399, 16383, 32767, 0, 65536, 262143, 524287]
theorem http_Print.tab1 : rtab .any (opsOf Tryd.f14 1) = http_Print.T1 := by kernel_rfl
theorem http_Print.bits1 : waitsOk http_Print.T1.2 http_Print.B1 = true := by kernel_rfl
set_option maxHeartbeats 8000000 in
set_option maxRecDepth 100000 in
theorem http_Print.calls (a0_0 : Int) (a0_1 : ByteArray) (r : ByteArray) (w : World) (hU : LaidU w) (h : http_Print.f a0_0 a0_1 = some r) :
  Calls Tryd.prog 14 #[.agg #[.int .i64 a0_0, .string a0_1]] w fun e w' => e = .returned (.string r) ∧ Below w.heap.size w w' := by
 have hu38 := Tryd.underlying38
 have HU := Aside0.mk hU
 clear hU
 have HB := Aside0.mk (Below.refl w.heap.size w)
 have H : ((strconv_Itoa_12.f a0_0).bind fun t217 => (if 9 + t217.size ≤ 9223372036854775807 then (if ((⟨#[72, 84, 84, 80, 47, 49, 46, 49, 32]⟩ : ByteArray) ++ t217).size + 1 ≤ 9223372036854775807 then ((http_Reason.f a0_0).bind fun t218 => (if (((⟨#[72, 84, 84, 80, 47, 49, 46, 49, 32]⟩ : ByteArray) ++ t217) ++ (⟨#[32]⟩ : ByteArray)).size + t218.size ≤ 9223372036854775807 then (if ((((⟨#[72, 84, 84, 80, 47, 49, 46, 49, 32]⟩ : ByteArray) ++ t217) ++ (⟨#[32]⟩ : ByteArray)) ++ t218).size + 50 ≤ 9223372036854775807 then ((strconv_Itoa_12.f (a0_1.size : Int)).bind fun t219 => (if (((((⟨#[72, 84, 84, 80, 47, 49, 46, 49, 32]⟩ : ByteArray) ++ t217) ++ (⟨#[32]⟩ : ByteArray)) ++ t218) ++ (⟨#[13, 10, 67, 111, 110, 116, 101, 110, 116, 45, 84, 121, 112, 101, 58, 32, 97, 112, 112, 108, 105, 99, 97, 116, 105, 111, 110, 47, 106, 115, 111, 110, 13, 10, 67, 111, 110, 116, 101, 110, 116, 45, 76, 101, 110, 103, 116, 104, 58, 32]⟩ : ByteArray)).size + t219.size ≤ 9223372036854775807 then (if ((((((⟨#[72, 84, 84, 80, 47, 49, 46, 49, 32]⟩ : ByteArray) ++ t217) ++ (⟨#[32]⟩ : ByteArray)) ++ t218) ++ (⟨#[13, 10, 67, 111, 110, 116, 101, 110, 116, 45, 84, 121, 112, 101, 58, 32, 97, 112, 112, 108, 105, 99, 97, 116, 105, 111, 110, 47, 106, 115, 111, 110, 13, 10, 67, 111, 110, 116, 101, 110, 116, 45, 76, 101, 110, 103, 116, 104, 58, 32]⟩ : ByteArray)) ++ t219).size + 4 ≤ 9223372036854775807 then (if (((((((⟨#[72, 84, 84, 80, 47, 49, 46, 49, 32]⟩ : ByteArray) ++ t217) ++ (⟨#[32]⟩ : ByteArray)) ++ t218) ++ (⟨#[13, 10, 67, 111, 110, 116, 101, 110, 116, 45, 84, 121, 112, 101, 58, 32, 97, 112, 112, 108, 105, 99, 97, 116, 105, 111, 110, 47, 106, 115, 111, 110, 13, 10, 67, 111, 110, 116, 101, 110, 116, 45, 76, 101, 110, 103, 116, 104, 58, 32]⟩ : ByteArray)) ++ t219) ++ (⟨#[13, 10, 13, 10]⟩ : ByteArray)).size + a0_1.size ≤ 9223372036854775807 then (some ((((((((⟨#[72, 84, 84, 80, 47, 49, 46, 49, 32]⟩ : ByteArray) ++ t217) ++ (⟨#[32]⟩ : ByteArray)) ++ t218) ++ (⟨#[13, 10, 67, 111, 110, 116, 101, 110, 116, 45, 84, 121, 112, 101, 58, 32, 97, 112, 112, 108, 105, 99, 97, 116, 105, 111, 110, 47, 106, 115, 111, 110, 13, 10, 67, 111, 110, 116, 101, 110, 116, 45, 76, 101, 110, 103, 116, 104, 58, 32]⟩ : ByteArray)) ++ t219) ++ (⟨#[13, 10, 13, 10]⟩ : ByteArray)) ++ a0_1)) else (none)) else (none)) else (none))) else (none)) else (none))) else (none)) else (none))) = some r := h
 clear h
 replace H := Option.bind_eq_some_iff.mp H
 obtain ⟨t217, A20, H⟩ := H
 replace H : (if 9 + t217.size ≤ 9223372036854775807 then (if ((⟨#[72, 84, 84, 80, 47, 49, 46, 49, 32]⟩ : ByteArray) ++ t217).size + 1 ≤ 9223372036854775807 then ((http_Reason.f a0_0).bind fun t218 => (if (((⟨#[72, 84, 84, 80, 47, 49, 46, 49, 32]⟩ : ByteArray) ++ t217) ++ (⟨#[32]⟩ : ByteArray)).size + t218.size ≤ 9223372036854775807 then (if ((((⟨#[72, 84, 84, 80, 47, 49, 46, 49, 32]⟩ : ByteArray) ++ t217) ++ (⟨#[32]⟩ : ByteArray)) ++ t218).size + 50 ≤ 9223372036854775807 then ((strconv_Itoa_12.f (a0_1.size : Int)).bind fun t219 => (if (((((⟨#[72, 84, 84, 80, 47, 49, 46, 49, 32]⟩ : ByteArray) ++ t217) ++ (⟨#[32]⟩ : ByteArray)) ++ t218) ++ (⟨#[13, 10, 67, 111, 110, 116, 101, 110, 116, 45, 84, 121, 112, 101, 58, 32, 97, 112, 112, 108, 105, 99, 97, 116, 105, 111, 110, 47, 106, 115, 111, 110, 13, 10, 67, 111, 110, 116, 101, 110, 116, 45, 76, 101, 110, 103, 116, 104, 58, 32]⟩ : ByteArray)).size + t219.size ≤ 9223372036854775807 then (if ((((((⟨#[72, 84, 84, 80, 47, 49, 46, 49, 32]⟩ : ByteArray) ++ t217) ++ (⟨#[32]⟩ : ByteArray)) ++ t218) ++ (⟨#[13, 10, 67, 111, 110, 116, 101, 110, 116, 45, 84, 121, 112, 101, 58, 32, 97, 112, 112, 108, 105, 99, 97, 116, 105, 111, 110, 47, 106, 115, 111, 110, 13, 10, 67, 111, 110, 116, 101, 110, 116, 45, 76, 101, 110, 103, 116, 104, 58, 32]⟩ : ByteArray)) ++ t219).size + 4 ≤ 9223372036854775807 then (if (((((((⟨#[72, 84, 84, 80, 47, 49, 46, 49, 32]⟩ : ByteArray) ++ t217) ++ (⟨#[32]⟩ : ByteArray)) ++ t218) ++ (⟨#[13, 10, 67, 111, 110, 116, 101, 110, 116, 45, 84, 121, 112, 101, 58, 32, 97, 112, 112, 108, 105, 99, 97, 116, 105, 111, 110, 47, 106, 115, 111, 110, 13, 10, 67, 111, 110, 116, 101, 110, 116, 45, 76, 101, 110, 103, 116, 104, 58, 32]⟩ : ByteArray)) ++ t219) ++ (⟨#[13, 10, 13, 10]⟩ : ByteArray)).size + a0_1.size ≤ 9223372036854775807 then (some ((((((((⟨#[72, 84, 84, 80, 47, 49, 46, 49, 32]⟩ : ByteArray) ++ t217) ++ (⟨#[32]⟩ : ByteArray)) ++ t218) ++ (⟨#[13, 10, 67, 111, 110, 116, 101, 110, 116, 45, 84, 121, 112, 101, 58, 32, 97, 112, 112, 108, 105, 99, 97, 116, 105, 111, 110, 47, 106, 115, 111, 110, 13, 10, 67, 111, 110, 116, 101, 110, 116, 45, 76, 101, 110, 103, 116, 104, 58, 32]⟩ : ByteArray)) ++ t219) ++ (⟨#[13, 10, 13, 10]⟩ : ByteArray)) ++ a0_1)) else (none)) else (none)) else (none))) else (none)) else (none))) else (none)) else (none)) = some r := H
 have A2 := Aside0.mk A20
 clear A20
 by_cases c3 : 9 + t217.size ≤ 9223372036854775807
 ·rw [if_pos c3] at H
  have c3b0 := eq_true c3
  have c3b1 : decide (9 + t217.size ≤ 9223372036854775807) = true := decide_eq_true c3
  try have c3b2 : (9223372036854775807 < 9 + t217.size) = False := eq_false (Nat.not_lt.2 c3)
  by_cases c4 : ((⟨#[72, 84, 84, 80, 47, 49, 46, 49, 32]⟩ : ByteArray) ++ t217).size + 1 ≤ 9223372036854775807
  ·rw [if_pos c4] at H
   have c4b0 := eq_true c4
   have c4b1 : decide (((⟨#[72, 84, 84, 80, 47, 49, 46, 49, 32]⟩ : ByteArray) ++ t217).size + 1 ≤ 9223372036854775807) = true := decide_eq_true c4
   try have c4b2 : (9223372036854775807 < ((⟨#[72, 84, 84, 80, 47, 49, 46, 49, 32]⟩ : ByteArray) ++ t217).size + 1) = False := eq_false (Nat.not_lt.2 c4)
   (try (have c4z0 := c4b0; simp only [ByteArray.size_append] at c4z0))
   (try (have c4z1 := c4b1; simp only [ByteArray.size_append] at c4z1))
   (try (have c4z2 := c4b2; simp only [ByteArray.size_append] at c4z2))
   replace H := Option.bind_eq_some_iff.mp H
   obtain ⟨t218, A50, H⟩ := H
   replace H : (if (((⟨#[72, 84, 84, 80, 47, 49, 46, 49, 32]⟩ : ByteArray) ++ t217) ++ (⟨#[32]⟩ : ByteArray)).size + t218.size ≤ 9223372036854775807 then (if ((((⟨#[72, 84, 84, 80, 47, 49, 46, 49, 32]⟩ : ByteArray) ++ t217) ++ (⟨#[32]⟩ : ByteArray)) ++ t218).size + 50 ≤ 9223372036854775807 then ((strconv_Itoa_12.f (a0_1.size : Int)).bind fun t219 => (if (((((⟨#[72, 84, 84, 80, 47, 49, 46, 49, 32]⟩ : ByteArray) ++ t217) ++ (⟨#[32]⟩ : ByteArray)) ++ t218) ++ (⟨#[13, 10, 67, 111, 110, 116, 101, 110, 116, 45, 84, 121, 112, 101, 58, 32, 97, 112, 112, 108, 105, 99, 97, 116, 105, 111, 110, 47, 106, 115, 111, 110, 13, 10, 67, 111, 110, 116, 101, 110, 116, 45, 76, 101, 110, 103, 116, 104, 58, 32]⟩ : ByteArray)).size + t219.size ≤ 9223372036854775807 then (if ((((((⟨#[72, 84, 84, 80, 47, 49, 46, 49, 32]⟩ : ByteArray) ++ t217) ++ (⟨#[32]⟩ : ByteArray)) ++ t218) ++ (⟨#[13, 10, 67, 111, 110, 116, 101, 110, 116, 45, 84, 121, 112, 101, 58, 32, 97, 112, 112, 108, 105, 99, 97, 116, 105, 111, 110, 47, 106, 115, 111, 110, 13, 10, 67, 111, 110, 116, 101, 110, 116, 45, 76, 101, 110, 103, 116, 104, 58, 32]⟩ : ByteArray)) ++ t219).size + 4 ≤ 9223372036854775807 then (if (((((((⟨#[72, 84, 84, 80, 47, 49, 46, 49, 32]⟩ : ByteArray) ++ t217) ++ (⟨#[32]⟩ : ByteArray)) ++ t218) ++ (⟨#[13, 10, 67, 111, 110, 116, 101, 110, 116, 45, 84, 121, 112, 101, 58, 32, 97, 112, 112, 108, 105, 99, 97, 116, 105, 111, 110, 47, 106, 115, 111, 110, 13, 10, 67, 111, 110, 116, 101, 110, 116, 45, 76, 101, 110, 103, 116, 104, 58, 32]⟩ : ByteArray)) ++ t219) ++ (⟨#[13, 10, 13, 10]⟩ : ByteArray)).size + a0_1.size ≤ 9223372036854775807 then (some ((((((((⟨#[72, 84, 84, 80, 47, 49, 46, 49, 32]⟩ : ByteArray) ++ t217) ++ (⟨#[32]⟩ : ByteArray)) ++ t218) ++ (⟨#[13, 10, 67, 111, 110, 116, 101, 110, 116, 45, 84, 121, 112, 101, 58, 32, 97, 112, 112, 108, 105, 99, 97, 116, 105, 111, 110, 47, 106, 115, 111, 110, 13, 10, 67, 111, 110, 116, 101, 110, 116, 45, 76, 101, 110, 103, 116, 104, 58, 32]⟩ : ByteArray)) ++ t219) ++ (⟨#[13, 10, 13, 10]⟩ : ByteArray)) ++ a0_1)) else (none)) else (none)) else (none))) else (none)) else (none)) = some r := H
   have A5 := Aside0.mk A50
   clear A50
   by_cases c6 : (((⟨#[72, 84, 84, 80, 47, 49, 46, 49, 32]⟩ : ByteArray) ++ t217) ++ (⟨#[32]⟩ : ByteArray)).size + t218.size ≤ 9223372036854775807
   ·rw [if_pos c6] at H
    have c6b0 := eq_true c6
    have c6b1 : decide ((((⟨#[72, 84, 84, 80, 47, 49, 46, 49, 32]⟩ : ByteArray) ++ t217) ++ (⟨#[32]⟩ : ByteArray)).size + t218.size ≤ 9223372036854775807) = true := decide_eq_true c6
    try have c6b2 : (9223372036854775807 < (((⟨#[72, 84, 84, 80, 47, 49, 46, 49, 32]⟩ : ByteArray) ++ t217) ++ (⟨#[32]⟩ : ByteArray)).size + t218.size) = False := eq_false (Nat.not_lt.2 c6)
    (try (have c6z0 := c6b0; simp only [ByteArray.size_append] at c6z0))
    (try (have c6z1 := c6b1; simp only [ByteArray.size_append] at c6z1))
    (try (have c6z2 := c6b2; simp only [ByteArray.size_append] at c6z2))
    by_cases c7 : ((((⟨#[72, 84, 84, 80, 47, 49, 46, 49, 32]⟩ : ByteArray) ++ t217) ++ (⟨#[32]⟩ : ByteArray)) ++ t218).size + 50 ≤ 9223372036854775807
    ·rw [if_pos c7] at H
     have c7b0 := eq_true c7
     have c7b1 : decide (((((⟨#[72, 84, 84, 80, 47, 49, 46, 49, 32]⟩ : ByteArray) ++ t217) ++ (⟨#[32]⟩ : ByteArray)) ++ t218).size + 50 ≤ 9223372036854775807) = true := decide_eq_true c7
     try have c7b2 : (9223372036854775807 < ((((⟨#[72, 84, 84, 80, 47, 49, 46, 49, 32]⟩ : ByteArray) ++ t217) ++ (⟨#[32]⟩ : ByteArray)) ++ t218).size + 50) = False := eq_false (Nat.not_lt.2 c7)
     (try (have c7z0 := c7b0; simp only [ByteArray.size_append] at c7z0))
     (try (have c7z1 := c7b1; simp only [ByteArray.size_append] at c7z1))
     (try (have c7z2 := c7b2; simp only [ByteArray.size_append] at c7z2))
     replace H := Option.bind_eq_some_iff.mp H
     obtain ⟨t219, A80, H⟩ := H
     replace H : (if (((((⟨#[72, 84, 84, 80, 47, 49, 46, 49, 32]⟩ : ByteArray) ++ t217) ++ (⟨#[32]⟩ : ByteArray)) ++ t218) ++ (⟨#[13, 10, 67, 111, 110, 116, 101, 110, 116, 45, 84, 121, 112, 101, 58, 32, 97, 112, 112, 108, 105, 99, 97, 116, 105, 111, 110, 47, 106, 115, 111, 110, 13, 10, 67, 111, 110, 116, 101, 110, 116, 45, 76, 101, 110, 103, 116, 104, 58, 32]⟩ : ByteArray)).size + t219.size ≤ 9223372036854775807 then (if ((((((⟨#[72, 84, 84, 80, 47, 49, 46, 49, 32]⟩ : ByteArray) ++ t217) ++ (⟨#[32]⟩ : ByteArray)) ++ t218) ++ (⟨#[13, 10, 67, 111, 110, 116, 101, 110, 116, 45, 84, 121, 112, 101, 58, 32, 97, 112, 112, 108, 105, 99, 97, 116, 105, 111, 110, 47, 106, 115, 111, 110, 13, 10, 67, 111, 110, 116, 101, 110, 116, 45, 76, 101, 110, 103, 116, 104, 58, 32]⟩ : ByteArray)) ++ t219).size + 4 ≤ 9223372036854775807 then (if (((((((⟨#[72, 84, 84, 80, 47, 49, 46, 49, 32]⟩ : ByteArray) ++ t217) ++ (⟨#[32]⟩ : ByteArray)) ++ t218) ++ (⟨#[13, 10, 67, 111, 110, 116, 101, 110, 116, 45, 84, 121, 112, 101, 58, 32, 97, 112, 112, 108, 105, 99, 97, 116, 105, 111, 110, 47, 106, 115, 111, 110, 13, 10, 67, 111, 110, 116, 101, 110, 116, 45, 76, 101, 110, 103, 116, 104, 58, 32]⟩ : ByteArray)) ++ t219) ++ (⟨#[13, 10, 13, 10]⟩ : ByteArray)).size + a0_1.size ≤ 9223372036854775807 then (some ((((((((⟨#[72, 84, 84, 80, 47, 49, 46, 49, 32]⟩ : ByteArray) ++ t217) ++ (⟨#[32]⟩ : ByteArray)) ++ t218) ++ (⟨#[13, 10, 67, 111, 110, 116, 101, 110, 116, 45, 84, 121, 112, 101, 58, 32, 97, 112, 112, 108, 105, 99, 97, 116, 105, 111, 110, 47, 106, 115, 111, 110, 13, 10, 67, 111, 110, 116, 101, 110, 116, 45, 76, 101, 110, 103, 116, 104, 58, 32]⟩ : ByteArray)) ++ t219) ++ (⟨#[13, 10, 13, 10]⟩ : ByteArray)) ++ a0_1)) else (none)) else (none)) else (none)) = some r := H
     have A8 := Aside0.mk A80
     clear A80
     by_cases c9 : (((((⟨#[72, 84, 84, 80, 47, 49, 46, 49, 32]⟩ : ByteArray) ++ t217) ++ (⟨#[32]⟩ : ByteArray)) ++ t218) ++ (⟨#[13, 10, 67, 111, 110, 116, 101, 110, 116, 45, 84, 121, 112, 101, 58, 32, 97, 112, 112, 108, 105, 99, 97, 116, 105, 111, 110, 47, 106, 115, 111, 110, 13, 10, 67, 111, 110, 116, 101, 110, 116, 45, 76, 101, 110, 103, 116, 104, 58, 32]⟩ : ByteArray)).size + t219.size ≤ 9223372036854775807
     ·rw [if_pos c9] at H
      have c9b0 := eq_true c9
      have c9b1 : decide ((((((⟨#[72, 84, 84, 80, 47, 49, 46, 49, 32]⟩ : ByteArray) ++ t217) ++ (⟨#[32]⟩ : ByteArray)) ++ t218) ++ (⟨#[13, 10, 67, 111, 110, 116, 101, 110, 116, 45, 84, 121, 112, 101, 58, 32, 97, 112, 112, 108, 105, 99, 97, 116, 105, 111, 110, 47, 106, 115, 111, 110, 13, 10, 67, 111, 110, 116, 101, 110, 116, 45, 76, 101, 110, 103, 116, 104, 58, 32]⟩ : ByteArray)).size + t219.size ≤ 9223372036854775807) = true := decide_eq_true c9
      try have c9b2 : (9223372036854775807 < (((((⟨#[72, 84, 84, 80, 47, 49, 46, 49, 32]⟩ : ByteArray) ++ t217) ++ (⟨#[32]⟩ : ByteArray)) ++ t218) ++ (⟨#[13, 10, 67, 111, 110, 116, 101, 110, 116, 45, 84, 121, 112, 101, 58, 32, 97, 112, 112, 108, 105, 99, 97, 116, 105, 111, 110, 47, 106, 115, 111, 110, 13, 10, 67, 111, 110, 116, 101, 110, 116, 45, 76, 101, 110, 103, 116, 104, 58, 32]⟩ : ByteArray)).size + t219.size) = False := eq_false (Nat.not_lt.2 c9)
      (try (have c9z0 := c9b0; simp only [ByteArray.size_append] at c9z0))
      (try (have c9z1 := c9b1; simp only [ByteArray.size_append] at c9z1))
      (try (have c9z2 := c9b2; simp only [ByteArray.size_append] at c9z2))
      by_cases c10 : ((((((⟨#[72, 84, 84, 80, 47, 49, 46, 49, 32]⟩ : ByteArray) ++ t217) ++ (⟨#[32]⟩ : ByteArray)) ++ t218) ++ (⟨#[13, 10, 67, 111, 110, 116, 101, 110, 116, 45, 84, 121, 112, 101, 58, 32, 97, 112, 112, 108, 105, 99, 97, 116, 105, 111, 110, 47, 106, 115, 111, 110, 13, 10, 67, 111, 110, 116, 101, 110, 116, 45, 76, 101, 110, 103, 116, 104, 58, 32]⟩ : ByteArray)) ++ t219).size + 4 ≤ 9223372036854775807
      ·rw [if_pos c10] at H
       have c10b0 := eq_true c10
       have c10b1 : decide (((((((⟨#[72, 84, 84, 80, 47, 49, 46, 49, 32]⟩ : ByteArray) ++ t217) ++ (⟨#[32]⟩ : ByteArray)) ++ t218) ++ (⟨#[13, 10, 67, 111, 110, 116, 101, 110, 116, 45, 84, 121, 112, 101, 58, 32, 97, 112, 112, 108, 105, 99, 97, 116, 105, 111, 110, 47, 106, 115, 111, 110, 13, 10, 67, 111, 110, 116, 101, 110, 116, 45, 76, 101, 110, 103, 116, 104, 58, 32]⟩ : ByteArray)) ++ t219).size + 4 ≤ 9223372036854775807) = true := decide_eq_true c10
       try have c10b2 : (9223372036854775807 < ((((((⟨#[72, 84, 84, 80, 47, 49, 46, 49, 32]⟩ : ByteArray) ++ t217) ++ (⟨#[32]⟩ : ByteArray)) ++ t218) ++ (⟨#[13, 10, 67, 111, 110, 116, 101, 110, 116, 45, 84, 121, 112, 101, 58, 32, 97, 112, 112, 108, 105, 99, 97, 116, 105, 111, 110, 47, 106, 115, 111, 110, 13, 10, 67, 111, 110, 116, 101, 110, 116, 45, 76, 101, 110, 103, 116, 104, 58, 32]⟩ : ByteArray)) ++ t219).size + 4) = False := eq_false (Nat.not_lt.2 c10)
       (try (have c10z0 := c10b0; simp only [ByteArray.size_append] at c10z0))
       (try (have c10z1 := c10b1; simp only [ByteArray.size_append] at c10z1))
       (try (have c10z2 := c10b2; simp only [ByteArray.size_append] at c10z2))
       by_cases c11 : (((((((⟨#[72, 84, 84, 80, 47, 49, 46, 49, 32]⟩ : ByteArray) ++ t217) ++ (⟨#[32]⟩ : ByteArray)) ++ t218) ++ (⟨#[13, 10, 67, 111, 110, 116, 101, 110, 116, 45, 84, 121, 112, 101, 58, 32, 97, 112, 112, 108, 105, 99, 97, 116, 105, 111, 110, 47, 106, 115, 111, 110, 13, 10, 67, 111, 110, 116, 101, 110, 116, 45, 76, 101, 110, 103, 116, 104, 58, 32]⟩ : ByteArray)) ++ t219) ++ (⟨#[13, 10, 13, 10]⟩ : ByteArray)).size + a0_1.size ≤ 9223372036854775807
       ·rw [if_pos c11] at H
        have c11b0 := eq_true c11
        have c11b1 : decide ((((((((⟨#[72, 84, 84, 80, 47, 49, 46, 49, 32]⟩ : ByteArray) ++ t217) ++ (⟨#[32]⟩ : ByteArray)) ++ t218) ++ (⟨#[13, 10, 67, 111, 110, 116, 101, 110, 116, 45, 84, 121, 112, 101, 58, 32, 97, 112, 112, 108, 105, 99, 97, 116, 105, 111, 110, 47, 106, 115, 111, 110, 13, 10, 67, 111, 110, 116, 101, 110, 116, 45, 76, 101, 110, 103, 116, 104, 58, 32]⟩ : ByteArray)) ++ t219) ++ (⟨#[13, 10, 13, 10]⟩ : ByteArray)).size + a0_1.size ≤ 9223372036854775807) = true := decide_eq_true c11
        try have c11b2 : (9223372036854775807 < (((((((⟨#[72, 84, 84, 80, 47, 49, 46, 49, 32]⟩ : ByteArray) ++ t217) ++ (⟨#[32]⟩ : ByteArray)) ++ t218) ++ (⟨#[13, 10, 67, 111, 110, 116, 101, 110, 116, 45, 84, 121, 112, 101, 58, 32, 97, 112, 112, 108, 105, 99, 97, 116, 105, 111, 110, 47, 106, 115, 111, 110, 13, 10, 67, 111, 110, 116, 101, 110, 116, 45, 76, 101, 110, 103, 116, 104, 58, 32]⟩ : ByteArray)) ++ t219) ++ (⟨#[13, 10, 13, 10]⟩ : ByteArray)).size + a0_1.size) = False := eq_false (Nat.not_lt.2 c11)
        (try (have c11z0 := c11b0; simp only [ByteArray.size_append] at c11z0))
        (try (have c11z1 := c11b1; simp only [ByteArray.size_append] at c11z1))
        (try (have c11z2 := c11b2; simp only [ByteArray.size_append] at c11z2))
        obtain rfl := Option.some.inj H
        go_enter Tryd.func14, Tryd.ntmps14
        try go_wp2_with (first | ((with_reducible refine gate_dst (N := 1) rfl ?_); refine box_event ?hg (N := 1) ?hd (cs := #[.int .i64 a0_0, .string a0_1]) (t := 38) ?hr ?_; (case hd => rfl); (case hg => rfl); (case hr => first | (go_simp; done) | (go_simp; rfl)); intro gb216 hg w12 hbox hb; have BK216 := Aside0.mk (hbox); have GW216 := Aside0.mk (gs (w := w) hg (bl HB.out)); have GE216 := Aside0.mk (gs (w := w) hg (bl HB.out)); replace HB := Aside0.mk (below_step (bl HB.out) hb); clear hb hbox hg))
        replace BK216 := Aside0.mk (blk_drew BK216.out)
        replace HB := Aside0.mk (below_drew1 HB.out)
        refine start_ (n := 20) (S := fun w' => w'.cell? ⟨gb216, 0, none⟩ = some (.int .i64 a0_0) ∧ w'.cell? ⟨gb216, 1, none⟩ = some (.string a0_1)) (ds := []) #[false, false, false, false, false, false, false, false, false, false, false, false, false, false, false, false, false, false, false, false] kr rfl rfl ⟨(blk_cell BK216.out 0).trans rfl, (blk_cell BK216.out 1).trans rfl⟩ (fun hHeld => ?_); refine with_tabW http_Print.tab1 http_Print.bits1 (fun HT_ HW_ => ?_)
        generalize w12.drew = w13 at BK216 HB hHeld ⊢
        refine pure_ (i := 0) (N := some 3) (v := ?_) (a' := ?_) #[true, false, false, false, false, false, false, false, false, false, false, false, false, false, false, false, false, false, false, false] rfl rfl (any_of HT_.out kr) (fun _ _ _ h => h) (Or.inl ⟨by rfl, ?_⟩) ?_ ?_
        rotate_left
        ·exact wl
        rotate_left
        ·exact ap
        refine pure_ (i := 5) (N := some 8) (v := ?_) (a' := ?_) #[true, false, false, false, false, true, false, false, false, false, false, false, false, false, false, false, false, false, false, false] rfl rfl (any_of HT_.out kr) (fun _ _ _ h => h) (Or.inl ⟨by rfl, ?_⟩) ?_ ?_
        rotate_left
        ·exact wl
        rotate_left
        ·exact ap
        refine pure_ (i := 10) (N := some 13) (v := ?_) (a' := ?_) #[true, false, false, false, false, true, false, false, false, false, true, false, false, false, false, false, false, false, false, false] rfl rfl (any_of HT_.out kr) (fun _ _ _ h => h) (Or.inl ⟨by rfl, ?_⟩) ?_ ?_
        rotate_left
        ·exact wl
        rotate_left
        ·exact ap
        refine pure_ (i := 16) (N := some 19) (v := ?_) (a' := ?_) #[true, false, false, false, false, true, false, false, false, false, true, false, false, false, false, false, true, false, false, false] rfl rfl (any_of HT_.out kr) (fun _ _ _ h => h) (Or.inl ⟨by rfl, ?_⟩) ?_ ?_
        rotate_left
        ·exact wl
        rotate_left
        ·exact ap
        refine take_ (i := 1) (N := some 4) (v := ?_) (a' := ?_) #[true, true, false, false, false, true, false, false, false, false, true, false, false, false, false, false, true, false, false, false] rfl rfl (take_ofW HT_.out HW_.out kr) (fun _ _ _ h => h) (Or.inl ⟨by rfl, ?_⟩) hHeld ?_ ?_
        rotate_left
        ·rintro w' ⟨s0, s1⟩
         go_simp
         exact rl
        rotate_left
        ·exact ap
        refine take_ (i := 6) (N := some 9) (v := ?_) (a' := ?_) #[true, true, false, false, false, true, true, false, false, false, true, false, false, false, false, false, true, false, false, false] rfl rfl (take_ofW HT_.out HW_.out kr) (fun _ _ _ h => h) (Or.inl ⟨by rfl, ?_⟩) hHeld ?_ ?_
        rotate_left
        ·rintro w' ⟨s0, s1⟩
         go_simp
         exact rl
        rotate_left
        ·exact ap
        refine take_ (i := 11) (N := some 14) (v := ?_) (a' := ?_) #[true, true, false, false, false, true, true, false, false, false, true, true, false, false, false, false, true, false, false, false] rfl rfl (take_ofW HT_.out HW_.out kr) (fun _ _ _ h => h) (Or.inl ⟨by rfl, ?_⟩) hHeld ?_ ?_
        rotate_left
        ·rintro w' ⟨s0, s1⟩
         go_simp
         exact rl
        rotate_left
        ·exact ap
        refine pure_ (i := 12) (N := some 15) (v := ?_) (a' := ?_) #[true, true, false, false, false, true, true, false, false, false, true, true, true, false, false, false, true, false, false, false] rfl rfl (any_of HT_.out kr) (fun _ _ _ h => h) (Or.inl ⟨by rfl, ?_⟩) ?_ ?_
        rotate_left
        ·exact wl
        rotate_left
        ·exact ap
        refine take_ (i := 17) (N := some 20) (v := ?_) (a' := ?_) #[true, true, false, false, false, true, true, false, false, false, true, true, true, false, false, false, true, true, false, false] rfl rfl (take_ofW HT_.out HW_.out kr) (fun _ _ _ h => h) (Or.inl ⟨by rfl, ?_⟩) hHeld ?_ ?_
        rotate_left
        ·rintro w' ⟨s0, s1⟩
         go_simp
         exact rl
        rotate_left
        ·exact ap
        refine one_ (i := 2) (N := some 5) #[true, true, true, false, false, true, true, false, false, false, true, true, true, false, false, false, true, true, false, false] rfl rfl (one_of HT_.out kr) (by decide) (fun K hK => ?_)
        refine goes_ Tryd.func12 kr rfl #[.int .i64 a0_0] (by rfl) rfl rfl ga ?_
        with_reducible refine (strconv_Itoa_12.calls a0_0 t217 _ ?side1 A2.out).mono ?_
        (case side1 => exact LaidU.below HU.out (bl HB.out))
        rintro e w14 ⟨rfl, hb⟩
        refine ⟨_, rfl, ?_⟩
        replace BK216 := Aside0.mk (blk_below (pk BK216.out) hb)
        replace HB := Aside0.mk (below_step (bl HB.out) hb)
        (try clear hb)
        (try clear hb2)
        (try clear hk)
        (try clear hi)
        refine hK.out _ _ ⟨(blk_cell BK216.out 0).trans rfl, (blk_cell BK216.out 1).trans rfl⟩ (fun hHeld => ?_)
        clear hK K
        refine norm_ (a' := ?_) ?_ ?_
        rotate_left
        ·show Act.put _ (some 5) _ = _
         exact ap
        refine pure_ (i := 3) (N := some 6) (v := ?_) (a' := ?_) #[true, true, true, true, false, true, true, false, false, false, true, true, true, false, false, false, true, true, false, false] rfl rfl (any_of HT_.out kr) (fun _ _ _ h => h) (Or.inl ⟨by rfl, ?_⟩) ?_ ?_
        rotate_left
        ·exact wl
        rotate_left
        ·exact ap
        refine pure_ (i := 4) (N := some 7) (v := ?_) (a' := ?_) #[true, true, true, true, true, true, true, false, false, false, true, true, true, false, false, false, true, true, false, false] rfl rfl (any_of HT_.out kr) (fun _ _ _ h => h) (Or.inl ⟨by rfl, ?_⟩) ?_ ?_
        rotate_left
        ·exact wl
        rotate_left
        ·exact ap
        refine one_ (i := 7) (N := some 10) #[true, true, true, true, true, true, true, true, false, false, true, true, true, false, false, false, true, true, false, false] rfl rfl (one_of HT_.out kr) (by decide) (fun K hK => ?_)
        refine goes_ Tryd.func13 kr rfl #[.int .i64 a0_0] (by rfl) rfl rfl ga ?_
        with_reducible refine (http_Reason.calls a0_0 t218 _ A5.out).mono ?_
        rintro e w' ⟨rfl, ⟨nd, rfl⟩⟩
        refine ⟨_, rfl, ?_⟩
        refine hK.out _ _ ⟨(blk_cell BK216.out 0).trans rfl, (blk_cell BK216.out 1).trans rfl⟩ (fun hHeld => ?_)
        clear hK K
        refine norm_ (a' := ?_) ?_ ?_
        rotate_left
        ·show Act.put _ (some 10) _ = _
         exact ap
        refine pure_ (i := 8) (N := some 11) (v := ?_) (a' := ?_) #[true, true, true, true, true, true, true, true, true, false, true, true, true, false, false, false, true, true, false, false] rfl rfl (any_of HT_.out kr) (fun _ _ _ h => h) (Or.inl ⟨by rfl, ?_⟩) ?_ ?_
        rotate_left
        ·exact wl
        rotate_left
        ·exact ap
        refine pure_ (i := 9) (N := some 12) (v := ?_) (a' := ?_) #[true, true, true, true, true, true, true, true, true, true, true, true, true, false, false, false, true, true, false, false] rfl rfl (any_of HT_.out kr) (fun _ _ _ h => h) (Or.inl ⟨by rfl, ?_⟩) ?_ ?_
        rotate_left
        ·exact wl
        rotate_left
        ·exact ap
        refine one_ (i := 13) (N := some 16) #[true, true, true, true, true, true, true, true, true, true, true, true, true, true, false, false, true, true, false, false] rfl rfl (one_of HT_.out kr) (by decide) (fun K hK => ?_)
        refine goes_ Tryd.func12 kr rfl #[.int .i64 (a0_1.size : Int)] (by rfl) rfl rfl ga ?_
        with_reducible refine (strconv_Itoa_12.calls (a0_1.size : Int) t219 _ ?side1 A8.out).mono ?_
        (case side1 => exact LaidU.below HU.out (bl HB.out))
        rintro e w15 ⟨rfl, hb⟩
        refine ⟨_, rfl, ?_⟩
        replace BK216 := Aside0.mk (blk_below (pk BK216.out) hb)
        replace HB := Aside0.mk (below_step (bl HB.out) hb)
        (try clear hb)
        (try clear hb2)
        (try clear hk)
        (try clear hi)
        refine hK.out _ _ ⟨(blk_cell BK216.out 0).trans rfl, (blk_cell BK216.out 1).trans rfl⟩ (fun hHeld => ?_)
        clear hK K
        refine norm_ (a' := ?_) ?_ ?_
        rotate_left
        ·show Act.put _ (some 16) _ = _
         exact ap
        refine pure_ (i := 14) (N := some 17) (v := ?_) (a' := ?_) #[true, true, true, true, true, true, true, true, true, true, true, true, true, true, true, false, true, true, false, false] rfl rfl (any_of HT_.out kr) (fun _ _ _ h => h) (Or.inl ⟨by rfl, ?_⟩) ?_ ?_
        rotate_left
        ·exact wl
        rotate_left
        ·exact ap
        refine pure_ (i := 15) (N := some 18) (v := ?_) (a' := ?_) #[true, true, true, true, true, true, true, true, true, true, true, true, true, true, true, true, true, true, false, false] rfl rfl (any_of HT_.out kr) (fun _ _ _ h => h) (Or.inl ⟨by rfl, ?_⟩) ?_ ?_
        rotate_left
        ·exact wl
        rotate_left
        ·exact ap
        refine pure_ (i := 18) (N := some 21) (v := ?_) (a' := ?_) #[true, true, true, true, true, true, true, true, true, true, true, true, true, true, true, true, true, true, true, false] rfl rfl (any_of HT_.out kr) (fun _ _ _ h => h) (Or.inl ⟨by rfl, ?_⟩) ?_ ?_
        rotate_left
        ·exact wl
        rotate_left
        ·exact ap
        refine pure_ (i := 19) (N := some 2) (v := ?_) (a' := ?_) #[true, true, true, true, true, true, true, true, true, true, true, true, true, true, true, true, true, true, true, true] rfl rfl (any_of HT_.out kr) (fun _ _ _ h => h) (Or.inl ⟨by rfl, ?_⟩) ?_ ?_
        rotate_left
        ·exact wl
        rotate_left
        ·exact ap
        refine done_ (done_of HT_.out kr) ?_
        try go_wp2
        go_ret
        exact ⟨er0, bl HB.out⟩
       ·rw [if_neg c11] at H
        exact absurd H (by simp)
      ·rw [if_neg c10] at H
       exact absurd H (by simp)
     ·rw [if_neg c9] at H
      exact absurd H (by simp)
    ·rw [if_neg c7] at H
     exact absurd H (by simp)
   ·rw [if_neg c6] at H
    exact absurd H (by simp)
  ·rw [if_neg c4] at H
   exact absurd H (by simp)
 ·rw [if_neg c3] at H
  exact absurd H (by simp)

/-! ### lodestarlaw04_sure: function 7 -/
def lodestarlaw04_sure.f (k : Nat)  : Option (Bool) := (http_Parse.f k (⟨#[80, 79, 83, 84, 32, 47, 113, 32, 72, 84, 84, 80, 47, 49, 46, 49, 13, 10, 99, 111, 110, 116, 101, 110, 116, 45, 76, 69, 78, 71, 84, 72, 58, 32, 50, 13, 10, 88, 45, 121, 58, 122, 13, 10, 13, 10, 123, 125]⟩ : ByteArray)).bind fun bt220 => ((http_Parse.f k (⟨#[71, 69, 84, 32, 47, 32, 72, 84, 84, 80, 47, 49, 46, 48, 13, 10, 13, 10]⟩ : ByteArray)).bind fun bt225 => ((http_Parse.f k (⟨#[71, 69, 84, 32, 47, 32, 72, 84, 84, 80, 47, 49, 46, 49, 13, 10, 67, 111, 110, 116, 101, 110, 116, 45, 76, 101, 110, 103, 116, 104, 58, 32, 50, 54, 50, 49, 52, 53, 13, 10, 13, 10]⟩ : ByteArray)).bind fun bt230 => ((http_Write.f k (⟨#[71, 69, 84]⟩ : ByteArray) (⟨#[47, 97]⟩ : ByteArray) (⟨#[]⟩ : ByteArray)).bind fun bt235 => (if (bt220.1.toList == ([80, 79, 83, 84] : List UInt8) && (bt220.2.1.toList == ([47, 113] : List UInt8) && (bt220.2.2.1.toList == ([123, 125] : List UInt8)))) = true then (if bt220.2.2.2 = 0 then (if bt225.2.2.2 = 40 then (if bt230.2.2.2 = 41 then (if bt235.1.toList = ([71, 69, 84, 32, 47, 97, 32, 72, 84, 84, 80, 47, 49, 46, 49, 13, 10, 67, 111, 110, 116, 101, 110, 116, 45, 76, 101, 110, 103, 116, 104, 58, 32, 48, 13, 10, 13, 10] : List UInt8) then (if bt235.2 = 0 then ((http_Reason.f 507).bind fun t237 => (if t237.toList = ([73, 110, 115, 117, 102, 102, 105, 99, 105, 101, 110, 116, 32, 83, 116, 111, 114, 97, 103, 101] : List UInt8) then ((http_Print.f 404 (⟨#[123, 125]⟩ : ByteArray)).bind fun t238 => (some (t238.toList == ([72, 84, 84, 80, 47, 49, 46, 49, 32, 52, 48, 52, 32, 78, 111, 116, 32, 70, 111, 117, 110, 100, 13, 10, 67, 111, 110, 116, 101, 110, 116, 45, 84, 121, 112, 101, 58, 32, 97, 112, 112, 108, 105, 99, 97, 116, 105, 111, 110, 47, 106, 115, 111, 110, 13, 10, 67, 111, 110, 116, 101, 110, 116, 45, 76, 101, 110, 103, 116, 104, 58, 32, 50, 13, 10, 13, 10, 123, 125] : List UInt8)))) else (some false))) else (some false)) else (some false)) else (some false)) else (some false)) else (some false)) else (some false)))))
theorem lodestarlaw04_sure.mono : ∀ k, LeO (lodestarlaw04_sure.f k ) (lodestarlaw04_sure.f (k + 1) ) := by
 intro  k
 unfold lodestarlaw04_sure.f
 repeat' first
   | (with_reducible exact http_Parse.mono _ _)
   | (with_reducible exact http_Write.mono _ _ _ _)
   | (with_reducible exact LeO.refl _)
   | (with_reducible exact LeO.none _)
   | (with_reducible refine LeO.ite ?_ ?_)
   | (with_reducible refine LeO.bind ?_ (fun _ => ?_))
   | exact http_Parse.mono _ _
   | exact http_Write.mono _ _ _ _
   | exact LeO.none _
   | refine LeO.ite ?_ ?_
   | refine LeO.bind ?_ (fun _ => ?_)
set_option maxHeartbeats 8000000 in
set_option maxRecDepth 100000 in
theorem lodestarlaw04_sure.calls (k : Nat)  (r : Bool) (w : World) (hU : LaidU w) (h : lodestarlaw04_sure.f k  = some r) :
  Calls Tryd.prog 7 #[] w fun e w' => e = .returned (.bool r) ∧ Below w.heap.size w w' := by
 have hu23 := Tryd.underlying23
 have hu38 := Tryd.underlying38
 have HU := Aside0.mk hU
 clear hU
 have HB := Aside0.mk (Below.refl w.heap.size w)
 have H : ((http_Parse.f k (⟨#[80, 79, 83, 84, 32, 47, 113, 32, 72, 84, 84, 80, 47, 49, 46, 49, 13, 10, 99, 111, 110, 116, 101, 110, 116, 45, 76, 69, 78, 71, 84, 72, 58, 32, 50, 13, 10, 88, 45, 121, 58, 122, 13, 10, 13, 10, 123, 125]⟩ : ByteArray)).bind fun bt220 => ((http_Parse.f k (⟨#[71, 69, 84, 32, 47, 32, 72, 84, 84, 80, 47, 49, 46, 48, 13, 10, 13, 10]⟩ : ByteArray)).bind fun bt225 => ((http_Parse.f k (⟨#[71, 69, 84, 32, 47, 32, 72, 84, 84, 80, 47, 49, 46, 49, 13, 10, 67, 111, 110, 116, 101, 110, 116, 45, 76, 101, 110, 103, 116, 104, 58, 32, 50, 54, 50, 49, 52, 53, 13, 10, 13, 10]⟩ : ByteArray)).bind fun bt230 => ((http_Write.f k (⟨#[71, 69, 84]⟩ : ByteArray) (⟨#[47, 97]⟩ : ByteArray) (⟨#[]⟩ : ByteArray)).bind fun bt235 => (if (bt220.1.toList == ([80, 79, 83, 84] : List UInt8) && (bt220.2.1.toList == ([47, 113] : List UInt8) && (bt220.2.2.1.toList == ([123, 125] : List UInt8)))) = true then (if bt220.2.2.2 = 0 then (if bt225.2.2.2 = 40 then (if bt230.2.2.2 = 41 then (if bt235.1.toList = ([71, 69, 84, 32, 47, 97, 32, 72, 84, 84, 80, 47, 49, 46, 49, 13, 10, 67, 111, 110, 116, 101, 110, 116, 45, 76, 101, 110, 103, 116, 104, 58, 32, 48, 13, 10, 13, 10] : List UInt8) then (if bt235.2 = 0 then ((http_Reason.f 507).bind fun t237 => (if t237.toList = ([73, 110, 115, 117, 102, 102, 105, 99, 105, 101, 110, 116, 32, 83, 116, 111, 114, 97, 103, 101] : List UInt8) then ((http_Print.f 404 (⟨#[123, 125]⟩ : ByteArray)).bind fun t238 => (some (t238.toList == ([72, 84, 84, 80, 47, 49, 46, 49, 32, 52, 48, 52, 32, 78, 111, 116, 32, 70, 111, 117, 110, 100, 13, 10, 67, 111, 110, 116, 101, 110, 116, 45, 84, 121, 112, 101, 58, 32, 97, 112, 112, 108, 105, 99, 97, 116, 105, 111, 110, 47, 106, 115, 111, 110, 13, 10, 67, 111, 110, 116, 101, 110, 116, 45, 76, 101, 110, 103, 116, 104, 58, 32, 50, 13, 10, 13, 10, 123, 125] : List UInt8)))) else (some false))) else (some false)) else (some false)) else (some false)) else (some false)) else (some false)) else (some false)))))) = some r := h
 clear h
 replace H := Option.bind_eq_some_iff.mp H
 obtain ⟨⟨t220, t221, t222, t223⟩, A10, H⟩ := H
 replace H : ((http_Parse.f k (⟨#[71, 69, 84, 32, 47, 32, 72, 84, 84, 80, 47, 49, 46, 48, 13, 10, 13, 10]⟩ : ByteArray)).bind fun bt225 => ((http_Parse.f k (⟨#[71, 69, 84, 32, 47, 32, 72, 84, 84, 80, 47, 49, 46, 49, 13, 10, 67, 111, 110, 116, 101, 110, 116, 45, 76, 101, 110, 103, 116, 104, 58, 32, 50, 54, 50, 49, 52, 53, 13, 10, 13, 10]⟩ : ByteArray)).bind fun bt230 => ((http_Write.f k (⟨#[71, 69, 84]⟩ : ByteArray) (⟨#[47, 97]⟩ : ByteArray) (⟨#[]⟩ : ByteArray)).bind fun bt235 => (if (t220.toList == ([80, 79, 83, 84] : List UInt8) && (t221.toList == ([47, 113] : List UInt8) && (t222.toList == ([123, 125] : List UInt8)))) = true then (if t223 = 0 then (if bt225.2.2.2 = 40 then (if bt230.2.2.2 = 41 then (if bt235.1.toList = ([71, 69, 84, 32, 47, 97, 32, 72, 84, 84, 80, 47, 49, 46, 49, 13, 10, 67, 111, 110, 116, 101, 110, 116, 45, 76, 101, 110, 103, 116, 104, 58, 32, 48, 13, 10, 13, 10] : List UInt8) then (if bt235.2 = 0 then ((http_Reason.f 507).bind fun t237 => (if t237.toList = ([73, 110, 115, 117, 102, 102, 105, 99, 105, 101, 110, 116, 32, 83, 116, 111, 114, 97, 103, 101] : List UInt8) then ((http_Print.f 404 (⟨#[123, 125]⟩ : ByteArray)).bind fun t238 => (some (t238.toList == ([72, 84, 84, 80, 47, 49, 46, 49, 32, 52, 48, 52, 32, 78, 111, 116, 32, 70, 111, 117, 110, 100, 13, 10, 67, 111, 110, 116, 101, 110, 116, 45, 84, 121, 112, 101, 58, 32, 97, 112, 112, 108, 105, 99, 97, 116, 105, 111, 110, 47, 106, 115, 111, 110, 13, 10, 67, 111, 110, 116, 101, 110, 116, 45, 76, 101, 110, 103, 116, 104, 58, 32, 50, 13, 10, 13, 10, 123, 125] : List UInt8)))) else (some false))) else (some false)) else (some false)) else (some false)) else (some false)) else (some false)) else (some false))))) = some r := H
 have A1 := Aside0.mk A10
 clear A10
 replace H := Option.bind_eq_some_iff.mp H
 obtain ⟨⟨t225, t226, t227, t228⟩, A20, H⟩ := H
 replace H : ((http_Parse.f k (⟨#[71, 69, 84, 32, 47, 32, 72, 84, 84, 80, 47, 49, 46, 49, 13, 10, 67, 111, 110, 116, 101, 110, 116, 45, 76, 101, 110, 103, 116, 104, 58, 32, 50, 54, 50, 49, 52, 53, 13, 10, 13, 10]⟩ : ByteArray)).bind fun bt230 => ((http_Write.f k (⟨#[71, 69, 84]⟩ : ByteArray) (⟨#[47, 97]⟩ : ByteArray) (⟨#[]⟩ : ByteArray)).bind fun bt235 => (if (t220.toList == ([80, 79, 83, 84] : List UInt8) && (t221.toList == ([47, 113] : List UInt8) && (t222.toList == ([123, 125] : List UInt8)))) = true then (if t223 = 0 then (if t228 = 40 then (if bt230.2.2.2 = 41 then (if bt235.1.toList = ([71, 69, 84, 32, 47, 97, 32, 72, 84, 84, 80, 47, 49, 46, 49, 13, 10, 67, 111, 110, 116, 101, 110, 116, 45, 76, 101, 110, 103, 116, 104, 58, 32, 48, 13, 10, 13, 10] : List UInt8) then (if bt235.2 = 0 then ((http_Reason.f 507).bind fun t237 => (if t237.toList = ([73, 110, 115, 117, 102, 102, 105, 99, 105, 101, 110, 116, 32, 83, 116, 111, 114, 97, 103, 101] : List UInt8) then ((http_Print.f 404 (⟨#[123, 125]⟩ : ByteArray)).bind fun t238 => (some (t238.toList == ([72, 84, 84, 80, 47, 49, 46, 49, 32, 52, 48, 52, 32, 78, 111, 116, 32, 70, 111, 117, 110, 100, 13, 10, 67, 111, 110, 116, 101, 110, 116, 45, 84, 121, 112, 101, 58, 32, 97, 112, 112, 108, 105, 99, 97, 116, 105, 111, 110, 47, 106, 115, 111, 110, 13, 10, 67, 111, 110, 116, 101, 110, 116, 45, 76, 101, 110, 103, 116, 104, 58, 32, 50, 13, 10, 13, 10, 123, 125] : List UInt8)))) else (some false))) else (some false)) else (some false)) else (some false)) else (some false)) else (some false)) else (some false)))) = some r := H
 have A2 := Aside0.mk A20
 clear A20
 replace H := Option.bind_eq_some_iff.mp H
 obtain ⟨⟨t230, t231, t232, t233⟩, A30, H⟩ := H
 replace H : ((http_Write.f k (⟨#[71, 69, 84]⟩ : ByteArray) (⟨#[47, 97]⟩ : ByteArray) (⟨#[]⟩ : ByteArray)).bind fun bt235 => (if (t220.toList == ([80, 79, 83, 84] : List UInt8) && (t221.toList == ([47, 113] : List UInt8) && (t222.toList == ([123, 125] : List UInt8)))) = true then (if t223 = 0 then (if t228 = 40 then (if t233 = 41 then (if bt235.1.toList = ([71, 69, 84, 32, 47, 97, 32, 72, 84, 84, 80, 47, 49, 46, 49, 13, 10, 67, 111, 110, 116, 101, 110, 116, 45, 76, 101, 110, 103, 116, 104, 58, 32, 48, 13, 10, 13, 10] : List UInt8) then (if bt235.2 = 0 then ((http_Reason.f 507).bind fun t237 => (if t237.toList = ([73, 110, 115, 117, 102, 102, 105, 99, 105, 101, 110, 116, 32, 83, 116, 111, 114, 97, 103, 101] : List UInt8) then ((http_Print.f 404 (⟨#[123, 125]⟩ : ByteArray)).bind fun t238 => (some (t238.toList == ([72, 84, 84, 80, 47, 49, 46, 49, 32, 52, 48, 52, 32, 78, 111, 116, 32, 70, 111, 117, 110, 100, 13, 10, 67, 111, 110, 116, 101, 110, 116, 45, 84, 121, 112, 101, 58, 32, 97, 112, 112, 108, 105, 99, 97, 116, 105, 111, 110, 47, 106, 115, 111, 110, 13, 10, 67, 111, 110, 116, 101, 110, 116, 45, 76, 101, 110, 103, 116, 104, 58, 32, 50, 13, 10, 13, 10, 123, 125] : List UInt8)))) else (some false))) else (some false)) else (some false)) else (some false)) else (some false)) else (some false)) else (some false))) = some r := H
 have A3 := Aside0.mk A30
 clear A30
 replace H := Option.bind_eq_some_iff.mp H
 obtain ⟨⟨t235, t236⟩, A40, H⟩ := H
 replace H : (if (t220.toList == ([80, 79, 83, 84] : List UInt8) && (t221.toList == ([47, 113] : List UInt8) && (t222.toList == ([123, 125] : List UInt8)))) = true then (if t223 = 0 then (if t228 = 40 then (if t233 = 41 then (if t235.toList = ([71, 69, 84, 32, 47, 97, 32, 72, 84, 84, 80, 47, 49, 46, 49, 13, 10, 67, 111, 110, 116, 101, 110, 116, 45, 76, 101, 110, 103, 116, 104, 58, 32, 48, 13, 10, 13, 10] : List UInt8) then (if t236 = 0 then ((http_Reason.f 507).bind fun t237 => (if t237.toList = ([73, 110, 115, 117, 102, 102, 105, 99, 105, 101, 110, 116, 32, 83, 116, 111, 114, 97, 103, 101] : List UInt8) then ((http_Print.f 404 (⟨#[123, 125]⟩ : ByteArray)).bind fun t238 => (some (t238.toList == ([72, 84, 84, 80, 47, 49, 46, 49, 32, 52, 48, 52, 32, 78, 111, 116, 32, 70, 111, 117, 110, 100, 13, 10, 67, 111, 110, 116, 101, 110, 116, 45, 84, 121, 112, 101, 58, 32, 97, 112, 112, 108, 105, 99, 97, 116, 105, 111, 110, 47, 106, 115, 111, 110, 13, 10, 67, 111, 110, 116, 101, 110, 116, 45, 76, 101, 110, 103, 116, 104, 58, 32, 50, 13, 10, 13, 10, 123, 125] : List UInt8)))) else (some false))) else (some false)) else (some false)) else (some false)) else (some false)) else (some false)) else (some false)) = some r := H
 have A4 := Aside0.mk A40
 clear A40
 by_cases c5 : (t220.toList == ([80, 79, 83, 84] : List UInt8) && (t221.toList == ([47, 113] : List UInt8) && (t222.toList == ([123, 125] : List UInt8)))) = true
 ·rw [if_pos c5] at H
  have c5b0 : (t220.toList == ([80, 79, 83, 84] : List UInt8) && (t221.toList == ([47, 113] : List UInt8) && (t222.toList == ([123, 125] : List UInt8)))) = true := c5
  (try (have c5b1 : decide (t220.toList = ([80, 79, 83, 84] : List UInt8) && (t221.toList == ([47, 113] : List UInt8) && (t222.toList == ([123, 125] : List UInt8)))) = true := by simpa using c5))
  (try (have c5b2 : (t220.toList == ([80, 79, 83, 84] : List UInt8) && (t221.toList == ([47, 113] : List UInt8) && (t222.toList == ([123, 125] : List UInt8)))) = true := by simpa using c5))
  clear c5
  by_cases c6 : t223 = 0
  ·rw [if_pos c6] at H
   have c6b0 : (t223 == 0) = true := beq_iff_eq.mpr c6
   have c6b1 : (t223 != 0) = false := bne_eq_false_iff_eq.mpr c6
   clear c6
   by_cases c7 : t228 = 40
   ·rw [if_pos c7] at H
    have c7b0 : (t228 == 40) = true := beq_iff_eq.mpr c7
    have c7b1 : (t228 != 40) = false := bne_eq_false_iff_eq.mpr c7
    clear c7
    by_cases c8 : t233 = 41
    ·rw [if_pos c8] at H
     have c8b0 : (t233 == 41) = true := beq_iff_eq.mpr c8
     have c8b1 : (t233 != 41) = false := bne_eq_false_iff_eq.mpr c8
     clear c8
     by_cases c9 : t235.toList = ([71, 69, 84, 32, 47, 97, 32, 72, 84, 84, 80, 47, 49, 46, 49, 13, 10, 67, 111, 110, 116, 101, 110, 116, 45, 76, 101, 110, 103, 116, 104, 58, 32, 48, 13, 10, 13, 10] : List UInt8)
     ·rw [if_pos c9] at H
      have c9b0 : (t235.toList == ([71, 69, 84, 32, 47, 97, 32, 72, 84, 84, 80, 47, 49, 46, 49, 13, 10, 67, 111, 110, 116, 101, 110, 116, 45, 76, 101, 110, 103, 116, 104, 58, 32, 48, 13, 10, 13, 10] : List UInt8)) = true := beq_iff_eq.mpr c9
      have c9b1 : (t235.toList != ([71, 69, 84, 32, 47, 97, 32, 72, 84, 84, 80, 47, 49, 46, 49, 13, 10, 67, 111, 110, 116, 101, 110, 116, 45, 76, 101, 110, 103, 116, 104, 58, 32, 48, 13, 10, 13, 10] : List UInt8)) = false := bne_eq_false_iff_eq.mpr c9
      clear c9
      by_cases c10 : t236 = 0
      ·rw [if_pos c10] at H
       have c10b0 : (t236 == 0) = true := beq_iff_eq.mpr c10
       have c10b1 : (t236 != 0) = false := bne_eq_false_iff_eq.mpr c10
       clear c10
       replace H := Option.bind_eq_some_iff.mp H
       obtain ⟨t237, A110, H⟩ := H
       replace H : (if t237.toList = ([73, 110, 115, 117, 102, 102, 105, 99, 105, 101, 110, 116, 32, 83, 116, 111, 114, 97, 103, 101] : List UInt8) then ((http_Print.f 404 (⟨#[123, 125]⟩ : ByteArray)).bind fun t238 => (some (t238.toList == ([72, 84, 84, 80, 47, 49, 46, 49, 32, 52, 48, 52, 32, 78, 111, 116, 32, 70, 111, 117, 110, 100, 13, 10, 67, 111, 110, 116, 101, 110, 116, 45, 84, 121, 112, 101, 58, 32, 97, 112, 112, 108, 105, 99, 97, 116, 105, 111, 110, 47, 106, 115, 111, 110, 13, 10, 67, 111, 110, 116, 101, 110, 116, 45, 76, 101, 110, 103, 116, 104, 58, 32, 50, 13, 10, 13, 10, 123, 125] : List UInt8)))) else (some false)) = some r := H
       have A11 := Aside0.mk A110
       clear A110
       by_cases c12 : t237.toList = ([73, 110, 115, 117, 102, 102, 105, 99, 105, 101, 110, 116, 32, 83, 116, 111, 114, 97, 103, 101] : List UInt8)
       ·rw [if_pos c12] at H
        have c12b0 : (t237.toList == ([73, 110, 115, 117, 102, 102, 105, 99, 105, 101, 110, 116, 32, 83, 116, 111, 114, 97, 103, 101] : List UInt8)) = true := beq_iff_eq.mpr c12
        have c12b1 : (t237.toList != ([73, 110, 115, 117, 102, 102, 105, 99, 105, 101, 110, 116, 32, 83, 116, 111, 114, 97, 103, 101] : List UInt8)) = false := bne_eq_false_iff_eq.mpr c12
        clear c12
        replace H := Option.bind_eq_some_iff.mp H
        obtain ⟨t238, A130, H⟩ := H
        replace H : (some (t238.toList == ([72, 84, 84, 80, 47, 49, 46, 49, 32, 52, 48, 52, 32, 78, 111, 116, 32, 70, 111, 117, 110, 100, 13, 10, 67, 111, 110, 116, 101, 110, 116, 45, 84, 121, 112, 101, 58, 32, 97, 112, 112, 108, 105, 99, 97, 116, 105, 111, 110, 47, 106, 115, 111, 110, 13, 10, 67, 111, 110, 116, 101, 110, 116, 45, 76, 101, 110, 103, 116, 104, 58, 32, 50, 13, 10, 13, 10, 123, 125] : List UInt8))) = some r := H
        have A13 := Aside0.mk A130
        clear A130
        obtain rfl := Option.some.inj H
        go_enter Tryd.func7, Tryd.ntmps7
        go_wp2_with (first | ((with_reducible refine gate_callee (f := 8) rfl ?_); refine goesL_ (some 10) rfl rfl Tryd.func8 kr rfl #[.string (⟨#[80, 79, 83, 84, 32, 47, 113, 32, 72, 84, 84, 80, 47, 49, 46, 49, 13, 10, 99, 111, 110, 116, 101, 110, 116, 45, 76, 69, 78, 71, 84, 72, 58, 32, 50, 13, 10, 88, 45, 121, 58, 122, 13, 10, 13, 10, 123, 125]⟩ : ByteArray)] rfl ga ?_; (with_reducible refine (http_Parse.calls k (⟨#[80, 79, 83, 84, 32, 47, 113, 32, 72, 84, 84, 80, 47, 49, 46, 49, 13, 10, 99, 111, 110, 116, 101, 110, 116, 45, 76, 69, 78, 71, 84, 72, 58, 32, 50, 13, 10, 88, 45, 121, 58, 122, 13, 10, 13, 10, 123, 125]⟩ : ByteArray) t220 t221 t222 t223 _ ?side1 A1.out).mono ?_); (case side1 => exact LaidU.below HU.out (bl HB.out)); rintro e w14 ⟨rfl, hb⟩; refine ⟨_, rfl, ?_⟩; replace HB := Aside0.mk (below_step (bl HB.out) hb); (try clear hb); (try clear hb2); (try clear hk); (try clear hi)) | ((with_reducible refine gate_dst (N := 1) rfl ?_); refine box_event ?hg (N := 1) ?hd (cs := #[.string (⟨#[]⟩ : ByteArray), .string (⟨#[]⟩ : ByteArray), .string (⟨#[]⟩ : ByteArray)]) (t := 23) ?hr ?_; (case hd => rfl); (case hg => rfl); (case hr => first | (go_simp; done) | (go_simp; rfl)); intro gb224 hg w15 hbox hb; have BK224 := Aside0.mk (hbox); have GW224 := Aside0.mk (gs (w := w) hg (bl HB.out)); have GE224 := Aside0.mk (gs (w := w) hg (bl HB.out)); replace HB := Aside0.mk (below_step (bl HB.out) hb); clear hb hbox hg; obtain ⟨hcz16_0, hcz16_1, hcz16_2, hfz16_0, hfz16_1, hfz16_2⟩ := cz3 BK224.out) | ((with_reducible refine gate_callee (f := 8) rfl ?_); refine goesL_ (some 14) rfl rfl Tryd.func8 kr rfl #[.string (⟨#[71, 69, 84, 32, 47, 32, 72, 84, 84, 80, 47, 49, 46, 48, 13, 10, 13, 10]⟩ : ByteArray)] rfl ga ?_; (with_reducible refine (http_Parse.calls k (⟨#[71, 69, 84, 32, 47, 32, 72, 84, 84, 80, 47, 49, 46, 48, 13, 10, 13, 10]⟩ : ByteArray) t225 t226 t227 t228 _ ?side1 A2.out).mono ?_); (case side1 => exact LaidU.below HU.out (bl HB.out)); rintro e w17 ⟨rfl, hb⟩; refine ⟨_, rfl, ?_⟩; replace BK224 := Aside0.mk (blk_below (g := gb224) (o := .cells #[.string t220, .string t221, .string t222] 23 (0, 0)) (by refine pk ?_; refine blk_put (cs := #[.string t220, .string t221, .string (⟨#[]⟩ : ByteArray)]) ?_ 2 _ rfl; refine pk ?_; refine blk_put (cs := #[.string t220, .string (⟨#[]⟩ : ByteArray), .string (⟨#[]⟩ : ByteArray)]) ?_ 1 _ rfl; refine pk ?_; refine blk_put (cs := #[.string (⟨#[]⟩ : ByteArray), .string (⟨#[]⟩ : ByteArray), .string (⟨#[]⟩ : ByteArray)]) ?_ 0 _ rfl; exact pk BK224.out) hb); replace HB := Aside0.mk (below_step (bl HB.out) hb); (try clear hb); (try clear hb2); (try clear hk); (try clear hi)) | ((with_reducible refine gate_dst (N := 3) rfl ?_); refine box_event ?hg (N := 3) ?hd (cs := #[.string (⟨#[]⟩ : ByteArray), .string (⟨#[]⟩ : ByteArray), .string (⟨#[]⟩ : ByteArray)]) (t := 23) ?hr ?_; (case hd => rfl); (case hg => rfl); (case hr => first | (go_simp; done) | (go_simp; rfl)); intro gb229 hg w18 hbox hb; have BK229 := Aside0.mk (hbox); have GW229 := Aside0.mk (gs (w := w) hg (bl HB.out)); have GE229 := Aside0.mk (gs (w := w) hg (bl HB.out)); replace HB := Aside0.mk (below_step (bl HB.out) hb); have NB224_229 := Aside0.mk ((gl (g := gb224) hg (pk BK224.out))); have NB229_224 := Aside0.mk ((gm (g := gb224) hg (pk BK224.out))); replace BK224 := Aside0.mk (blk_below (pk BK224.out) hb); clear hb hbox hg; have hnb19 := NB229_224.out; have hnc19 := NB224_229.out; obtain ⟨hcz20_0, hcz20_1, hcz20_2, hfz20_0, hfz20_1, hfz20_2⟩ := cz3 BK229.out) | ((with_reducible refine gate_callee (f := 8) rfl ?_); refine goesL_ (some 18) rfl rfl Tryd.func8 kr rfl #[.string (⟨#[71, 69, 84, 32, 47, 32, 72, 84, 84, 80, 47, 49, 46, 49, 13, 10, 67, 111, 110, 116, 101, 110, 116, 45, 76, 101, 110, 103, 116, 104, 58, 32, 50, 54, 50, 49, 52, 53, 13, 10, 13, 10]⟩ : ByteArray)] rfl ga ?_; (with_reducible refine (http_Parse.calls k (⟨#[71, 69, 84, 32, 47, 32, 72, 84, 84, 80, 47, 49, 46, 49, 13, 10, 67, 111, 110, 116, 101, 110, 116, 45, 76, 101, 110, 103, 116, 104, 58, 32, 50, 54, 50, 49, 52, 53, 13, 10, 13, 10]⟩ : ByteArray) t230 t231 t232 t233 _ ?side1 A3.out).mono ?_); (case side1 => exact LaidU.below HU.out (bl HB.out)); rintro e w21 ⟨rfl, hb⟩; refine ⟨_, rfl, ?_⟩; replace BK224 := Aside0.mk (blk_below (g := gb224) (o := .cells #[.string t220, .string t221, .string t222] 23 (0, 0)) (by refine pk ?_; refine blk_far ?_ NB224_229.out _; refine pk ?_; refine blk_far ?_ NB224_229.out _; refine pk ?_; refine blk_far ?_ NB224_229.out _; exact pk BK224.out) hb); replace BK229 := Aside0.mk (blk_below (g := gb229) (o := .cells #[.string t225, .string t226, .string t227] 23 (0, 0)) (by refine pk ?_; refine blk_put (cs := #[.string t225, .string t226, .string (⟨#[]⟩ : ByteArray)]) ?_ 2 _ rfl; refine pk ?_; refine blk_put (cs := #[.string t225, .string (⟨#[]⟩ : ByteArray), .string (⟨#[]⟩ : ByteArray)]) ?_ 1 _ rfl; refine pk ?_; refine blk_put (cs := #[.string (⟨#[]⟩ : ByteArray), .string (⟨#[]⟩ : ByteArray), .string (⟨#[]⟩ : ByteArray)]) ?_ 0 _ rfl; exact pk BK229.out) hb); replace HB := Aside0.mk (below_step (bl HB.out) hb); (try clear hb); (try clear hb2); (try clear hk); (try clear hi)) | ((with_reducible refine gate_dst (N := 5) rfl ?_); refine box_event ?hg (N := 5) ?hd (cs := #[.string (⟨#[]⟩ : ByteArray), .string (⟨#[]⟩ : ByteArray), .string (⟨#[]⟩ : ByteArray)]) (t := 23) ?hr ?_; (case hd => rfl); (case hg => rfl); (case hr => first | (go_simp; done) | (go_simp; rfl)); intro gb234 hg w22 hbox hb; have BK234 := Aside0.mk (hbox); have GW234 := Aside0.mk (gs (w := w) hg (bl HB.out)); have GE234 := Aside0.mk (gs (w := w) hg (bl HB.out)); replace HB := Aside0.mk (below_step (bl HB.out) hb); have NB224_234 := Aside0.mk ((gl (g := gb224) hg (pk BK224.out))); have NB234_224 := Aside0.mk ((gm (g := gb224) hg (pk BK224.out))); replace BK224 := Aside0.mk (blk_below (pk BK224.out) hb); have NB229_234 := Aside0.mk ((gl (g := gb229) hg (pk BK229.out))); have NB234_229 := Aside0.mk ((gm (g := gb229) hg (pk BK229.out))); replace BK229 := Aside0.mk (blk_below (pk BK229.out) hb); clear hb hbox hg; have hnb23 := NB234_224.out; have hnc23 := NB224_234.out; have hnb24 := NB234_229.out; have hnc24 := NB229_234.out; obtain ⟨hcz25_0, hcz25_1, hcz25_2, hfz25_0, hfz25_1, hfz25_2⟩ := cz3 BK234.out) | ((with_reducible refine gate_callee (f := 6) rfl ?_); refine goesL_ (some 23) rfl rfl Tryd.func6 kr rfl #[.agg #[.string (⟨#[71, 69, 84]⟩ : ByteArray), .string (⟨#[47, 97]⟩ : ByteArray), .string (⟨#[]⟩ : ByteArray)]] rfl ga ?_; (with_reducible refine (http_Write.calls k (⟨#[71, 69, 84]⟩ : ByteArray) (⟨#[47, 97]⟩ : ByteArray) (⟨#[]⟩ : ByteArray) t235 t236 _ ?side1 A4.out).mono ?_); (case side1 => exact LaidU.below HU.out (bl HB.out)); rintro e w26 ⟨rfl, hb⟩; refine ⟨_, rfl, ?_⟩; replace BK224 := Aside0.mk (blk_below (g := gb224) (o := .cells #[.string t220, .string t221, .string t222] 23 (0, 0)) (by refine pk ?_; refine blk_far ?_ NB224_234.out _; refine pk ?_; refine blk_far ?_ NB224_234.out _; refine pk ?_; refine blk_far ?_ NB224_234.out _; exact pk BK224.out) hb); replace BK229 := Aside0.mk (blk_below (g := gb229) (o := .cells #[.string t225, .string t226, .string t227] 23 (0, 0)) (by refine pk ?_; refine blk_far ?_ NB229_234.out _; refine pk ?_; refine blk_far ?_ NB229_234.out _; refine pk ?_; refine blk_far ?_ NB229_234.out _; exact pk BK229.out) hb); replace BK234 := Aside0.mk (blk_below (g := gb234) (o := .cells #[.string t230, .string t231, .string t232] 23 (0, 0)) (by refine pk ?_; refine blk_put (cs := #[.string t230, .string t231, .string (⟨#[]⟩ : ByteArray)]) ?_ 2 _ rfl; refine pk ?_; refine blk_put (cs := #[.string t230, .string (⟨#[]⟩ : ByteArray), .string (⟨#[]⟩ : ByteArray)]) ?_ 1 _ rfl; refine pk ?_; refine blk_put (cs := #[.string (⟨#[]⟩ : ByteArray), .string (⟨#[]⟩ : ByteArray), .string (⟨#[]⟩ : ByteArray)]) ?_ 0 _ rfl; exact pk BK234.out) hb); replace HB := Aside0.mk (below_step (bl HB.out) hb); (try clear hb); (try clear hb2); (try clear hk); (try clear hi); obtain ⟨hcz27_0, hcz27_1, hcz27_2, hfz27_0, hfz27_1, hfz27_2⟩ := cz3 BK224.out) | (go_at_call 13; (with_reducible refine (http_Reason.calls 507 t237 _ A11.out).mono ?_); rintro e w' ⟨rfl, ⟨nd, rfl⟩⟩) | (go_at_call 14; (with_reducible refine (http_Print.calls 404 (⟨#[123, 125]⟩ : ByteArray) t238 _ ?side1 A13.out).mono ?_); (case side1 => exact LaidU.below HU.out (bl HB.out)); rintro e w28 ⟨rfl, hb⟩; replace BK224 := Aside0.mk (blk_below (pk BK224.out) hb); replace BK229 := Aside0.mk (blk_below (pk BK229.out) hb); replace BK234 := Aside0.mk (blk_below (pk BK234.out) hb); replace HB := Aside0.mk (below_step (bl HB.out) hb); (try clear hb); (try clear hb2); (try clear hk); (try clear hi)))
        go_ret
        exact ⟨er0, bl HB.out⟩
       ·rw [if_neg c12] at H
        have c12b0 : (t237.toList == ([73, 110, 115, 117, 102, 102, 105, 99, 105, 101, 110, 116, 32, 83, 116, 111, 114, 97, 103, 101] : List UInt8)) = false := beq_eq_false_iff_ne.mpr c12
        have c12b1 : (t237.toList != ([73, 110, 115, 117, 102, 102, 105, 99, 105, 101, 110, 116, 32, 83, 116, 111, 114, 97, 103, 101] : List UInt8)) = true := bne_iff_ne.mpr c12
        obtain rfl := Option.some.inj H
        go_enter Tryd.func7, Tryd.ntmps7
        go_wp2_with (first | ((with_reducible refine gate_callee (f := 8) rfl ?_); refine goesL_ (some 10) rfl rfl Tryd.func8 kr rfl #[.string (⟨#[80, 79, 83, 84, 32, 47, 113, 32, 72, 84, 84, 80, 47, 49, 46, 49, 13, 10, 99, 111, 110, 116, 101, 110, 116, 45, 76, 69, 78, 71, 84, 72, 58, 32, 50, 13, 10, 88, 45, 121, 58, 122, 13, 10, 13, 10, 123, 125]⟩ : ByteArray)] rfl ga ?_; (with_reducible refine (http_Parse.calls k (⟨#[80, 79, 83, 84, 32, 47, 113, 32, 72, 84, 84, 80, 47, 49, 46, 49, 13, 10, 99, 111, 110, 116, 101, 110, 116, 45, 76, 69, 78, 71, 84, 72, 58, 32, 50, 13, 10, 88, 45, 121, 58, 122, 13, 10, 13, 10, 123, 125]⟩ : ByteArray) t220 t221 t222 t223 _ ?side1 A1.out).mono ?_); (case side1 => exact LaidU.below HU.out (bl HB.out)); rintro e w29 ⟨rfl, hb⟩; refine ⟨_, rfl, ?_⟩; replace HB := Aside0.mk (below_step (bl HB.out) hb); (try clear hb); (try clear hb2); (try clear hk); (try clear hi)) | ((with_reducible refine gate_dst (N := 1) rfl ?_); refine box_event ?hg (N := 1) ?hd (cs := #[.string (⟨#[]⟩ : ByteArray), .string (⟨#[]⟩ : ByteArray), .string (⟨#[]⟩ : ByteArray)]) (t := 23) ?hr ?_; (case hd => rfl); (case hg => rfl); (case hr => first | (go_simp; done) | (go_simp; rfl)); intro gb224 hg w30 hbox hb; have BK224 := Aside0.mk (hbox); have GW224 := Aside0.mk (gs (w := w) hg (bl HB.out)); have GE224 := Aside0.mk (gs (w := w) hg (bl HB.out)); replace HB := Aside0.mk (below_step (bl HB.out) hb); clear hb hbox hg; obtain ⟨hcz31_0, hcz31_1, hcz31_2, hfz31_0, hfz31_1, hfz31_2⟩ := cz3 BK224.out) | ((with_reducible refine gate_callee (f := 8) rfl ?_); refine goesL_ (some 14) rfl rfl Tryd.func8 kr rfl #[.string (⟨#[71, 69, 84, 32, 47, 32, 72, 84, 84, 80, 47, 49, 46, 48, 13, 10, 13, 10]⟩ : ByteArray)] rfl ga ?_; (with_reducible refine (http_Parse.calls k (⟨#[71, 69, 84, 32, 47, 32, 72, 84, 84, 80, 47, 49, 46, 48, 13, 10, 13, 10]⟩ : ByteArray) t225 t226 t227 t228 _ ?side1 A2.out).mono ?_); (case side1 => exact LaidU.below HU.out (bl HB.out)); rintro e w32 ⟨rfl, hb⟩; refine ⟨_, rfl, ?_⟩; replace BK224 := Aside0.mk (blk_below (g := gb224) (o := .cells #[.string t220, .string t221, .string t222] 23 (0, 0)) (by refine pk ?_; refine blk_put (cs := #[.string t220, .string t221, .string (⟨#[]⟩ : ByteArray)]) ?_ 2 _ rfl; refine pk ?_; refine blk_put (cs := #[.string t220, .string (⟨#[]⟩ : ByteArray), .string (⟨#[]⟩ : ByteArray)]) ?_ 1 _ rfl; refine pk ?_; refine blk_put (cs := #[.string (⟨#[]⟩ : ByteArray), .string (⟨#[]⟩ : ByteArray), .string (⟨#[]⟩ : ByteArray)]) ?_ 0 _ rfl; exact pk BK224.out) hb); replace HB := Aside0.mk (below_step (bl HB.out) hb); (try clear hb); (try clear hb2); (try clear hk); (try clear hi)) | ((with_reducible refine gate_dst (N := 3) rfl ?_); refine box_event ?hg (N := 3) ?hd (cs := #[.string (⟨#[]⟩ : ByteArray), .string (⟨#[]⟩ : ByteArray), .string (⟨#[]⟩ : ByteArray)]) (t := 23) ?hr ?_; (case hd => rfl); (case hg => rfl); (case hr => first | (go_simp; done) | (go_simp; rfl)); intro gb229 hg w33 hbox hb; have BK229 := Aside0.mk (hbox); have GW229 := Aside0.mk (gs (w := w) hg (bl HB.out)); have GE229 := Aside0.mk (gs (w := w) hg (bl HB.out)); replace HB := Aside0.mk (below_step (bl HB.out) hb); have NB224_229 := Aside0.mk ((gl (g := gb224) hg (pk BK224.out))); have NB229_224 := Aside0.mk ((gm (g := gb224) hg (pk BK224.out))); replace BK224 := Aside0.mk (blk_below (pk BK224.out) hb); clear hb hbox hg; have hnb34 := NB229_224.out; have hnc34 := NB224_229.out; obtain ⟨hcz35_0, hcz35_1, hcz35_2, hfz35_0, hfz35_1, hfz35_2⟩ := cz3 BK229.out) | ((with_reducible refine gate_callee (f := 8) rfl ?_); refine goesL_ (some 18) rfl rfl Tryd.func8 kr rfl #[.string (⟨#[71, 69, 84, 32, 47, 32, 72, 84, 84, 80, 47, 49, 46, 49, 13, 10, 67, 111, 110, 116, 101, 110, 116, 45, 76, 101, 110, 103, 116, 104, 58, 32, 50, 54, 50, 49, 52, 53, 13, 10, 13, 10]⟩ : ByteArray)] rfl ga ?_; (with_reducible refine (http_Parse.calls k (⟨#[71, 69, 84, 32, 47, 32, 72, 84, 84, 80, 47, 49, 46, 49, 13, 10, 67, 111, 110, 116, 101, 110, 116, 45, 76, 101, 110, 103, 116, 104, 58, 32, 50, 54, 50, 49, 52, 53, 13, 10, 13, 10]⟩ : ByteArray) t230 t231 t232 t233 _ ?side1 A3.out).mono ?_); (case side1 => exact LaidU.below HU.out (bl HB.out)); rintro e w36 ⟨rfl, hb⟩; refine ⟨_, rfl, ?_⟩; replace BK224 := Aside0.mk (blk_below (g := gb224) (o := .cells #[.string t220, .string t221, .string t222] 23 (0, 0)) (by refine pk ?_; refine blk_far ?_ NB224_229.out _; refine pk ?_; refine blk_far ?_ NB224_229.out _; refine pk ?_; refine blk_far ?_ NB224_229.out _; exact pk BK224.out) hb); replace BK229 := Aside0.mk (blk_below (g := gb229) (o := .cells #[.string t225, .string t226, .string t227] 23 (0, 0)) (by refine pk ?_; refine blk_put (cs := #[.string t225, .string t226, .string (⟨#[]⟩ : ByteArray)]) ?_ 2 _ rfl; refine pk ?_; refine blk_put (cs := #[.string t225, .string (⟨#[]⟩ : ByteArray), .string (⟨#[]⟩ : ByteArray)]) ?_ 1 _ rfl; refine pk ?_; refine blk_put (cs := #[.string (⟨#[]⟩ : ByteArray), .string (⟨#[]⟩ : ByteArray), .string (⟨#[]⟩ : ByteArray)]) ?_ 0 _ rfl; exact pk BK229.out) hb); replace HB := Aside0.mk (below_step (bl HB.out) hb); (try clear hb); (try clear hb2); (try clear hk); (try clear hi)) | ((with_reducible refine gate_dst (N := 5) rfl ?_); refine box_event ?hg (N := 5) ?hd (cs := #[.string (⟨#[]⟩ : ByteArray), .string (⟨#[]⟩ : ByteArray), .string (⟨#[]⟩ : ByteArray)]) (t := 23) ?hr ?_; (case hd => rfl); (case hg => rfl); (case hr => first | (go_simp; done) | (go_simp; rfl)); intro gb234 hg w37 hbox hb; have BK234 := Aside0.mk (hbox); have GW234 := Aside0.mk (gs (w := w) hg (bl HB.out)); have GE234 := Aside0.mk (gs (w := w) hg (bl HB.out)); replace HB := Aside0.mk (below_step (bl HB.out) hb); have NB224_234 := Aside0.mk ((gl (g := gb224) hg (pk BK224.out))); have NB234_224 := Aside0.mk ((gm (g := gb224) hg (pk BK224.out))); replace BK224 := Aside0.mk (blk_below (pk BK224.out) hb); have NB229_234 := Aside0.mk ((gl (g := gb229) hg (pk BK229.out))); have NB234_229 := Aside0.mk ((gm (g := gb229) hg (pk BK229.out))); replace BK229 := Aside0.mk (blk_below (pk BK229.out) hb); clear hb hbox hg; have hnb38 := NB234_224.out; have hnc38 := NB224_234.out; have hnb39 := NB234_229.out; have hnc39 := NB229_234.out; obtain ⟨hcz40_0, hcz40_1, hcz40_2, hfz40_0, hfz40_1, hfz40_2⟩ := cz3 BK234.out) | ((with_reducible refine gate_callee (f := 6) rfl ?_); refine goesL_ (some 23) rfl rfl Tryd.func6 kr rfl #[.agg #[.string (⟨#[71, 69, 84]⟩ : ByteArray), .string (⟨#[47, 97]⟩ : ByteArray), .string (⟨#[]⟩ : ByteArray)]] rfl ga ?_; (with_reducible refine (http_Write.calls k (⟨#[71, 69, 84]⟩ : ByteArray) (⟨#[47, 97]⟩ : ByteArray) (⟨#[]⟩ : ByteArray) t235 t236 _ ?side1 A4.out).mono ?_); (case side1 => exact LaidU.below HU.out (bl HB.out)); rintro e w41 ⟨rfl, hb⟩; refine ⟨_, rfl, ?_⟩; replace BK224 := Aside0.mk (blk_below (g := gb224) (o := .cells #[.string t220, .string t221, .string t222] 23 (0, 0)) (by refine pk ?_; refine blk_far ?_ NB224_234.out _; refine pk ?_; refine blk_far ?_ NB224_234.out _; refine pk ?_; refine blk_far ?_ NB224_234.out _; exact pk BK224.out) hb); replace BK229 := Aside0.mk (blk_below (g := gb229) (o := .cells #[.string t225, .string t226, .string t227] 23 (0, 0)) (by refine pk ?_; refine blk_far ?_ NB229_234.out _; refine pk ?_; refine blk_far ?_ NB229_234.out _; refine pk ?_; refine blk_far ?_ NB229_234.out _; exact pk BK229.out) hb); replace BK234 := Aside0.mk (blk_below (g := gb234) (o := .cells #[.string t230, .string t231, .string t232] 23 (0, 0)) (by refine pk ?_; refine blk_put (cs := #[.string t230, .string t231, .string (⟨#[]⟩ : ByteArray)]) ?_ 2 _ rfl; refine pk ?_; refine blk_put (cs := #[.string t230, .string (⟨#[]⟩ : ByteArray), .string (⟨#[]⟩ : ByteArray)]) ?_ 1 _ rfl; refine pk ?_; refine blk_put (cs := #[.string (⟨#[]⟩ : ByteArray), .string (⟨#[]⟩ : ByteArray), .string (⟨#[]⟩ : ByteArray)]) ?_ 0 _ rfl; exact pk BK234.out) hb); replace HB := Aside0.mk (below_step (bl HB.out) hb); (try clear hb); (try clear hb2); (try clear hk); (try clear hi); obtain ⟨hcz42_0, hcz42_1, hcz42_2, hfz42_0, hfz42_1, hfz42_2⟩ := cz3 BK224.out) | (go_at_call 13; (with_reducible refine (http_Reason.calls 507 t237 _ A11.out).mono ?_); rintro e w' ⟨rfl, ⟨nd, rfl⟩⟩))
        go_ret
        exact ⟨er0, bl HB.out⟩
      ·rw [if_neg c10] at H
       have c10b0 : (t236 == 0) = false := beq_eq_false_iff_ne.mpr c10
       have c10b1 : (t236 != 0) = true := bne_iff_ne.mpr c10
       obtain rfl := Option.some.inj H
       go_enter Tryd.func7, Tryd.ntmps7
       go_wp2_with (first | ((with_reducible refine gate_callee (f := 8) rfl ?_); refine goesL_ (some 10) rfl rfl Tryd.func8 kr rfl #[.string (⟨#[80, 79, 83, 84, 32, 47, 113, 32, 72, 84, 84, 80, 47, 49, 46, 49, 13, 10, 99, 111, 110, 116, 101, 110, 116, 45, 76, 69, 78, 71, 84, 72, 58, 32, 50, 13, 10, 88, 45, 121, 58, 122, 13, 10, 13, 10, 123, 125]⟩ : ByteArray)] rfl ga ?_; (with_reducible refine (http_Parse.calls k (⟨#[80, 79, 83, 84, 32, 47, 113, 32, 72, 84, 84, 80, 47, 49, 46, 49, 13, 10, 99, 111, 110, 116, 101, 110, 116, 45, 76, 69, 78, 71, 84, 72, 58, 32, 50, 13, 10, 88, 45, 121, 58, 122, 13, 10, 13, 10, 123, 125]⟩ : ByteArray) t220 t221 t222 t223 _ ?side1 A1.out).mono ?_); (case side1 => exact LaidU.below HU.out (bl HB.out)); rintro e w43 ⟨rfl, hb⟩; refine ⟨_, rfl, ?_⟩; replace HB := Aside0.mk (below_step (bl HB.out) hb); (try clear hb); (try clear hb2); (try clear hk); (try clear hi)) | ((with_reducible refine gate_dst (N := 1) rfl ?_); refine box_event ?hg (N := 1) ?hd (cs := #[.string (⟨#[]⟩ : ByteArray), .string (⟨#[]⟩ : ByteArray), .string (⟨#[]⟩ : ByteArray)]) (t := 23) ?hr ?_; (case hd => rfl); (case hg => rfl); (case hr => first | (go_simp; done) | (go_simp; rfl)); intro gb224 hg w44 hbox hb; have BK224 := Aside0.mk (hbox); have GW224 := Aside0.mk (gs (w := w) hg (bl HB.out)); have GE224 := Aside0.mk (gs (w := w) hg (bl HB.out)); replace HB := Aside0.mk (below_step (bl HB.out) hb); clear hb hbox hg; obtain ⟨hcz45_0, hcz45_1, hcz45_2, hfz45_0, hfz45_1, hfz45_2⟩ := cz3 BK224.out) | ((with_reducible refine gate_callee (f := 8) rfl ?_); refine goesL_ (some 14) rfl rfl Tryd.func8 kr rfl #[.string (⟨#[71, 69, 84, 32, 47, 32, 72, 84, 84, 80, 47, 49, 46, 48, 13, 10, 13, 10]⟩ : ByteArray)] rfl ga ?_; (with_reducible refine (http_Parse.calls k (⟨#[71, 69, 84, 32, 47, 32, 72, 84, 84, 80, 47, 49, 46, 48, 13, 10, 13, 10]⟩ : ByteArray) t225 t226 t227 t228 _ ?side1 A2.out).mono ?_); (case side1 => exact LaidU.below HU.out (bl HB.out)); rintro e w46 ⟨rfl, hb⟩; refine ⟨_, rfl, ?_⟩; replace BK224 := Aside0.mk (blk_below (g := gb224) (o := .cells #[.string t220, .string t221, .string t222] 23 (0, 0)) (by refine pk ?_; refine blk_put (cs := #[.string t220, .string t221, .string (⟨#[]⟩ : ByteArray)]) ?_ 2 _ rfl; refine pk ?_; refine blk_put (cs := #[.string t220, .string (⟨#[]⟩ : ByteArray), .string (⟨#[]⟩ : ByteArray)]) ?_ 1 _ rfl; refine pk ?_; refine blk_put (cs := #[.string (⟨#[]⟩ : ByteArray), .string (⟨#[]⟩ : ByteArray), .string (⟨#[]⟩ : ByteArray)]) ?_ 0 _ rfl; exact pk BK224.out) hb); replace HB := Aside0.mk (below_step (bl HB.out) hb); (try clear hb); (try clear hb2); (try clear hk); (try clear hi)) | ((with_reducible refine gate_dst (N := 3) rfl ?_); refine box_event ?hg (N := 3) ?hd (cs := #[.string (⟨#[]⟩ : ByteArray), .string (⟨#[]⟩ : ByteArray), .string (⟨#[]⟩ : ByteArray)]) (t := 23) ?hr ?_; (case hd => rfl); (case hg => rfl); (case hr => first | (go_simp; done) | (go_simp; rfl)); intro gb229 hg w47 hbox hb; have BK229 := Aside0.mk (hbox); have GW229 := Aside0.mk (gs (w := w) hg (bl HB.out)); have GE229 := Aside0.mk (gs (w := w) hg (bl HB.out)); replace HB := Aside0.mk (below_step (bl HB.out) hb); have NB224_229 := Aside0.mk ((gl (g := gb224) hg (pk BK224.out))); have NB229_224 := Aside0.mk ((gm (g := gb224) hg (pk BK224.out))); replace BK224 := Aside0.mk (blk_below (pk BK224.out) hb); clear hb hbox hg; have hnb48 := NB229_224.out; have hnc48 := NB224_229.out; obtain ⟨hcz49_0, hcz49_1, hcz49_2, hfz49_0, hfz49_1, hfz49_2⟩ := cz3 BK229.out) | ((with_reducible refine gate_callee (f := 8) rfl ?_); refine goesL_ (some 18) rfl rfl Tryd.func8 kr rfl #[.string (⟨#[71, 69, 84, 32, 47, 32, 72, 84, 84, 80, 47, 49, 46, 49, 13, 10, 67, 111, 110, 116, 101, 110, 116, 45, 76, 101, 110, 103, 116, 104, 58, 32, 50, 54, 50, 49, 52, 53, 13, 10, 13, 10]⟩ : ByteArray)] rfl ga ?_; (with_reducible refine (http_Parse.calls k (⟨#[71, 69, 84, 32, 47, 32, 72, 84, 84, 80, 47, 49, 46, 49, 13, 10, 67, 111, 110, 116, 101, 110, 116, 45, 76, 101, 110, 103, 116, 104, 58, 32, 50, 54, 50, 49, 52, 53, 13, 10, 13, 10]⟩ : ByteArray) t230 t231 t232 t233 _ ?side1 A3.out).mono ?_); (case side1 => exact LaidU.below HU.out (bl HB.out)); rintro e w50 ⟨rfl, hb⟩; refine ⟨_, rfl, ?_⟩; replace BK224 := Aside0.mk (blk_below (g := gb224) (o := .cells #[.string t220, .string t221, .string t222] 23 (0, 0)) (by refine pk ?_; refine blk_far ?_ NB224_229.out _; refine pk ?_; refine blk_far ?_ NB224_229.out _; refine pk ?_; refine blk_far ?_ NB224_229.out _; exact pk BK224.out) hb); replace BK229 := Aside0.mk (blk_below (g := gb229) (o := .cells #[.string t225, .string t226, .string t227] 23 (0, 0)) (by refine pk ?_; refine blk_put (cs := #[.string t225, .string t226, .string (⟨#[]⟩ : ByteArray)]) ?_ 2 _ rfl; refine pk ?_; refine blk_put (cs := #[.string t225, .string (⟨#[]⟩ : ByteArray), .string (⟨#[]⟩ : ByteArray)]) ?_ 1 _ rfl; refine pk ?_; refine blk_put (cs := #[.string (⟨#[]⟩ : ByteArray), .string (⟨#[]⟩ : ByteArray), .string (⟨#[]⟩ : ByteArray)]) ?_ 0 _ rfl; exact pk BK229.out) hb); replace HB := Aside0.mk (below_step (bl HB.out) hb); (try clear hb); (try clear hb2); (try clear hk); (try clear hi)) | ((with_reducible refine gate_dst (N := 5) rfl ?_); refine box_event ?hg (N := 5) ?hd (cs := #[.string (⟨#[]⟩ : ByteArray), .string (⟨#[]⟩ : ByteArray), .string (⟨#[]⟩ : ByteArray)]) (t := 23) ?hr ?_; (case hd => rfl); (case hg => rfl); (case hr => first | (go_simp; done) | (go_simp; rfl)); intro gb234 hg w51 hbox hb; have BK234 := Aside0.mk (hbox); have GW234 := Aside0.mk (gs (w := w) hg (bl HB.out)); have GE234 := Aside0.mk (gs (w := w) hg (bl HB.out)); replace HB := Aside0.mk (below_step (bl HB.out) hb); have NB224_234 := Aside0.mk ((gl (g := gb224) hg (pk BK224.out))); have NB234_224 := Aside0.mk ((gm (g := gb224) hg (pk BK224.out))); replace BK224 := Aside0.mk (blk_below (pk BK224.out) hb); have NB229_234 := Aside0.mk ((gl (g := gb229) hg (pk BK229.out))); have NB234_229 := Aside0.mk ((gm (g := gb229) hg (pk BK229.out))); replace BK229 := Aside0.mk (blk_below (pk BK229.out) hb); clear hb hbox hg; have hnb52 := NB234_224.out; have hnc52 := NB224_234.out; have hnb53 := NB234_229.out; have hnc53 := NB229_234.out; obtain ⟨hcz54_0, hcz54_1, hcz54_2, hfz54_0, hfz54_1, hfz54_2⟩ := cz3 BK234.out) | ((with_reducible refine gate_callee (f := 6) rfl ?_); refine goesL_ (some 23) rfl rfl Tryd.func6 kr rfl #[.agg #[.string (⟨#[71, 69, 84]⟩ : ByteArray), .string (⟨#[47, 97]⟩ : ByteArray), .string (⟨#[]⟩ : ByteArray)]] rfl ga ?_; (with_reducible refine (http_Write.calls k (⟨#[71, 69, 84]⟩ : ByteArray) (⟨#[47, 97]⟩ : ByteArray) (⟨#[]⟩ : ByteArray) t235 t236 _ ?side1 A4.out).mono ?_); (case side1 => exact LaidU.below HU.out (bl HB.out)); rintro e w55 ⟨rfl, hb⟩; refine ⟨_, rfl, ?_⟩; replace BK224 := Aside0.mk (blk_below (g := gb224) (o := .cells #[.string t220, .string t221, .string t222] 23 (0, 0)) (by refine pk ?_; refine blk_far ?_ NB224_234.out _; refine pk ?_; refine blk_far ?_ NB224_234.out _; refine pk ?_; refine blk_far ?_ NB224_234.out _; exact pk BK224.out) hb); replace BK229 := Aside0.mk (blk_below (g := gb229) (o := .cells #[.string t225, .string t226, .string t227] 23 (0, 0)) (by refine pk ?_; refine blk_far ?_ NB229_234.out _; refine pk ?_; refine blk_far ?_ NB229_234.out _; refine pk ?_; refine blk_far ?_ NB229_234.out _; exact pk BK229.out) hb); replace BK234 := Aside0.mk (blk_below (g := gb234) (o := .cells #[.string t230, .string t231, .string t232] 23 (0, 0)) (by refine pk ?_; refine blk_put (cs := #[.string t230, .string t231, .string (⟨#[]⟩ : ByteArray)]) ?_ 2 _ rfl; refine pk ?_; refine blk_put (cs := #[.string t230, .string (⟨#[]⟩ : ByteArray), .string (⟨#[]⟩ : ByteArray)]) ?_ 1 _ rfl; refine pk ?_; refine blk_put (cs := #[.string (⟨#[]⟩ : ByteArray), .string (⟨#[]⟩ : ByteArray), .string (⟨#[]⟩ : ByteArray)]) ?_ 0 _ rfl; exact pk BK234.out) hb); replace HB := Aside0.mk (below_step (bl HB.out) hb); (try clear hb); (try clear hb2); (try clear hk); (try clear hi); obtain ⟨hcz56_0, hcz56_1, hcz56_2, hfz56_0, hfz56_1, hfz56_2⟩ := cz3 BK224.out))
       go_ret
       exact ⟨er0, bl HB.out⟩
     ·rw [if_neg c9] at H
      have c9b0 : (t235.toList == ([71, 69, 84, 32, 47, 97, 32, 72, 84, 84, 80, 47, 49, 46, 49, 13, 10, 67, 111, 110, 116, 101, 110, 116, 45, 76, 101, 110, 103, 116, 104, 58, 32, 48, 13, 10, 13, 10] : List UInt8)) = false := beq_eq_false_iff_ne.mpr c9
      have c9b1 : (t235.toList != ([71, 69, 84, 32, 47, 97, 32, 72, 84, 84, 80, 47, 49, 46, 49, 13, 10, 67, 111, 110, 116, 101, 110, 116, 45, 76, 101, 110, 103, 116, 104, 58, 32, 48, 13, 10, 13, 10] : List UInt8)) = true := bne_iff_ne.mpr c9
      obtain rfl := Option.some.inj H
      go_enter Tryd.func7, Tryd.ntmps7
      go_wp2_with (first | ((with_reducible refine gate_callee (f := 8) rfl ?_); refine goesL_ (some 10) rfl rfl Tryd.func8 kr rfl #[.string (⟨#[80, 79, 83, 84, 32, 47, 113, 32, 72, 84, 84, 80, 47, 49, 46, 49, 13, 10, 99, 111, 110, 116, 101, 110, 116, 45, 76, 69, 78, 71, 84, 72, 58, 32, 50, 13, 10, 88, 45, 121, 58, 122, 13, 10, 13, 10, 123, 125]⟩ : ByteArray)] rfl ga ?_; (with_reducible refine (http_Parse.calls k (⟨#[80, 79, 83, 84, 32, 47, 113, 32, 72, 84, 84, 80, 47, 49, 46, 49, 13, 10, 99, 111, 110, 116, 101, 110, 116, 45, 76, 69, 78, 71, 84, 72, 58, 32, 50, 13, 10, 88, 45, 121, 58, 122, 13, 10, 13, 10, 123, 125]⟩ : ByteArray) t220 t221 t222 t223 _ ?side1 A1.out).mono ?_); (case side1 => exact LaidU.below HU.out (bl HB.out)); rintro e w57 ⟨rfl, hb⟩; refine ⟨_, rfl, ?_⟩; replace HB := Aside0.mk (below_step (bl HB.out) hb); (try clear hb); (try clear hb2); (try clear hk); (try clear hi)) | ((with_reducible refine gate_dst (N := 1) rfl ?_); refine box_event ?hg (N := 1) ?hd (cs := #[.string (⟨#[]⟩ : ByteArray), .string (⟨#[]⟩ : ByteArray), .string (⟨#[]⟩ : ByteArray)]) (t := 23) ?hr ?_; (case hd => rfl); (case hg => rfl); (case hr => first | (go_simp; done) | (go_simp; rfl)); intro gb224 hg w58 hbox hb; have BK224 := Aside0.mk (hbox); have GW224 := Aside0.mk (gs (w := w) hg (bl HB.out)); have GE224 := Aside0.mk (gs (w := w) hg (bl HB.out)); replace HB := Aside0.mk (below_step (bl HB.out) hb); clear hb hbox hg; obtain ⟨hcz59_0, hcz59_1, hcz59_2, hfz59_0, hfz59_1, hfz59_2⟩ := cz3 BK224.out) | ((with_reducible refine gate_callee (f := 8) rfl ?_); refine goesL_ (some 14) rfl rfl Tryd.func8 kr rfl #[.string (⟨#[71, 69, 84, 32, 47, 32, 72, 84, 84, 80, 47, 49, 46, 48, 13, 10, 13, 10]⟩ : ByteArray)] rfl ga ?_; (with_reducible refine (http_Parse.calls k (⟨#[71, 69, 84, 32, 47, 32, 72, 84, 84, 80, 47, 49, 46, 48, 13, 10, 13, 10]⟩ : ByteArray) t225 t226 t227 t228 _ ?side1 A2.out).mono ?_); (case side1 => exact LaidU.below HU.out (bl HB.out)); rintro e w60 ⟨rfl, hb⟩; refine ⟨_, rfl, ?_⟩; replace BK224 := Aside0.mk (blk_below (g := gb224) (o := .cells #[.string t220, .string t221, .string t222] 23 (0, 0)) (by refine pk ?_; refine blk_put (cs := #[.string t220, .string t221, .string (⟨#[]⟩ : ByteArray)]) ?_ 2 _ rfl; refine pk ?_; refine blk_put (cs := #[.string t220, .string (⟨#[]⟩ : ByteArray), .string (⟨#[]⟩ : ByteArray)]) ?_ 1 _ rfl; refine pk ?_; refine blk_put (cs := #[.string (⟨#[]⟩ : ByteArray), .string (⟨#[]⟩ : ByteArray), .string (⟨#[]⟩ : ByteArray)]) ?_ 0 _ rfl; exact pk BK224.out) hb); replace HB := Aside0.mk (below_step (bl HB.out) hb); (try clear hb); (try clear hb2); (try clear hk); (try clear hi)) | ((with_reducible refine gate_dst (N := 3) rfl ?_); refine box_event ?hg (N := 3) ?hd (cs := #[.string (⟨#[]⟩ : ByteArray), .string (⟨#[]⟩ : ByteArray), .string (⟨#[]⟩ : ByteArray)]) (t := 23) ?hr ?_; (case hd => rfl); (case hg => rfl); (case hr => first | (go_simp; done) | (go_simp; rfl)); intro gb229 hg w61 hbox hb; have BK229 := Aside0.mk (hbox); have GW229 := Aside0.mk (gs (w := w) hg (bl HB.out)); have GE229 := Aside0.mk (gs (w := w) hg (bl HB.out)); replace HB := Aside0.mk (below_step (bl HB.out) hb); have NB224_229 := Aside0.mk ((gl (g := gb224) hg (pk BK224.out))); have NB229_224 := Aside0.mk ((gm (g := gb224) hg (pk BK224.out))); replace BK224 := Aside0.mk (blk_below (pk BK224.out) hb); clear hb hbox hg; have hnb62 := NB229_224.out; have hnc62 := NB224_229.out; obtain ⟨hcz63_0, hcz63_1, hcz63_2, hfz63_0, hfz63_1, hfz63_2⟩ := cz3 BK229.out) | ((with_reducible refine gate_callee (f := 8) rfl ?_); refine goesL_ (some 18) rfl rfl Tryd.func8 kr rfl #[.string (⟨#[71, 69, 84, 32, 47, 32, 72, 84, 84, 80, 47, 49, 46, 49, 13, 10, 67, 111, 110, 116, 101, 110, 116, 45, 76, 101, 110, 103, 116, 104, 58, 32, 50, 54, 50, 49, 52, 53, 13, 10, 13, 10]⟩ : ByteArray)] rfl ga ?_; (with_reducible refine (http_Parse.calls k (⟨#[71, 69, 84, 32, 47, 32, 72, 84, 84, 80, 47, 49, 46, 49, 13, 10, 67, 111, 110, 116, 101, 110, 116, 45, 76, 101, 110, 103, 116, 104, 58, 32, 50, 54, 50, 49, 52, 53, 13, 10, 13, 10]⟩ : ByteArray) t230 t231 t232 t233 _ ?side1 A3.out).mono ?_); (case side1 => exact LaidU.below HU.out (bl HB.out)); rintro e w64 ⟨rfl, hb⟩; refine ⟨_, rfl, ?_⟩; replace BK224 := Aside0.mk (blk_below (g := gb224) (o := .cells #[.string t220, .string t221, .string t222] 23 (0, 0)) (by refine pk ?_; refine blk_far ?_ NB224_229.out _; refine pk ?_; refine blk_far ?_ NB224_229.out _; refine pk ?_; refine blk_far ?_ NB224_229.out _; exact pk BK224.out) hb); replace BK229 := Aside0.mk (blk_below (g := gb229) (o := .cells #[.string t225, .string t226, .string t227] 23 (0, 0)) (by refine pk ?_; refine blk_put (cs := #[.string t225, .string t226, .string (⟨#[]⟩ : ByteArray)]) ?_ 2 _ rfl; refine pk ?_; refine blk_put (cs := #[.string t225, .string (⟨#[]⟩ : ByteArray), .string (⟨#[]⟩ : ByteArray)]) ?_ 1 _ rfl; refine pk ?_; refine blk_put (cs := #[.string (⟨#[]⟩ : ByteArray), .string (⟨#[]⟩ : ByteArray), .string (⟨#[]⟩ : ByteArray)]) ?_ 0 _ rfl; exact pk BK229.out) hb); replace HB := Aside0.mk (below_step (bl HB.out) hb); (try clear hb); (try clear hb2); (try clear hk); (try clear hi)) | ((with_reducible refine gate_dst (N := 5) rfl ?_); refine box_event ?hg (N := 5) ?hd (cs := #[.string (⟨#[]⟩ : ByteArray), .string (⟨#[]⟩ : ByteArray), .string (⟨#[]⟩ : ByteArray)]) (t := 23) ?hr ?_; (case hd => rfl); (case hg => rfl); (case hr => first | (go_simp; done) | (go_simp; rfl)); intro gb234 hg w65 hbox hb; have BK234 := Aside0.mk (hbox); have GW234 := Aside0.mk (gs (w := w) hg (bl HB.out)); have GE234 := Aside0.mk (gs (w := w) hg (bl HB.out)); replace HB := Aside0.mk (below_step (bl HB.out) hb); have NB224_234 := Aside0.mk ((gl (g := gb224) hg (pk BK224.out))); have NB234_224 := Aside0.mk ((gm (g := gb224) hg (pk BK224.out))); replace BK224 := Aside0.mk (blk_below (pk BK224.out) hb); have NB229_234 := Aside0.mk ((gl (g := gb229) hg (pk BK229.out))); have NB234_229 := Aside0.mk ((gm (g := gb229) hg (pk BK229.out))); replace BK229 := Aside0.mk (blk_below (pk BK229.out) hb); clear hb hbox hg; have hnb66 := NB234_224.out; have hnc66 := NB224_234.out; have hnb67 := NB234_229.out; have hnc67 := NB229_234.out; obtain ⟨hcz68_0, hcz68_1, hcz68_2, hfz68_0, hfz68_1, hfz68_2⟩ := cz3 BK234.out) | ((with_reducible refine gate_callee (f := 6) rfl ?_); refine goesL_ (some 23) rfl rfl Tryd.func6 kr rfl #[.agg #[.string (⟨#[71, 69, 84]⟩ : ByteArray), .string (⟨#[47, 97]⟩ : ByteArray), .string (⟨#[]⟩ : ByteArray)]] rfl ga ?_; (with_reducible refine (http_Write.calls k (⟨#[71, 69, 84]⟩ : ByteArray) (⟨#[47, 97]⟩ : ByteArray) (⟨#[]⟩ : ByteArray) t235 t236 _ ?side1 A4.out).mono ?_); (case side1 => exact LaidU.below HU.out (bl HB.out)); rintro e w69 ⟨rfl, hb⟩; refine ⟨_, rfl, ?_⟩; replace BK224 := Aside0.mk (blk_below (g := gb224) (o := .cells #[.string t220, .string t221, .string t222] 23 (0, 0)) (by refine pk ?_; refine blk_far ?_ NB224_234.out _; refine pk ?_; refine blk_far ?_ NB224_234.out _; refine pk ?_; refine blk_far ?_ NB224_234.out _; exact pk BK224.out) hb); replace BK229 := Aside0.mk (blk_below (g := gb229) (o := .cells #[.string t225, .string t226, .string t227] 23 (0, 0)) (by refine pk ?_; refine blk_far ?_ NB229_234.out _; refine pk ?_; refine blk_far ?_ NB229_234.out _; refine pk ?_; refine blk_far ?_ NB229_234.out _; exact pk BK229.out) hb); replace BK234 := Aside0.mk (blk_below (g := gb234) (o := .cells #[.string t230, .string t231, .string t232] 23 (0, 0)) (by refine pk ?_; refine blk_put (cs := #[.string t230, .string t231, .string (⟨#[]⟩ : ByteArray)]) ?_ 2 _ rfl; refine pk ?_; refine blk_put (cs := #[.string t230, .string (⟨#[]⟩ : ByteArray), .string (⟨#[]⟩ : ByteArray)]) ?_ 1 _ rfl; refine pk ?_; refine blk_put (cs := #[.string (⟨#[]⟩ : ByteArray), .string (⟨#[]⟩ : ByteArray), .string (⟨#[]⟩ : ByteArray)]) ?_ 0 _ rfl; exact pk BK234.out) hb); replace HB := Aside0.mk (below_step (bl HB.out) hb); (try clear hb); (try clear hb2); (try clear hk); (try clear hi); obtain ⟨hcz70_0, hcz70_1, hcz70_2, hfz70_0, hfz70_1, hfz70_2⟩ := cz3 BK224.out))
      go_ret
      exact ⟨er0, bl HB.out⟩
    ·rw [if_neg c8] at H
     have c8b0 : (t233 == 41) = false := beq_eq_false_iff_ne.mpr c8
     have c8b1 : (t233 != 41) = true := bne_iff_ne.mpr c8
     obtain rfl := Option.some.inj H
     go_enter Tryd.func7, Tryd.ntmps7
     go_wp2_with (first | ((with_reducible refine gate_callee (f := 8) rfl ?_); refine goesL_ (some 10) rfl rfl Tryd.func8 kr rfl #[.string (⟨#[80, 79, 83, 84, 32, 47, 113, 32, 72, 84, 84, 80, 47, 49, 46, 49, 13, 10, 99, 111, 110, 116, 101, 110, 116, 45, 76, 69, 78, 71, 84, 72, 58, 32, 50, 13, 10, 88, 45, 121, 58, 122, 13, 10, 13, 10, 123, 125]⟩ : ByteArray)] rfl ga ?_; (with_reducible refine (http_Parse.calls k (⟨#[80, 79, 83, 84, 32, 47, 113, 32, 72, 84, 84, 80, 47, 49, 46, 49, 13, 10, 99, 111, 110, 116, 101, 110, 116, 45, 76, 69, 78, 71, 84, 72, 58, 32, 50, 13, 10, 88, 45, 121, 58, 122, 13, 10, 13, 10, 123, 125]⟩ : ByteArray) t220 t221 t222 t223 _ ?side1 A1.out).mono ?_); (case side1 => exact LaidU.below HU.out (bl HB.out)); rintro e w71 ⟨rfl, hb⟩; refine ⟨_, rfl, ?_⟩; replace HB := Aside0.mk (below_step (bl HB.out) hb); (try clear hb); (try clear hb2); (try clear hk); (try clear hi)) | ((with_reducible refine gate_dst (N := 1) rfl ?_); refine box_event ?hg (N := 1) ?hd (cs := #[.string (⟨#[]⟩ : ByteArray), .string (⟨#[]⟩ : ByteArray), .string (⟨#[]⟩ : ByteArray)]) (t := 23) ?hr ?_; (case hd => rfl); (case hg => rfl); (case hr => first | (go_simp; done) | (go_simp; rfl)); intro gb224 hg w72 hbox hb; have BK224 := Aside0.mk (hbox); have GW224 := Aside0.mk (gs (w := w) hg (bl HB.out)); have GE224 := Aside0.mk (gs (w := w) hg (bl HB.out)); replace HB := Aside0.mk (below_step (bl HB.out) hb); clear hb hbox hg; obtain ⟨hcz73_0, hcz73_1, hcz73_2, hfz73_0, hfz73_1, hfz73_2⟩ := cz3 BK224.out) | ((with_reducible refine gate_callee (f := 8) rfl ?_); refine goesL_ (some 14) rfl rfl Tryd.func8 kr rfl #[.string (⟨#[71, 69, 84, 32, 47, 32, 72, 84, 84, 80, 47, 49, 46, 48, 13, 10, 13, 10]⟩ : ByteArray)] rfl ga ?_; (with_reducible refine (http_Parse.calls k (⟨#[71, 69, 84, 32, 47, 32, 72, 84, 84, 80, 47, 49, 46, 48, 13, 10, 13, 10]⟩ : ByteArray) t225 t226 t227 t228 _ ?side1 A2.out).mono ?_); (case side1 => exact LaidU.below HU.out (bl HB.out)); rintro e w74 ⟨rfl, hb⟩; refine ⟨_, rfl, ?_⟩; replace BK224 := Aside0.mk (blk_below (g := gb224) (o := .cells #[.string t220, .string t221, .string t222] 23 (0, 0)) (by refine pk ?_; refine blk_put (cs := #[.string t220, .string t221, .string (⟨#[]⟩ : ByteArray)]) ?_ 2 _ rfl; refine pk ?_; refine blk_put (cs := #[.string t220, .string (⟨#[]⟩ : ByteArray), .string (⟨#[]⟩ : ByteArray)]) ?_ 1 _ rfl; refine pk ?_; refine blk_put (cs := #[.string (⟨#[]⟩ : ByteArray), .string (⟨#[]⟩ : ByteArray), .string (⟨#[]⟩ : ByteArray)]) ?_ 0 _ rfl; exact pk BK224.out) hb); replace HB := Aside0.mk (below_step (bl HB.out) hb); (try clear hb); (try clear hb2); (try clear hk); (try clear hi)) | ((with_reducible refine gate_dst (N := 3) rfl ?_); refine box_event ?hg (N := 3) ?hd (cs := #[.string (⟨#[]⟩ : ByteArray), .string (⟨#[]⟩ : ByteArray), .string (⟨#[]⟩ : ByteArray)]) (t := 23) ?hr ?_; (case hd => rfl); (case hg => rfl); (case hr => first | (go_simp; done) | (go_simp; rfl)); intro gb229 hg w75 hbox hb; have BK229 := Aside0.mk (hbox); have GW229 := Aside0.mk (gs (w := w) hg (bl HB.out)); have GE229 := Aside0.mk (gs (w := w) hg (bl HB.out)); replace HB := Aside0.mk (below_step (bl HB.out) hb); have NB224_229 := Aside0.mk ((gl (g := gb224) hg (pk BK224.out))); have NB229_224 := Aside0.mk ((gm (g := gb224) hg (pk BK224.out))); replace BK224 := Aside0.mk (blk_below (pk BK224.out) hb); clear hb hbox hg; have hnb76 := NB229_224.out; have hnc76 := NB224_229.out; obtain ⟨hcz77_0, hcz77_1, hcz77_2, hfz77_0, hfz77_1, hfz77_2⟩ := cz3 BK229.out) | ((with_reducible refine gate_callee (f := 8) rfl ?_); refine goesL_ (some 18) rfl rfl Tryd.func8 kr rfl #[.string (⟨#[71, 69, 84, 32, 47, 32, 72, 84, 84, 80, 47, 49, 46, 49, 13, 10, 67, 111, 110, 116, 101, 110, 116, 45, 76, 101, 110, 103, 116, 104, 58, 32, 50, 54, 50, 49, 52, 53, 13, 10, 13, 10]⟩ : ByteArray)] rfl ga ?_; (with_reducible refine (http_Parse.calls k (⟨#[71, 69, 84, 32, 47, 32, 72, 84, 84, 80, 47, 49, 46, 49, 13, 10, 67, 111, 110, 116, 101, 110, 116, 45, 76, 101, 110, 103, 116, 104, 58, 32, 50, 54, 50, 49, 52, 53, 13, 10, 13, 10]⟩ : ByteArray) t230 t231 t232 t233 _ ?side1 A3.out).mono ?_); (case side1 => exact LaidU.below HU.out (bl HB.out)); rintro e w78 ⟨rfl, hb⟩; refine ⟨_, rfl, ?_⟩; replace BK224 := Aside0.mk (blk_below (g := gb224) (o := .cells #[.string t220, .string t221, .string t222] 23 (0, 0)) (by refine pk ?_; refine blk_far ?_ NB224_229.out _; refine pk ?_; refine blk_far ?_ NB224_229.out _; refine pk ?_; refine blk_far ?_ NB224_229.out _; exact pk BK224.out) hb); replace BK229 := Aside0.mk (blk_below (g := gb229) (o := .cells #[.string t225, .string t226, .string t227] 23 (0, 0)) (by refine pk ?_; refine blk_put (cs := #[.string t225, .string t226, .string (⟨#[]⟩ : ByteArray)]) ?_ 2 _ rfl; refine pk ?_; refine blk_put (cs := #[.string t225, .string (⟨#[]⟩ : ByteArray), .string (⟨#[]⟩ : ByteArray)]) ?_ 1 _ rfl; refine pk ?_; refine blk_put (cs := #[.string (⟨#[]⟩ : ByteArray), .string (⟨#[]⟩ : ByteArray), .string (⟨#[]⟩ : ByteArray)]) ?_ 0 _ rfl; exact pk BK229.out) hb); replace HB := Aside0.mk (below_step (bl HB.out) hb); (try clear hb); (try clear hb2); (try clear hk); (try clear hi)) | ((with_reducible refine gate_dst (N := 5) rfl ?_); refine box_event ?hg (N := 5) ?hd (cs := #[.string (⟨#[]⟩ : ByteArray), .string (⟨#[]⟩ : ByteArray), .string (⟨#[]⟩ : ByteArray)]) (t := 23) ?hr ?_; (case hd => rfl); (case hg => rfl); (case hr => first | (go_simp; done) | (go_simp; rfl)); intro gb234 hg w79 hbox hb; have BK234 := Aside0.mk (hbox); have GW234 := Aside0.mk (gs (w := w) hg (bl HB.out)); have GE234 := Aside0.mk (gs (w := w) hg (bl HB.out)); replace HB := Aside0.mk (below_step (bl HB.out) hb); have NB224_234 := Aside0.mk ((gl (g := gb224) hg (pk BK224.out))); have NB234_224 := Aside0.mk ((gm (g := gb224) hg (pk BK224.out))); replace BK224 := Aside0.mk (blk_below (pk BK224.out) hb); have NB229_234 := Aside0.mk ((gl (g := gb229) hg (pk BK229.out))); have NB234_229 := Aside0.mk ((gm (g := gb229) hg (pk BK229.out))); replace BK229 := Aside0.mk (blk_below (pk BK229.out) hb); clear hb hbox hg; have hnb80 := NB234_224.out; have hnc80 := NB224_234.out; have hnb81 := NB234_229.out; have hnc81 := NB229_234.out; obtain ⟨hcz82_0, hcz82_1, hcz82_2, hfz82_0, hfz82_1, hfz82_2⟩ := cz3 BK234.out) | ((with_reducible refine gate_callee (f := 6) rfl ?_); refine goesL_ (some 23) rfl rfl Tryd.func6 kr rfl #[.agg #[.string (⟨#[71, 69, 84]⟩ : ByteArray), .string (⟨#[47, 97]⟩ : ByteArray), .string (⟨#[]⟩ : ByteArray)]] rfl ga ?_; (with_reducible refine (http_Write.calls k (⟨#[71, 69, 84]⟩ : ByteArray) (⟨#[47, 97]⟩ : ByteArray) (⟨#[]⟩ : ByteArray) t235 t236 _ ?side1 A4.out).mono ?_); (case side1 => exact LaidU.below HU.out (bl HB.out)); rintro e w83 ⟨rfl, hb⟩; refine ⟨_, rfl, ?_⟩; replace BK224 := Aside0.mk (blk_below (g := gb224) (o := .cells #[.string t220, .string t221, .string t222] 23 (0, 0)) (by refine pk ?_; refine blk_far ?_ NB224_234.out _; refine pk ?_; refine blk_far ?_ NB224_234.out _; refine pk ?_; refine blk_far ?_ NB224_234.out _; exact pk BK224.out) hb); replace BK229 := Aside0.mk (blk_below (g := gb229) (o := .cells #[.string t225, .string t226, .string t227] 23 (0, 0)) (by refine pk ?_; refine blk_far ?_ NB229_234.out _; refine pk ?_; refine blk_far ?_ NB229_234.out _; refine pk ?_; refine blk_far ?_ NB229_234.out _; exact pk BK229.out) hb); replace BK234 := Aside0.mk (blk_below (g := gb234) (o := .cells #[.string t230, .string t231, .string t232] 23 (0, 0)) (by refine pk ?_; refine blk_put (cs := #[.string t230, .string t231, .string (⟨#[]⟩ : ByteArray)]) ?_ 2 _ rfl; refine pk ?_; refine blk_put (cs := #[.string t230, .string (⟨#[]⟩ : ByteArray), .string (⟨#[]⟩ : ByteArray)]) ?_ 1 _ rfl; refine pk ?_; refine blk_put (cs := #[.string (⟨#[]⟩ : ByteArray), .string (⟨#[]⟩ : ByteArray), .string (⟨#[]⟩ : ByteArray)]) ?_ 0 _ rfl; exact pk BK234.out) hb); replace HB := Aside0.mk (below_step (bl HB.out) hb); (try clear hb); (try clear hb2); (try clear hk); (try clear hi); obtain ⟨hcz84_0, hcz84_1, hcz84_2, hfz84_0, hfz84_1, hfz84_2⟩ := cz3 BK224.out))
     go_ret
     exact ⟨er0, bl HB.out⟩
   ·rw [if_neg c7] at H
    have c7b0 : (t228 == 40) = false := beq_eq_false_iff_ne.mpr c7
    have c7b1 : (t228 != 40) = true := bne_iff_ne.mpr c7
    obtain rfl := Option.some.inj H
    go_enter Tryd.func7, Tryd.ntmps7
    go_wp2_with (first | ((with_reducible refine gate_callee (f := 8) rfl ?_); refine goesL_ (some 10) rfl rfl Tryd.func8 kr rfl #[.string (⟨#[80, 79, 83, 84, 32, 47, 113, 32, 72, 84, 84, 80, 47, 49, 46, 49, 13, 10, 99, 111, 110, 116, 101, 110, 116, 45, 76, 69, 78, 71, 84, 72, 58, 32, 50, 13, 10, 88, 45, 121, 58, 122, 13, 10, 13, 10, 123, 125]⟩ : ByteArray)] rfl ga ?_; (with_reducible refine (http_Parse.calls k (⟨#[80, 79, 83, 84, 32, 47, 113, 32, 72, 84, 84, 80, 47, 49, 46, 49, 13, 10, 99, 111, 110, 116, 101, 110, 116, 45, 76, 69, 78, 71, 84, 72, 58, 32, 50, 13, 10, 88, 45, 121, 58, 122, 13, 10, 13, 10, 123, 125]⟩ : ByteArray) t220 t221 t222 t223 _ ?side1 A1.out).mono ?_); (case side1 => exact LaidU.below HU.out (bl HB.out)); rintro e w85 ⟨rfl, hb⟩; refine ⟨_, rfl, ?_⟩; replace HB := Aside0.mk (below_step (bl HB.out) hb); (try clear hb); (try clear hb2); (try clear hk); (try clear hi)) | ((with_reducible refine gate_dst (N := 1) rfl ?_); refine box_event ?hg (N := 1) ?hd (cs := #[.string (⟨#[]⟩ : ByteArray), .string (⟨#[]⟩ : ByteArray), .string (⟨#[]⟩ : ByteArray)]) (t := 23) ?hr ?_; (case hd => rfl); (case hg => rfl); (case hr => first | (go_simp; done) | (go_simp; rfl)); intro gb224 hg w86 hbox hb; have BK224 := Aside0.mk (hbox); have GW224 := Aside0.mk (gs (w := w) hg (bl HB.out)); have GE224 := Aside0.mk (gs (w := w) hg (bl HB.out)); replace HB := Aside0.mk (below_step (bl HB.out) hb); clear hb hbox hg; obtain ⟨hcz87_0, hcz87_1, hcz87_2, hfz87_0, hfz87_1, hfz87_2⟩ := cz3 BK224.out) | ((with_reducible refine gate_callee (f := 8) rfl ?_); refine goesL_ (some 14) rfl rfl Tryd.func8 kr rfl #[.string (⟨#[71, 69, 84, 32, 47, 32, 72, 84, 84, 80, 47, 49, 46, 48, 13, 10, 13, 10]⟩ : ByteArray)] rfl ga ?_; (with_reducible refine (http_Parse.calls k (⟨#[71, 69, 84, 32, 47, 32, 72, 84, 84, 80, 47, 49, 46, 48, 13, 10, 13, 10]⟩ : ByteArray) t225 t226 t227 t228 _ ?side1 A2.out).mono ?_); (case side1 => exact LaidU.below HU.out (bl HB.out)); rintro e w88 ⟨rfl, hb⟩; refine ⟨_, rfl, ?_⟩; replace BK224 := Aside0.mk (blk_below (g := gb224) (o := .cells #[.string t220, .string t221, .string t222] 23 (0, 0)) (by refine pk ?_; refine blk_put (cs := #[.string t220, .string t221, .string (⟨#[]⟩ : ByteArray)]) ?_ 2 _ rfl; refine pk ?_; refine blk_put (cs := #[.string t220, .string (⟨#[]⟩ : ByteArray), .string (⟨#[]⟩ : ByteArray)]) ?_ 1 _ rfl; refine pk ?_; refine blk_put (cs := #[.string (⟨#[]⟩ : ByteArray), .string (⟨#[]⟩ : ByteArray), .string (⟨#[]⟩ : ByteArray)]) ?_ 0 _ rfl; exact pk BK224.out) hb); replace HB := Aside0.mk (below_step (bl HB.out) hb); (try clear hb); (try clear hb2); (try clear hk); (try clear hi)) | ((with_reducible refine gate_dst (N := 3) rfl ?_); refine box_event ?hg (N := 3) ?hd (cs := #[.string (⟨#[]⟩ : ByteArray), .string (⟨#[]⟩ : ByteArray), .string (⟨#[]⟩ : ByteArray)]) (t := 23) ?hr ?_; (case hd => rfl); (case hg => rfl); (case hr => first | (go_simp; done) | (go_simp; rfl)); intro gb229 hg w89 hbox hb; have BK229 := Aside0.mk (hbox); have GW229 := Aside0.mk (gs (w := w) hg (bl HB.out)); have GE229 := Aside0.mk (gs (w := w) hg (bl HB.out)); replace HB := Aside0.mk (below_step (bl HB.out) hb); have NB224_229 := Aside0.mk ((gl (g := gb224) hg (pk BK224.out))); have NB229_224 := Aside0.mk ((gm (g := gb224) hg (pk BK224.out))); replace BK224 := Aside0.mk (blk_below (pk BK224.out) hb); clear hb hbox hg; have hnb90 := NB229_224.out; have hnc90 := NB224_229.out; obtain ⟨hcz91_0, hcz91_1, hcz91_2, hfz91_0, hfz91_1, hfz91_2⟩ := cz3 BK229.out) | ((with_reducible refine gate_callee (f := 8) rfl ?_); refine goesL_ (some 18) rfl rfl Tryd.func8 kr rfl #[.string (⟨#[71, 69, 84, 32, 47, 32, 72, 84, 84, 80, 47, 49, 46, 49, 13, 10, 67, 111, 110, 116, 101, 110, 116, 45, 76, 101, 110, 103, 116, 104, 58, 32, 50, 54, 50, 49, 52, 53, 13, 10, 13, 10]⟩ : ByteArray)] rfl ga ?_; (with_reducible refine (http_Parse.calls k (⟨#[71, 69, 84, 32, 47, 32, 72, 84, 84, 80, 47, 49, 46, 49, 13, 10, 67, 111, 110, 116, 101, 110, 116, 45, 76, 101, 110, 103, 116, 104, 58, 32, 50, 54, 50, 49, 52, 53, 13, 10, 13, 10]⟩ : ByteArray) t230 t231 t232 t233 _ ?side1 A3.out).mono ?_); (case side1 => exact LaidU.below HU.out (bl HB.out)); rintro e w92 ⟨rfl, hb⟩; refine ⟨_, rfl, ?_⟩; replace BK224 := Aside0.mk (blk_below (g := gb224) (o := .cells #[.string t220, .string t221, .string t222] 23 (0, 0)) (by refine pk ?_; refine blk_far ?_ NB224_229.out _; refine pk ?_; refine blk_far ?_ NB224_229.out _; refine pk ?_; refine blk_far ?_ NB224_229.out _; exact pk BK224.out) hb); replace BK229 := Aside0.mk (blk_below (g := gb229) (o := .cells #[.string t225, .string t226, .string t227] 23 (0, 0)) (by refine pk ?_; refine blk_put (cs := #[.string t225, .string t226, .string (⟨#[]⟩ : ByteArray)]) ?_ 2 _ rfl; refine pk ?_; refine blk_put (cs := #[.string t225, .string (⟨#[]⟩ : ByteArray), .string (⟨#[]⟩ : ByteArray)]) ?_ 1 _ rfl; refine pk ?_; refine blk_put (cs := #[.string (⟨#[]⟩ : ByteArray), .string (⟨#[]⟩ : ByteArray), .string (⟨#[]⟩ : ByteArray)]) ?_ 0 _ rfl; exact pk BK229.out) hb); replace HB := Aside0.mk (below_step (bl HB.out) hb); (try clear hb); (try clear hb2); (try clear hk); (try clear hi)) | ((with_reducible refine gate_dst (N := 5) rfl ?_); refine box_event ?hg (N := 5) ?hd (cs := #[.string (⟨#[]⟩ : ByteArray), .string (⟨#[]⟩ : ByteArray), .string (⟨#[]⟩ : ByteArray)]) (t := 23) ?hr ?_; (case hd => rfl); (case hg => rfl); (case hr => first | (go_simp; done) | (go_simp; rfl)); intro gb234 hg w93 hbox hb; have BK234 := Aside0.mk (hbox); have GW234 := Aside0.mk (gs (w := w) hg (bl HB.out)); have GE234 := Aside0.mk (gs (w := w) hg (bl HB.out)); replace HB := Aside0.mk (below_step (bl HB.out) hb); have NB224_234 := Aside0.mk ((gl (g := gb224) hg (pk BK224.out))); have NB234_224 := Aside0.mk ((gm (g := gb224) hg (pk BK224.out))); replace BK224 := Aside0.mk (blk_below (pk BK224.out) hb); have NB229_234 := Aside0.mk ((gl (g := gb229) hg (pk BK229.out))); have NB234_229 := Aside0.mk ((gm (g := gb229) hg (pk BK229.out))); replace BK229 := Aside0.mk (blk_below (pk BK229.out) hb); clear hb hbox hg; have hnb94 := NB234_224.out; have hnc94 := NB224_234.out; have hnb95 := NB234_229.out; have hnc95 := NB229_234.out; obtain ⟨hcz96_0, hcz96_1, hcz96_2, hfz96_0, hfz96_1, hfz96_2⟩ := cz3 BK234.out) | ((with_reducible refine gate_callee (f := 6) rfl ?_); refine goesL_ (some 23) rfl rfl Tryd.func6 kr rfl #[.agg #[.string (⟨#[71, 69, 84]⟩ : ByteArray), .string (⟨#[47, 97]⟩ : ByteArray), .string (⟨#[]⟩ : ByteArray)]] rfl ga ?_; (with_reducible refine (http_Write.calls k (⟨#[71, 69, 84]⟩ : ByteArray) (⟨#[47, 97]⟩ : ByteArray) (⟨#[]⟩ : ByteArray) t235 t236 _ ?side1 A4.out).mono ?_); (case side1 => exact LaidU.below HU.out (bl HB.out)); rintro e w97 ⟨rfl, hb⟩; refine ⟨_, rfl, ?_⟩; replace BK224 := Aside0.mk (blk_below (g := gb224) (o := .cells #[.string t220, .string t221, .string t222] 23 (0, 0)) (by refine pk ?_; refine blk_far ?_ NB224_234.out _; refine pk ?_; refine blk_far ?_ NB224_234.out _; refine pk ?_; refine blk_far ?_ NB224_234.out _; exact pk BK224.out) hb); replace BK229 := Aside0.mk (blk_below (g := gb229) (o := .cells #[.string t225, .string t226, .string t227] 23 (0, 0)) (by refine pk ?_; refine blk_far ?_ NB229_234.out _; refine pk ?_; refine blk_far ?_ NB229_234.out _; refine pk ?_; refine blk_far ?_ NB229_234.out _; exact pk BK229.out) hb); replace BK234 := Aside0.mk (blk_below (g := gb234) (o := .cells #[.string t230, .string t231, .string t232] 23 (0, 0)) (by refine pk ?_; refine blk_put (cs := #[.string t230, .string t231, .string (⟨#[]⟩ : ByteArray)]) ?_ 2 _ rfl; refine pk ?_; refine blk_put (cs := #[.string t230, .string (⟨#[]⟩ : ByteArray), .string (⟨#[]⟩ : ByteArray)]) ?_ 1 _ rfl; refine pk ?_; refine blk_put (cs := #[.string (⟨#[]⟩ : ByteArray), .string (⟨#[]⟩ : ByteArray), .string (⟨#[]⟩ : ByteArray)]) ?_ 0 _ rfl; exact pk BK234.out) hb); replace HB := Aside0.mk (below_step (bl HB.out) hb); (try clear hb); (try clear hb2); (try clear hk); (try clear hi); obtain ⟨hcz98_0, hcz98_1, hcz98_2, hfz98_0, hfz98_1, hfz98_2⟩ := cz3 BK224.out))
    go_ret
    exact ⟨er0, bl HB.out⟩
  ·rw [if_neg c6] at H
   have c6b0 : (t223 == 0) = false := beq_eq_false_iff_ne.mpr c6
   have c6b1 : (t223 != 0) = true := bne_iff_ne.mpr c6
   obtain rfl := Option.some.inj H
   go_enter Tryd.func7, Tryd.ntmps7
   go_wp2_with (first | ((with_reducible refine gate_callee (f := 8) rfl ?_); refine goesL_ (some 10) rfl rfl Tryd.func8 kr rfl #[.string (⟨#[80, 79, 83, 84, 32, 47, 113, 32, 72, 84, 84, 80, 47, 49, 46, 49, 13, 10, 99, 111, 110, 116, 101, 110, 116, 45, 76, 69, 78, 71, 84, 72, 58, 32, 50, 13, 10, 88, 45, 121, 58, 122, 13, 10, 13, 10, 123, 125]⟩ : ByteArray)] rfl ga ?_; (with_reducible refine (http_Parse.calls k (⟨#[80, 79, 83, 84, 32, 47, 113, 32, 72, 84, 84, 80, 47, 49, 46, 49, 13, 10, 99, 111, 110, 116, 101, 110, 116, 45, 76, 69, 78, 71, 84, 72, 58, 32, 50, 13, 10, 88, 45, 121, 58, 122, 13, 10, 13, 10, 123, 125]⟩ : ByteArray) t220 t221 t222 t223 _ ?side1 A1.out).mono ?_); (case side1 => exact LaidU.below HU.out (bl HB.out)); rintro e w99 ⟨rfl, hb⟩; refine ⟨_, rfl, ?_⟩; replace HB := Aside0.mk (below_step (bl HB.out) hb); (try clear hb); (try clear hb2); (try clear hk); (try clear hi)) | ((with_reducible refine gate_dst (N := 1) rfl ?_); refine box_event ?hg (N := 1) ?hd (cs := #[.string (⟨#[]⟩ : ByteArray), .string (⟨#[]⟩ : ByteArray), .string (⟨#[]⟩ : ByteArray)]) (t := 23) ?hr ?_; (case hd => rfl); (case hg => rfl); (case hr => first | (go_simp; done) | (go_simp; rfl)); intro gb224 hg w100 hbox hb; have BK224 := Aside0.mk (hbox); have GW224 := Aside0.mk (gs (w := w) hg (bl HB.out)); have GE224 := Aside0.mk (gs (w := w) hg (bl HB.out)); replace HB := Aside0.mk (below_step (bl HB.out) hb); clear hb hbox hg; obtain ⟨hcz101_0, hcz101_1, hcz101_2, hfz101_0, hfz101_1, hfz101_2⟩ := cz3 BK224.out) | ((with_reducible refine gate_callee (f := 8) rfl ?_); refine goesL_ (some 14) rfl rfl Tryd.func8 kr rfl #[.string (⟨#[71, 69, 84, 32, 47, 32, 72, 84, 84, 80, 47, 49, 46, 48, 13, 10, 13, 10]⟩ : ByteArray)] rfl ga ?_; (with_reducible refine (http_Parse.calls k (⟨#[71, 69, 84, 32, 47, 32, 72, 84, 84, 80, 47, 49, 46, 48, 13, 10, 13, 10]⟩ : ByteArray) t225 t226 t227 t228 _ ?side1 A2.out).mono ?_); (case side1 => exact LaidU.below HU.out (bl HB.out)); rintro e w102 ⟨rfl, hb⟩; refine ⟨_, rfl, ?_⟩; replace BK224 := Aside0.mk (blk_below (g := gb224) (o := .cells #[.string t220, .string t221, .string t222] 23 (0, 0)) (by refine pk ?_; refine blk_put (cs := #[.string t220, .string t221, .string (⟨#[]⟩ : ByteArray)]) ?_ 2 _ rfl; refine pk ?_; refine blk_put (cs := #[.string t220, .string (⟨#[]⟩ : ByteArray), .string (⟨#[]⟩ : ByteArray)]) ?_ 1 _ rfl; refine pk ?_; refine blk_put (cs := #[.string (⟨#[]⟩ : ByteArray), .string (⟨#[]⟩ : ByteArray), .string (⟨#[]⟩ : ByteArray)]) ?_ 0 _ rfl; exact pk BK224.out) hb); replace HB := Aside0.mk (below_step (bl HB.out) hb); (try clear hb); (try clear hb2); (try clear hk); (try clear hi)) | ((with_reducible refine gate_dst (N := 3) rfl ?_); refine box_event ?hg (N := 3) ?hd (cs := #[.string (⟨#[]⟩ : ByteArray), .string (⟨#[]⟩ : ByteArray), .string (⟨#[]⟩ : ByteArray)]) (t := 23) ?hr ?_; (case hd => rfl); (case hg => rfl); (case hr => first | (go_simp; done) | (go_simp; rfl)); intro gb229 hg w103 hbox hb; have BK229 := Aside0.mk (hbox); have GW229 := Aside0.mk (gs (w := w) hg (bl HB.out)); have GE229 := Aside0.mk (gs (w := w) hg (bl HB.out)); replace HB := Aside0.mk (below_step (bl HB.out) hb); have NB224_229 := Aside0.mk ((gl (g := gb224) hg (pk BK224.out))); have NB229_224 := Aside0.mk ((gm (g := gb224) hg (pk BK224.out))); replace BK224 := Aside0.mk (blk_below (pk BK224.out) hb); clear hb hbox hg; have hnb104 := NB229_224.out; have hnc104 := NB224_229.out; obtain ⟨hcz105_0, hcz105_1, hcz105_2, hfz105_0, hfz105_1, hfz105_2⟩ := cz3 BK229.out) | ((with_reducible refine gate_callee (f := 8) rfl ?_); refine goesL_ (some 18) rfl rfl Tryd.func8 kr rfl #[.string (⟨#[71, 69, 84, 32, 47, 32, 72, 84, 84, 80, 47, 49, 46, 49, 13, 10, 67, 111, 110, 116, 101, 110, 116, 45, 76, 101, 110, 103, 116, 104, 58, 32, 50, 54, 50, 49, 52, 53, 13, 10, 13, 10]⟩ : ByteArray)] rfl ga ?_; (with_reducible refine (http_Parse.calls k (⟨#[71, 69, 84, 32, 47, 32, 72, 84, 84, 80, 47, 49, 46, 49, 13, 10, 67, 111, 110, 116, 101, 110, 116, 45, 76, 101, 110, 103, 116, 104, 58, 32, 50, 54, 50, 49, 52, 53, 13, 10, 13, 10]⟩ : ByteArray) t230 t231 t232 t233 _ ?side1 A3.out).mono ?_); (case side1 => exact LaidU.below HU.out (bl HB.out)); rintro e w106 ⟨rfl, hb⟩; refine ⟨_, rfl, ?_⟩; replace BK224 := Aside0.mk (blk_below (g := gb224) (o := .cells #[.string t220, .string t221, .string t222] 23 (0, 0)) (by refine pk ?_; refine blk_far ?_ NB224_229.out _; refine pk ?_; refine blk_far ?_ NB224_229.out _; refine pk ?_; refine blk_far ?_ NB224_229.out _; exact pk BK224.out) hb); replace BK229 := Aside0.mk (blk_below (g := gb229) (o := .cells #[.string t225, .string t226, .string t227] 23 (0, 0)) (by refine pk ?_; refine blk_put (cs := #[.string t225, .string t226, .string (⟨#[]⟩ : ByteArray)]) ?_ 2 _ rfl; refine pk ?_; refine blk_put (cs := #[.string t225, .string (⟨#[]⟩ : ByteArray), .string (⟨#[]⟩ : ByteArray)]) ?_ 1 _ rfl; refine pk ?_; refine blk_put (cs := #[.string (⟨#[]⟩ : ByteArray), .string (⟨#[]⟩ : ByteArray), .string (⟨#[]⟩ : ByteArray)]) ?_ 0 _ rfl; exact pk BK229.out) hb); replace HB := Aside0.mk (below_step (bl HB.out) hb); (try clear hb); (try clear hb2); (try clear hk); (try clear hi)) | ((with_reducible refine gate_dst (N := 5) rfl ?_); refine box_event ?hg (N := 5) ?hd (cs := #[.string (⟨#[]⟩ : ByteArray), .string (⟨#[]⟩ : ByteArray), .string (⟨#[]⟩ : ByteArray)]) (t := 23) ?hr ?_; (case hd => rfl); (case hg => rfl); (case hr => first | (go_simp; done) | (go_simp; rfl)); intro gb234 hg w107 hbox hb; have BK234 := Aside0.mk (hbox); have GW234 := Aside0.mk (gs (w := w) hg (bl HB.out)); have GE234 := Aside0.mk (gs (w := w) hg (bl HB.out)); replace HB := Aside0.mk (below_step (bl HB.out) hb); have NB224_234 := Aside0.mk ((gl (g := gb224) hg (pk BK224.out))); have NB234_224 := Aside0.mk ((gm (g := gb224) hg (pk BK224.out))); replace BK224 := Aside0.mk (blk_below (pk BK224.out) hb); have NB229_234 := Aside0.mk ((gl (g := gb229) hg (pk BK229.out))); have NB234_229 := Aside0.mk ((gm (g := gb229) hg (pk BK229.out))); replace BK229 := Aside0.mk (blk_below (pk BK229.out) hb); clear hb hbox hg; have hnb108 := NB234_224.out; have hnc108 := NB224_234.out; have hnb109 := NB234_229.out; have hnc109 := NB229_234.out; obtain ⟨hcz110_0, hcz110_1, hcz110_2, hfz110_0, hfz110_1, hfz110_2⟩ := cz3 BK234.out) | ((with_reducible refine gate_callee (f := 6) rfl ?_); refine goesL_ (some 23) rfl rfl Tryd.func6 kr rfl #[.agg #[.string (⟨#[71, 69, 84]⟩ : ByteArray), .string (⟨#[47, 97]⟩ : ByteArray), .string (⟨#[]⟩ : ByteArray)]] rfl ga ?_; (with_reducible refine (http_Write.calls k (⟨#[71, 69, 84]⟩ : ByteArray) (⟨#[47, 97]⟩ : ByteArray) (⟨#[]⟩ : ByteArray) t235 t236 _ ?side1 A4.out).mono ?_); (case side1 => exact LaidU.below HU.out (bl HB.out)); rintro e w111 ⟨rfl, hb⟩; refine ⟨_, rfl, ?_⟩; replace BK224 := Aside0.mk (blk_below (g := gb224) (o := .cells #[.string t220, .string t221, .string t222] 23 (0, 0)) (by refine pk ?_; refine blk_far ?_ NB224_234.out _; refine pk ?_; refine blk_far ?_ NB224_234.out _; refine pk ?_; refine blk_far ?_ NB224_234.out _; exact pk BK224.out) hb); replace BK229 := Aside0.mk (blk_below (g := gb229) (o := .cells #[.string t225, .string t226, .string t227] 23 (0, 0)) (by refine pk ?_; refine blk_far ?_ NB229_234.out _; refine pk ?_; refine blk_far ?_ NB229_234.out _; refine pk ?_; refine blk_far ?_ NB229_234.out _; exact pk BK229.out) hb); replace BK234 := Aside0.mk (blk_below (g := gb234) (o := .cells #[.string t230, .string t231, .string t232] 23 (0, 0)) (by refine pk ?_; refine blk_put (cs := #[.string t230, .string t231, .string (⟨#[]⟩ : ByteArray)]) ?_ 2 _ rfl; refine pk ?_; refine blk_put (cs := #[.string t230, .string (⟨#[]⟩ : ByteArray), .string (⟨#[]⟩ : ByteArray)]) ?_ 1 _ rfl; refine pk ?_; refine blk_put (cs := #[.string (⟨#[]⟩ : ByteArray), .string (⟨#[]⟩ : ByteArray), .string (⟨#[]⟩ : ByteArray)]) ?_ 0 _ rfl; exact pk BK234.out) hb); replace HB := Aside0.mk (below_step (bl HB.out) hb); (try clear hb); (try clear hb2); (try clear hk); (try clear hi); obtain ⟨hcz112_0, hcz112_1, hcz112_2, hfz112_0, hfz112_1, hfz112_2⟩ := cz3 BK224.out))
   go_ret
   exact ⟨er0, bl HB.out⟩
 ·rw [if_neg c5] at H
  have c5b0 : (t220.toList == ([80, 79, 83, 84] : List UInt8) && (t221.toList == ([47, 113] : List UInt8) && (t222.toList == ([123, 125] : List UInt8)))) = false := by simpa using c5
  (try (have c5b1 : decide (t220.toList = ([80, 79, 83, 84] : List UInt8) && (t221.toList == ([47, 113] : List UInt8) && (t222.toList == ([123, 125] : List UInt8)))) = false := by simpa using c5))
  (try (have c5b2 : (t220.toList == ([80, 79, 83, 84] : List UInt8) && (t221.toList == ([47, 113] : List UInt8) && (t222.toList == ([123, 125] : List UInt8)))) = false := by simpa using c5))
  (try (have c5b3 : ¬ (t220.toList = ([80, 79, 83, 84] : List UInt8) && (t221.toList == ([47, 113] : List UInt8) && (t222.toList == ([123, 125] : List UInt8)))) := by simpa using c5))
  clear c5
  obtain rfl := Option.some.inj H
  go_enter Tryd.func7, Tryd.ntmps7
  go_wp2_with (first | ((with_reducible refine gate_callee (f := 8) rfl ?_); refine goesL_ (some 10) rfl rfl Tryd.func8 kr rfl #[.string (⟨#[80, 79, 83, 84, 32, 47, 113, 32, 72, 84, 84, 80, 47, 49, 46, 49, 13, 10, 99, 111, 110, 116, 101, 110, 116, 45, 76, 69, 78, 71, 84, 72, 58, 32, 50, 13, 10, 88, 45, 121, 58, 122, 13, 10, 13, 10, 123, 125]⟩ : ByteArray)] rfl ga ?_; (with_reducible refine (http_Parse.calls k (⟨#[80, 79, 83, 84, 32, 47, 113, 32, 72, 84, 84, 80, 47, 49, 46, 49, 13, 10, 99, 111, 110, 116, 101, 110, 116, 45, 76, 69, 78, 71, 84, 72, 58, 32, 50, 13, 10, 88, 45, 121, 58, 122, 13, 10, 13, 10, 123, 125]⟩ : ByteArray) t220 t221 t222 t223 _ ?side1 A1.out).mono ?_); (case side1 => exact LaidU.below HU.out (bl HB.out)); rintro e w113 ⟨rfl, hb⟩; refine ⟨_, rfl, ?_⟩; replace HB := Aside0.mk (below_step (bl HB.out) hb); (try clear hb); (try clear hb2); (try clear hk); (try clear hi)) | ((with_reducible refine gate_dst (N := 1) rfl ?_); refine box_event ?hg (N := 1) ?hd (cs := #[.string (⟨#[]⟩ : ByteArray), .string (⟨#[]⟩ : ByteArray), .string (⟨#[]⟩ : ByteArray)]) (t := 23) ?hr ?_; (case hd => rfl); (case hg => rfl); (case hr => first | (go_simp; done) | (go_simp; rfl)); intro gb224 hg w114 hbox hb; have BK224 := Aside0.mk (hbox); have GW224 := Aside0.mk (gs (w := w) hg (bl HB.out)); have GE224 := Aside0.mk (gs (w := w) hg (bl HB.out)); replace HB := Aside0.mk (below_step (bl HB.out) hb); clear hb hbox hg; obtain ⟨hcz115_0, hcz115_1, hcz115_2, hfz115_0, hfz115_1, hfz115_2⟩ := cz3 BK224.out) | ((with_reducible refine gate_callee (f := 8) rfl ?_); refine goesL_ (some 14) rfl rfl Tryd.func8 kr rfl #[.string (⟨#[71, 69, 84, 32, 47, 32, 72, 84, 84, 80, 47, 49, 46, 48, 13, 10, 13, 10]⟩ : ByteArray)] rfl ga ?_; (with_reducible refine (http_Parse.calls k (⟨#[71, 69, 84, 32, 47, 32, 72, 84, 84, 80, 47, 49, 46, 48, 13, 10, 13, 10]⟩ : ByteArray) t225 t226 t227 t228 _ ?side1 A2.out).mono ?_); (case side1 => exact LaidU.below HU.out (bl HB.out)); rintro e w116 ⟨rfl, hb⟩; refine ⟨_, rfl, ?_⟩; replace BK224 := Aside0.mk (blk_below (g := gb224) (o := .cells #[.string t220, .string t221, .string t222] 23 (0, 0)) (by refine pk ?_; refine blk_put (cs := #[.string t220, .string t221, .string (⟨#[]⟩ : ByteArray)]) ?_ 2 _ rfl; refine pk ?_; refine blk_put (cs := #[.string t220, .string (⟨#[]⟩ : ByteArray), .string (⟨#[]⟩ : ByteArray)]) ?_ 1 _ rfl; refine pk ?_; refine blk_put (cs := #[.string (⟨#[]⟩ : ByteArray), .string (⟨#[]⟩ : ByteArray), .string (⟨#[]⟩ : ByteArray)]) ?_ 0 _ rfl; exact pk BK224.out) hb); replace HB := Aside0.mk (below_step (bl HB.out) hb); (try clear hb); (try clear hb2); (try clear hk); (try clear hi)) | ((with_reducible refine gate_dst (N := 3) rfl ?_); refine box_event ?hg (N := 3) ?hd (cs := #[.string (⟨#[]⟩ : ByteArray), .string (⟨#[]⟩ : ByteArray), .string (⟨#[]⟩ : ByteArray)]) (t := 23) ?hr ?_; (case hd => rfl); (case hg => rfl); (case hr => first | (go_simp; done) | (go_simp; rfl)); intro gb229 hg w117 hbox hb; have BK229 := Aside0.mk (hbox); have GW229 := Aside0.mk (gs (w := w) hg (bl HB.out)); have GE229 := Aside0.mk (gs (w := w) hg (bl HB.out)); replace HB := Aside0.mk (below_step (bl HB.out) hb); have NB224_229 := Aside0.mk ((gl (g := gb224) hg (pk BK224.out))); have NB229_224 := Aside0.mk ((gm (g := gb224) hg (pk BK224.out))); replace BK224 := Aside0.mk (blk_below (pk BK224.out) hb); clear hb hbox hg; have hnb118 := NB229_224.out; have hnc118 := NB224_229.out; obtain ⟨hcz119_0, hcz119_1, hcz119_2, hfz119_0, hfz119_1, hfz119_2⟩ := cz3 BK229.out) | ((with_reducible refine gate_callee (f := 8) rfl ?_); refine goesL_ (some 18) rfl rfl Tryd.func8 kr rfl #[.string (⟨#[71, 69, 84, 32, 47, 32, 72, 84, 84, 80, 47, 49, 46, 49, 13, 10, 67, 111, 110, 116, 101, 110, 116, 45, 76, 101, 110, 103, 116, 104, 58, 32, 50, 54, 50, 49, 52, 53, 13, 10, 13, 10]⟩ : ByteArray)] rfl ga ?_; (with_reducible refine (http_Parse.calls k (⟨#[71, 69, 84, 32, 47, 32, 72, 84, 84, 80, 47, 49, 46, 49, 13, 10, 67, 111, 110, 116, 101, 110, 116, 45, 76, 101, 110, 103, 116, 104, 58, 32, 50, 54, 50, 49, 52, 53, 13, 10, 13, 10]⟩ : ByteArray) t230 t231 t232 t233 _ ?side1 A3.out).mono ?_); (case side1 => exact LaidU.below HU.out (bl HB.out)); rintro e w120 ⟨rfl, hb⟩; refine ⟨_, rfl, ?_⟩; replace BK224 := Aside0.mk (blk_below (g := gb224) (o := .cells #[.string t220, .string t221, .string t222] 23 (0, 0)) (by refine pk ?_; refine blk_far ?_ NB224_229.out _; refine pk ?_; refine blk_far ?_ NB224_229.out _; refine pk ?_; refine blk_far ?_ NB224_229.out _; exact pk BK224.out) hb); replace BK229 := Aside0.mk (blk_below (g := gb229) (o := .cells #[.string t225, .string t226, .string t227] 23 (0, 0)) (by refine pk ?_; refine blk_put (cs := #[.string t225, .string t226, .string (⟨#[]⟩ : ByteArray)]) ?_ 2 _ rfl; refine pk ?_; refine blk_put (cs := #[.string t225, .string (⟨#[]⟩ : ByteArray), .string (⟨#[]⟩ : ByteArray)]) ?_ 1 _ rfl; refine pk ?_; refine blk_put (cs := #[.string (⟨#[]⟩ : ByteArray), .string (⟨#[]⟩ : ByteArray), .string (⟨#[]⟩ : ByteArray)]) ?_ 0 _ rfl; exact pk BK229.out) hb); replace HB := Aside0.mk (below_step (bl HB.out) hb); (try clear hb); (try clear hb2); (try clear hk); (try clear hi)) | ((with_reducible refine gate_dst (N := 5) rfl ?_); refine box_event ?hg (N := 5) ?hd (cs := #[.string (⟨#[]⟩ : ByteArray), .string (⟨#[]⟩ : ByteArray), .string (⟨#[]⟩ : ByteArray)]) (t := 23) ?hr ?_; (case hd => rfl); (case hg => rfl); (case hr => first | (go_simp; done) | (go_simp; rfl)); intro gb234 hg w121 hbox hb; have BK234 := Aside0.mk (hbox); have GW234 := Aside0.mk (gs (w := w) hg (bl HB.out)); have GE234 := Aside0.mk (gs (w := w) hg (bl HB.out)); replace HB := Aside0.mk (below_step (bl HB.out) hb); have NB224_234 := Aside0.mk ((gl (g := gb224) hg (pk BK224.out))); have NB234_224 := Aside0.mk ((gm (g := gb224) hg (pk BK224.out))); replace BK224 := Aside0.mk (blk_below (pk BK224.out) hb); have NB229_234 := Aside0.mk ((gl (g := gb229) hg (pk BK229.out))); have NB234_229 := Aside0.mk ((gm (g := gb229) hg (pk BK229.out))); replace BK229 := Aside0.mk (blk_below (pk BK229.out) hb); clear hb hbox hg; have hnb122 := NB234_224.out; have hnc122 := NB224_234.out; have hnb123 := NB234_229.out; have hnc123 := NB229_234.out; obtain ⟨hcz124_0, hcz124_1, hcz124_2, hfz124_0, hfz124_1, hfz124_2⟩ := cz3 BK234.out) | ((with_reducible refine gate_callee (f := 6) rfl ?_); refine goesL_ (some 23) rfl rfl Tryd.func6 kr rfl #[.agg #[.string (⟨#[71, 69, 84]⟩ : ByteArray), .string (⟨#[47, 97]⟩ : ByteArray), .string (⟨#[]⟩ : ByteArray)]] rfl ga ?_; (with_reducible refine (http_Write.calls k (⟨#[71, 69, 84]⟩ : ByteArray) (⟨#[47, 97]⟩ : ByteArray) (⟨#[]⟩ : ByteArray) t235 t236 _ ?side1 A4.out).mono ?_); (case side1 => exact LaidU.below HU.out (bl HB.out)); rintro e w125 ⟨rfl, hb⟩; refine ⟨_, rfl, ?_⟩; replace BK224 := Aside0.mk (blk_below (g := gb224) (o := .cells #[.string t220, .string t221, .string t222] 23 (0, 0)) (by refine pk ?_; refine blk_far ?_ NB224_234.out _; refine pk ?_; refine blk_far ?_ NB224_234.out _; refine pk ?_; refine blk_far ?_ NB224_234.out _; exact pk BK224.out) hb); replace BK229 := Aside0.mk (blk_below (g := gb229) (o := .cells #[.string t225, .string t226, .string t227] 23 (0, 0)) (by refine pk ?_; refine blk_far ?_ NB229_234.out _; refine pk ?_; refine blk_far ?_ NB229_234.out _; refine pk ?_; refine blk_far ?_ NB229_234.out _; exact pk BK229.out) hb); replace BK234 := Aside0.mk (blk_below (g := gb234) (o := .cells #[.string t230, .string t231, .string t232] 23 (0, 0)) (by refine pk ?_; refine blk_put (cs := #[.string t230, .string t231, .string (⟨#[]⟩ : ByteArray)]) ?_ 2 _ rfl; refine pk ?_; refine blk_put (cs := #[.string t230, .string (⟨#[]⟩ : ByteArray), .string (⟨#[]⟩ : ByteArray)]) ?_ 1 _ rfl; refine pk ?_; refine blk_put (cs := #[.string (⟨#[]⟩ : ByteArray), .string (⟨#[]⟩ : ByteArray), .string (⟨#[]⟩ : ByteArray)]) ?_ 0 _ rfl; exact pk BK234.out) hb); replace HB := Aside0.mk (below_step (bl HB.out) hb); (try clear hb); (try clear hb2); (try clear hk); (try clear hi); obtain ⟨hcz126_0, hcz126_1, hcz126_2, hfz126_0, hfz126_1, hfz126_2⟩ := cz3 BK224.out))
  go_ret
  exact ⟨er0, bl HB.out⟩

/-! ### lodestarlaw04_HttpBack: function 3 -/
def lodestarlaw04_HttpBack.j0 : Nat → ByteArray → ByteArray → Bool → Option (Bool)
 | 0, _, _, _ => none
 | k + 1, x1, x5, x44 => if x44 = true then (some false) else (if x1.toList = ([] : List UInt8) then (if 0 ≤ (wrap64 ((x5.size : Int) - 1)) then (if (wrap64 ((x5.size : Int) - 1)) ≤ (x5.size : Int) then ((http_Parse.f k (x5.extract 0 ((wrap64 ((x5.size : Int) - 1)) : Int).toNat)).bind fun bt249 => (if bt249.2.2.2 = 0 then (some false) else ((lodestarlaw04_sure.f k).bind fun t253 => (some t253)))) else (none)) else (none)) else (if x5.size + x1.size ≤ 9223372036854775807 then ((http_Parse.f k (x5 ++ x1)).bind fun bt254 => (if bt254.2.2.2 = 0 then (some false) else (if 0 ≤ (wrap64 ((x5.size : Int) - 1)) then (if (wrap64 ((x5.size : Int) - 1)) ≤ (x5.size : Int) then ((http_Parse.f k (x5.extract 0 ((wrap64 ((x5.size : Int) - 1)) : Int).toNat)).bind fun bt258 => (if bt258.2.2.2 = 0 then (some false) else ((lodestarlaw04_sure.f k).bind fun t262 => (some t262)))) else (none)) else (none)))) else (none)))
def lodestarlaw04_HttpBack.f (k : Nat) (a0_0 : ByteArray) (a0_1 : ByteArray) (a0_2 : ByteArray) (a1 : ByteArray) : Option (Bool) := (http_Write.f k a0_0 a0_1 a0_2).bind fun bt240 => (if bt240.2 = 0 then ((http_Parse.f k bt240.1).bind fun bt244 => (if bt240.1.toList = ([] : List UInt8) then (lodestarlaw04_HttpBack.j0 k a1 bt240.1 true) else (if (!(bt244.1.toList == a0_0.toList) || (!(bt244.2.1.toList == a0_1.toList) || (!(bt244.2.2.1.toList == a0_2.toList)))) = true then (lodestarlaw04_HttpBack.j0 k a1 bt240.1 true) else (lodestarlaw04_HttpBack.j0 k a1 bt240.1 (bt244.2.2.2 != 0))))) else (if bt240.1.toList = ([] : List UInt8) then (if bt240.2 = 40 then ((lodestarlaw04_sure.f k).bind fun t242 => (some t242)) else (if bt240.2 = 41 then ((lodestarlaw04_sure.f k).bind fun t243 => (some t243)) else (some false))) else (some false)))
theorem lodestarlaw04_HttpBack.mono_l : ∀ k, (∀ y0 y1 y2, LeO (lodestarlaw04_HttpBack.j0 k y0 y1 y2) (lodestarlaw04_HttpBack.j0 (k + 1) y0 y1 y2))
 | 0 => fun _ _ _ r h => by simp [lodestarlaw04_HttpBack.j0] at h
 | k + 1 => by
  have ih0 := lodestarlaw04_HttpBack.mono_l k
  ·intro y0 y1 y2
   unfold lodestarlaw04_HttpBack.j0
   repeat' first
   | (with_reducible exact ih0 _ _ _)
   | (with_reducible exact http_Parse.mono _ _)
   | (with_reducible exact http_Write.mono _ _ _ _)
   | (with_reducible exact lodestarlaw04_sure.mono _)
   | (with_reducible exact LeO.refl _)
   | (with_reducible exact LeO.none _)
   | (with_reducible refine LeO.ite ?_ ?_)
   | (with_reducible refine LeO.bind ?_ (fun _ => ?_))
   | exact ih0 _ _ _
   | exact http_Parse.mono _ _
   | exact http_Write.mono _ _ _ _
   | exact lodestarlaw04_sure.mono _
   | exact LeO.none _
   | refine LeO.ite ?_ ?_
   | refine LeO.bind ?_ (fun _ => ?_)
theorem lodestarlaw04_HttpBack.mono : ∀ a0 a1 a2 a3 k, LeO (lodestarlaw04_HttpBack.f k a0 a1 a2 a3) (lodestarlaw04_HttpBack.f (k + 1) a0 a1 a2 a3) := by
 intro a0 a1 a2 a3 k
 have ih0 := lodestarlaw04_HttpBack.mono_l k
 unfold lodestarlaw04_HttpBack.f
 repeat' first
   | (with_reducible exact ih0 _ _ _)
   | (with_reducible exact http_Parse.mono _ _)
   | (with_reducible exact http_Write.mono _ _ _ _)
   | (with_reducible exact lodestarlaw04_sure.mono _)
   | (with_reducible exact LeO.refl _)
   | (with_reducible exact LeO.none _)
   | (with_reducible refine LeO.ite ?_ ?_)
   | (with_reducible refine LeO.bind ?_ (fun _ => ?_))
   | exact ih0 _ _ _
   | exact http_Parse.mono _ _
   | exact http_Write.mono _ _ _ _
   | exact lodestarlaw04_sure.mono _
   | exact LeO.none _
   | refine LeO.ite ?_ ?_
   | refine LeO.bind ?_ (fun _ => ?_)
set_option maxHeartbeats 8000000 in
set_option maxRecDepth 100000 in
theorem lodestarlaw04_HttpBack.calls (k : Nat) (a0_0 : ByteArray) (a0_1 : ByteArray) (a0_2 : ByteArray) (a1 : ByteArray) (w : World) (hU : LaidU w) (h : lodestarlaw04_HttpBack.f k a0_0 a0_1 a0_2 a1 = some true) :
  Calls Tryd.prog 3 #[.agg #[.string a0_0, .string a0_1, .string a0_2], .string a1] w fun e w' => e = .returned (.bool true) ∧ Below w.heap.size w w' := by
 have hu23 := Tryd.underlying23
 have HU := Aside0.mk hU
 clear hU
 have HB := Aside0.mk (Below.refl w.heap.size w)
 have H : ((http_Write.f k a0_0 a0_1 a0_2).bind fun bt240 => (if bt240.2 = 0 then ((http_Parse.f k bt240.1).bind fun bt244 => (if bt240.1.toList = ([] : List UInt8) then (lodestarlaw04_HttpBack.j0 k a1 bt240.1 true) else (if (!(bt244.1.toList == a0_0.toList) || (!(bt244.2.1.toList == a0_1.toList) || (!(bt244.2.2.1.toList == a0_2.toList)))) = true then (lodestarlaw04_HttpBack.j0 k a1 bt240.1 true) else (lodestarlaw04_HttpBack.j0 k a1 bt240.1 (bt244.2.2.2 != 0))))) else (if bt240.1.toList = ([] : List UInt8) then (if bt240.2 = 40 then ((lodestarlaw04_sure.f k).bind fun t242 => (some t242)) else (if bt240.2 = 41 then ((lodestarlaw04_sure.f k).bind fun t243 => (some t243)) else (some false))) else (some false)))) = some true := h
 clear h
 replace H := Option.bind_eq_some_iff.mp H
 obtain ⟨⟨t240, t241⟩, A30, H⟩ := H
 replace H : (if t241 = 0 then ((http_Parse.f k t240).bind fun bt244 => (if t240.toList = ([] : List UInt8) then (lodestarlaw04_HttpBack.j0 k a1 t240 true) else (if (!(bt244.1.toList == a0_0.toList) || (!(bt244.2.1.toList == a0_1.toList) || (!(bt244.2.2.1.toList == a0_2.toList)))) = true then (lodestarlaw04_HttpBack.j0 k a1 t240 true) else (lodestarlaw04_HttpBack.j0 k a1 t240 (bt244.2.2.2 != 0))))) else (if t240.toList = ([] : List UInt8) then (if t241 = 40 then ((lodestarlaw04_sure.f k).bind fun t242 => (some t242)) else (if t241 = 41 then ((lodestarlaw04_sure.f k).bind fun t243 => (some t243)) else (some false))) else (some false))) = some true := H
 have A3 := Aside0.mk A30
 clear A30
 by_cases c4 : t241 = 0
 ·rw [if_pos c4] at H
  have c4b0 : (t241 == 0) = true := beq_iff_eq.mpr c4
  have c4b1 : (t241 != 0) = false := bne_eq_false_iff_eq.mpr c4
  clear c4
  replace H := Option.bind_eq_some_iff.mp H
  obtain ⟨⟨t244, t245, t246, t247⟩, A50, H⟩ := H
  replace H : (if t240.toList = ([] : List UInt8) then (lodestarlaw04_HttpBack.j0 k a1 t240 true) else (if (!(t244.toList == a0_0.toList) || (!(t245.toList == a0_1.toList) || (!(t246.toList == a0_2.toList)))) = true then (lodestarlaw04_HttpBack.j0 k a1 t240 true) else (lodestarlaw04_HttpBack.j0 k a1 t240 (t247 != 0)))) = some true := H
  have A5 := Aside0.mk A50
  clear A50
  have HC6 := Aside0.mk H
  clear H
  go_enter Tryd.func3, Tryd.ntmps3
  go_upto_region 5 with (first | ((with_reducible refine gate_dst (N := 2) rfl ?_); refine box_event ?hg (N := 2) ?hd (cs := #[.string a0_0, .string a0_1, .string a0_2]) (t := 23) ?hr ?_; (case hd => rfl); (case hg => rfl); (case hr => first | (go_simp; done) | (go_simp; rfl)); intro gb239 hg w7 hbox hb; have BK239 := Aside0.mk (hbox); have GW239 := Aside0.mk (gs (w := w) hg (bl HB.out)); have GE239 := Aside0.mk (gs (w := w) hg (bl HB.out)); replace HB := Aside0.mk (below_step (bl HB.out) hb); clear hb hbox hg; obtain ⟨hcz8_0, hcz8_1, hcz8_2, hfz8_0, hfz8_1, hfz8_2⟩ := cz3 BK239.out) | ((with_reducible refine gate_callee (f := 6) rfl ?_); refine goesL_ (some 11) rfl rfl Tryd.func6 kr rfl #[.agg #[.string a0_0, .string a0_1, .string a0_2]] rfl ga ?_; (with_reducible refine (http_Write.calls k a0_0 a0_1 a0_2 t240 t241 _ ?side1 A3.out).mono ?_); (case side1 => exact LaidU.below HU.out (bl HB.out)); rintro e w9 ⟨rfl, hb⟩; refine ⟨_, rfl, ?_⟩; replace BK239 := Aside0.mk (blk_below (pk BK239.out) hb); replace HB := Aside0.mk (below_step (bl HB.out) hb); (try clear hb); (try clear hb2); (try clear hk); (try clear hi)) | ((with_reducible refine gate_callee (f := 8) rfl ?_); refine goesL_ (some 31) rfl rfl Tryd.func8 kr rfl #[.string t240] rfl ga ?_; (with_reducible refine (http_Parse.calls k t240 t244 t245 t246 t247 _ ?side1 A5.out).mono ?_); (case side1 => exact LaidU.below HU.out (bl HB.out)); rintro e w10 ⟨rfl, hb⟩; refine ⟨_, rfl, ?_⟩; replace BK239 := Aside0.mk (blk_below (pk BK239.out) hb); replace HB := Aside0.mk (below_step (bl HB.out) hb); (try clear hb); (try clear hb2); (try clear hk); (try clear hi)) | ((with_reducible refine gate_dst (N := 7) rfl ?_); refine box_event ?hg (N := 7) ?hd (cs := #[.string (⟨#[]⟩ : ByteArray), .string (⟨#[]⟩ : ByteArray), .string (⟨#[]⟩ : ByteArray)]) (t := 23) ?hr ?_; (case hd => rfl); (case hg => rfl); (case hr => first | (go_simp; done) | (go_simp; rfl)); intro gb248 hg w11 hbox hb; have BK248 := Aside0.mk (hbox); have GW248 := Aside0.mk (gs (w := w) hg (bl HB.out)); have GE248 := Aside0.mk (gs (w := w) hg (bl HB.out)); replace HB := Aside0.mk (below_step (bl HB.out) hb); have NB239_248 := Aside0.mk ((gl (g := gb239) hg (pk BK239.out))); have NB248_239 := Aside0.mk ((gm (g := gb239) hg (pk BK239.out))); replace BK239 := Aside0.mk (blk_below (pk BK239.out) hb); clear hb hbox hg; have hnb12 := NB248_239.out; have hnc12 := NB239_248.out; obtain ⟨hcz13_0, hcz13_1, hcz13_2, hfz13_0, hfz13_1, hfz13_2⟩ := cz3 BK248.out))
  (try simp only [Act.put, List.setIfInBounds_toArray, List.set_cons_zero, List.set_cons_succ])
  go_cut [44] (fun v44 wc => ∃ (kq : Nat) (x44_5 : Bool), v44 = .bool x44_5 ∧ Aside0 (lodestarlaw04_HttpBack.j0 kq a1 t240 x44_5 = some true) ∧ Aside0 (kq ≤ k) ∧ Aside0 (wc.heap[gb239]? = some (.cells #[.string a0_0, .string a0_1, .string a0_2] 23 (0, 0))) ∧ Aside0 (wc.heap[gb248]? = some (.cells #[.string t244, .string t245, .string t246] 23 (0, 0))) ∧ Aside0 (Below w.heap.size w wc))
  case first =>
   have H := HC6.out
   clear HC6
   by_cases c14 : t240.toList = ([] : List UInt8)
   ·rw [if_pos c14] at H
    have c14b0 : (t240.toList == ([] : List UInt8)) = true := beq_iff_eq.mpr c14
    have c14b1 : (t240.toList != ([] : List UInt8)) = false := bne_eq_false_iff_eq.mpr c14
    clear c14
    (first | rw [c14b0] | (simp only [i64_w, i32_w]; rw [c14b0]) | skip)
    have H' := Aside0.mk H
    clear H
    go_wp2
    go_meet
    case rel => exact ⟨_, (true), hsr, H', ⟨by first | omega | exact Nat.le_refl _⟩, ⟨by refine pk ?_; refine blk_far ?_ NB239_248.out _; refine pk ?_; refine blk_far ?_ NB239_248.out _; refine pk ?_; refine blk_far ?_ NB239_248.out _; exact pk BK239.out⟩, ⟨by refine pk ?_; refine blk_put (cs := #[.string t244, .string t245, .string (⟨#[]⟩ : ByteArray)]) ?_ 2 _ rfl; refine pk ?_; refine blk_put (cs := #[.string t244, .string (⟨#[]⟩ : ByteArray), .string (⟨#[]⟩ : ByteArray)]) ?_ 1 _ rfl; refine pk ?_; refine blk_put (cs := #[.string (⟨#[]⟩ : ByteArray), .string (⟨#[]⟩ : ByteArray), .string (⟨#[]⟩ : ByteArray)]) ?_ 0 _ rfl; exact pk BK248.out⟩, ⟨bl HB.out⟩⟩
   ·rw [if_neg c14] at H
    have c14b0 : (t240.toList == ([] : List UInt8)) = false := beq_eq_false_iff_ne.mpr c14
    have c14b1 : (t240.toList != ([] : List UInt8)) = true := bne_iff_ne.mpr c14
    (first | rw [c14b0] | (simp only [i64_w, i32_w]; rw [c14b0]) | skip)
    by_cases c15 : (!(t244.toList == a0_0.toList) || (!(t245.toList == a0_1.toList) || (!(t246.toList == a0_2.toList)))) = true
    ·rw [if_pos c15] at H
     have c15b0 : (!(t244.toList == a0_0.toList) || (!(t245.toList == a0_1.toList) || (!(t246.toList == a0_2.toList)))) = true := c15
     clear c15
     have H' := Aside0.mk H
     clear H
     have hnb16 := NB248_239.out
     have hnc16 := NB239_248.out
     obtain ⟨hcz17_0, hcz17_1, hcz17_2, hfz17_0, hfz17_1, hfz17_2⟩ := cz3 BK248.out
     obtain ⟨hcz18_0, hcz18_1, hcz18_2, hfz18_0, hfz18_1, hfz18_2⟩ := cz3 BK239.out
     go_wp2
     go_meet
     case rel => exact ⟨_, (true), hsr, H', ⟨by first | omega | exact Nat.le_refl _⟩, ⟨by refine pk ?_; refine blk_far ?_ NB239_248.out _; refine pk ?_; refine blk_far ?_ NB239_248.out _; refine pk ?_; refine blk_far ?_ NB239_248.out _; exact pk BK239.out⟩, ⟨by refine pk ?_; refine blk_put (cs := #[.string t244, .string t245, .string (⟨#[]⟩ : ByteArray)]) ?_ 2 _ rfl; refine pk ?_; refine blk_put (cs := #[.string t244, .string (⟨#[]⟩ : ByteArray), .string (⟨#[]⟩ : ByteArray)]) ?_ 1 _ rfl; refine pk ?_; refine blk_put (cs := #[.string (⟨#[]⟩ : ByteArray), .string (⟨#[]⟩ : ByteArray), .string (⟨#[]⟩ : ByteArray)]) ?_ 0 _ rfl; exact pk BK248.out⟩, ⟨bl HB.out⟩⟩
    ·rw [if_neg c15] at H
     have c15b0 : (!(t244.toList == a0_0.toList) || (!(t245.toList == a0_1.toList) || (!(t246.toList == a0_2.toList)))) = false := by simpa using c15
     clear c15
     have H' := Aside0.mk H
     clear H
     have hnb19 := NB248_239.out
     have hnc19 := NB239_248.out
     obtain ⟨hcz20_0, hcz20_1, hcz20_2, hfz20_0, hfz20_1, hfz20_2⟩ := cz3 BK248.out
     obtain ⟨hcz21_0, hcz21_1, hcz21_2, hfz21_0, hfz21_1, hfz21_2⟩ := cz3 BK239.out
     go_wp2
     go_meet
     case rel => exact ⟨_, ((t247 != 0)), hsr, H', ⟨by first | omega | exact Nat.le_refl _⟩, ⟨by refine pk ?_; refine blk_far ?_ NB239_248.out _; refine pk ?_; refine blk_far ?_ NB239_248.out _; refine pk ?_; refine blk_far ?_ NB239_248.out _; exact pk BK239.out⟩, ⟨by refine pk ?_; refine blk_put (cs := #[.string t244, .string t245, .string (⟨#[]⟩ : ByteArray)]) ?_ 2 _ rfl; refine pk ?_; refine blk_put (cs := #[.string t244, .string (⟨#[]⟩ : ByteArray), .string (⟨#[]⟩ : ByteArray)]) ?_ 1 _ rfl; refine pk ?_; refine blk_put (cs := #[.string (⟨#[]⟩ : ByteArray), .string (⟨#[]⟩ : ByteArray), .string (⟨#[]⟩ : ByteArray)]) ?_ 0 _ rfl; exact pk BK248.out⟩, ⟨bl HB.out⟩⟩
  case rest =>
   clear HC6
   try clear c1
   try clear p2
   try clear c3
   try clear c4
   try clear c4b0
   try clear c4b1
   try clear c6
   try clear p6
   try clear c8
   try clear c12
   try clear c14
   try clear c14b0
   try clear c14b1
   try clear c15
   try clear c15b0
   try clear c16
   try clear c19
   try clear hcz21_0 hcz21_1 hcz21_2 hfz21_0 hfz21_1 hfz21_2
   try clear hcz20_0 hcz20_1 hcz20_2 hfz20_0 hfz20_1 hfz20_2
   try clear hcz18_0 hcz18_1 hcz18_2 hfz18_0 hfz18_1 hfz18_2
   try clear hcz17_0 hcz17_1 hcz17_2 hfz17_0 hfz17_1 hfz17_2
   try clear hcz13_0 hcz13_1 hcz13_2 hfz13_0 hfz13_1 hfz13_2
   try clear hcz8_0 hcz8_1 hcz8_2 hfz8_0 hfz8_1 hfz8_2
   obtain ⟨kq, x44_5, rfl, HA, HJ5, BK239, BK248, HB⟩ := hcut
   cases kq with
   | zero => exact absurd HA.out (by simp [lodestarlaw04_HttpBack.j0])
   | succ kj5 =>
    have H := HA.out
    clear HA
    simp only [lodestarlaw04_HttpBack.j0] at H
    by_cases c22 : x44_5 = true
    ·subst c22
     have H1 : (some false) = some true := by rw [if_pos rfl] at H; exact H
     clear H
     have H := H1
     clear H1
     exact absurd (Option.some.inj H) (by simp)
    ·replace c22 := Bool.eq_false_iff.mpr c22
     subst c22
     have H1 : (if a1.toList = ([] : List UInt8) then (if 0 ≤ (wrap64 ((t240.size : Int) - 1)) then (if (wrap64 ((t240.size : Int) - 1)) ≤ (t240.size : Int) then ((http_Parse.f kj5 (t240.extract 0 ((wrap64 ((t240.size : Int) - 1)) : Int).toNat)).bind fun bt249 => (if bt249.2.2.2 = 0 then (some false) else ((lodestarlaw04_sure.f kj5).bind fun t253 => (some t253)))) else (none)) else (none)) else (if t240.size + a1.size ≤ 9223372036854775807 then ((http_Parse.f kj5 (t240 ++ a1)).bind fun bt254 => (if bt254.2.2.2 = 0 then (some false) else (if 0 ≤ (wrap64 ((t240.size : Int) - 1)) then (if (wrap64 ((t240.size : Int) - 1)) ≤ (t240.size : Int) then ((http_Parse.f kj5 (t240.extract 0 ((wrap64 ((t240.size : Int) - 1)) : Int).toNat)).bind fun bt258 => (if bt258.2.2.2 = 0 then (some false) else ((lodestarlaw04_sure.f kj5).bind fun t262 => (some t262)))) else (none)) else (none)))) else (none))) = some true := by rw [if_neg (show ¬ (false = true) by decide)] at H; exact H
     clear H
     have H := H1
     clear H1
     by_cases c23 : a1.toList = ([] : List UInt8)
     ·rw [if_pos c23] at H
      have c23b0 : (a1.toList == ([] : List UInt8)) = true := beq_iff_eq.mpr c23
      have c23b1 : (a1.toList != ([] : List UInt8)) = false := bne_eq_false_iff_eq.mpr c23
      clear c23
      obtain ⟨ji24, hji24⟩ : ∃ j_ : Int, (wrap64 ((t240.size : Int) - 1)) = j_ := ⟨_, rfl⟩
      replace H : (if 0 ≤ (ji24) then (if (ji24) ≤ (t240.size : Int) then ((http_Parse.f kj5 (t240.extract 0 ((ji24) : Int).toNat)).bind fun bt249 => (if bt249.2.2.2 = 0 then (some false) else ((lodestarlaw04_sure.f kj5).bind fun t253 => (some t253)))) else (none)) else (none)) = some true := by first | (rw [hji24] at H; exact H) | (simp only [hji24] at H ⊢; exact H)
      have hji24w : (IntKind.i64.wrap ((t240.size : Int) - 1)) = ji24 := (i64_w _).trans hji24
      by_cases c25 : 0 ≤ (ji24)
      ·rw [if_pos c25] at H
       have c25b0 := eq_true c25
       have c25b1 : decide (0 ≤ (ji24)) = true := decide_eq_true c25
       clear c25
       by_cases c26 : (ji24) ≤ (t240.size : Int)
       ·rw [if_pos c26] at H
        have c26b0 := eq_true c26
        have c26b1 : decide ((ji24) ≤ (t240.size : Int)) = true := decide_eq_true c26
        clear c26
        replace H := Option.bind_eq_some_iff.mp H
        obtain ⟨⟨t249, t250, t251, t252⟩, A270, H⟩ := H
        replace H : (if t252 = 0 then (some false) else ((lodestarlaw04_sure.f kj5).bind fun t253 => (some t253))) = some true := H
        have A27 := Aside0.mk A270
        clear A270
        by_cases c28 : t252 = 0
        ·rw [if_pos c28] at H
         have c28b0 : (t252 == 0) = true := beq_iff_eq.mpr c28
         have c28b1 : (t252 != 0) = false := bne_eq_false_iff_eq.mpr c28
         clear c28
         exact absurd (Option.some.inj H) (by simp)
        ·rw [if_neg c28] at H
         have c28b0 : (t252 == 0) = false := beq_eq_false_iff_ne.mpr c28
         have c28b1 : (t252 != 0) = true := bne_iff_ne.mpr c28
         replace H := Option.bind_eq_some_iff.mp H
         obtain ⟨t253, A290, H⟩ := H
         replace H : (some t253) = some true := H
         have A29 := Aside0.mk A290
         clear A290
         have hE_ := Aside0.mk (Option.some.inj H)
         clear H
         go_wp2_with (first | ((with_reducible refine gate_callee (f := 8) rfl ?_); refine goesL_ (some 62) rfl rfl Tryd.func8 kr rfl #[.string (t240.extract 0 ((ji24) : Int).toNat)] rfl (by (try simp only [List.map_toArray, List.map_cons, List.map_nil]); first | done | (simp only [hji24]; rfl) | rfl | (simp only [List.length_drop, List.length_take]; rfl) | (go_simp; done) | (go_simp; rfl) | (go_simp; simp only [IntKind.wrap_u64]; omega) | (go_simp; simp only [IntKind.wrap_u32]; omega) | (go_simp; simp only [IntKind.wrap_u8]; omega) | (go_simp; unfold wrap64; omega)) ?_; (with_reducible refine (http_Parse.calls kj5 (t240.extract 0 ((ji24) : Int).toNat) t249 t250 t251 t252 _ ?side1 A27.out).mono ?_); (case side1 => exact LaidU.below HU.out (bl HB.out)); rintro e w30 ⟨rfl, hb⟩; refine ⟨_, rfl, ?_⟩; replace BK239 := Aside0.mk (blk_below (pk BK239.out) hb); replace BK248 := Aside0.mk (blk_below (pk BK248.out) hb); replace HB := Aside0.mk (below_step (bl HB.out) hb); (try clear hb); (try clear hb2); (try clear hk); (try clear hi)) | (go_at_call 7; (with_reducible refine (lodestarlaw04_sure.calls kj5  t253 _ ?side1 A29.out).mono ?_); (case side1 => exact LaidU.below HU.out (bl HB.out)); rintro e w31 ⟨rfl, hb⟩; replace BK239 := Aside0.mk (blk_below (pk BK239.out) hb); replace BK248 := Aside0.mk (blk_below (pk BK248.out) hb); replace HB := Aside0.mk (below_step (bl HB.out) hb); (try clear hb); (try clear hb2); (try clear hk); (try clear hi)))
         go_ret
         exact ⟨by first | rfl | (simp [errW_none, errW_some] <;> rfl) | (simp only [← hji24]; first | rfl | (simp [errW_none, errW_some] <;> rfl)) | exact congrArg (fun b_ => Ending.returned (.bool b_)) hE_.out | (simp [*, errW_none, errW_some] <;> rfl), bl HB.out⟩
       ·rw [if_neg c26] at H
        exact absurd H (by simp)
      ·rw [if_neg c25] at H
       exact absurd H (by simp)
     ·rw [if_neg c23] at H
      have c23b0 : (a1.toList == ([] : List UInt8)) = false := beq_eq_false_iff_ne.mpr c23
      have c23b1 : (a1.toList != ([] : List UInt8)) = true := bne_iff_ne.mpr c23
      by_cases c32 : t240.size + a1.size ≤ 9223372036854775807
      ·rw [if_pos c32] at H
       have c32b0 := eq_true c32
       have c32b1 : decide (t240.size + a1.size ≤ 9223372036854775807) = true := decide_eq_true c32
       try have c32b2 : (9223372036854775807 < t240.size + a1.size) = False := eq_false (Nat.not_lt.2 c32)
       replace H := Option.bind_eq_some_iff.mp H
       obtain ⟨⟨t254, t255, t256, t257⟩, A330, H⟩ := H
       replace H : (if t257 = 0 then (some false) else (if 0 ≤ (wrap64 ((t240.size : Int) - 1)) then (if (wrap64 ((t240.size : Int) - 1)) ≤ (t240.size : Int) then ((http_Parse.f kj5 (t240.extract 0 ((wrap64 ((t240.size : Int) - 1)) : Int).toNat)).bind fun bt258 => (if bt258.2.2.2 = 0 then (some false) else ((lodestarlaw04_sure.f kj5).bind fun t262 => (some t262)))) else (none)) else (none))) = some true := H
       have A33 := Aside0.mk A330
       clear A330
       by_cases c34 : t257 = 0
       ·rw [if_pos c34] at H
        have c34b0 : (t257 == 0) = true := beq_iff_eq.mpr c34
        have c34b1 : (t257 != 0) = false := bne_eq_false_iff_eq.mpr c34
        clear c34
        exact absurd (Option.some.inj H) (by simp)
       ·rw [if_neg c34] at H
        have c34b0 : (t257 == 0) = false := beq_eq_false_iff_ne.mpr c34
        have c34b1 : (t257 != 0) = true := bne_iff_ne.mpr c34
        obtain ⟨ji35, hji35⟩ : ∃ j_ : Int, (wrap64 ((t240.size : Int) - 1)) = j_ := ⟨_, rfl⟩
        replace H : (if 0 ≤ (ji35) then (if (ji35) ≤ (t240.size : Int) then ((http_Parse.f kj5 (t240.extract 0 ((ji35) : Int).toNat)).bind fun bt258 => (if bt258.2.2.2 = 0 then (some false) else ((lodestarlaw04_sure.f kj5).bind fun t262 => (some t262)))) else (none)) else (none)) = some true := by first | (rw [hji35] at H; exact H) | (simp only [hji35] at H ⊢; exact H)
        (try rw [hji35] at A33)
        have hji35w : (IntKind.i64.wrap ((t240.size : Int) - 1)) = ji35 := (i64_w _).trans hji35
        by_cases c36 : 0 ≤ (ji35)
        ·rw [if_pos c36] at H
         have c36b0 := eq_true c36
         have c36b1 : decide (0 ≤ (ji35)) = true := decide_eq_true c36
         clear c36
         by_cases c37 : (ji35) ≤ (t240.size : Int)
         ·rw [if_pos c37] at H
          have c37b0 := eq_true c37
          have c37b1 : decide ((ji35) ≤ (t240.size : Int)) = true := decide_eq_true c37
          clear c37
          replace H := Option.bind_eq_some_iff.mp H
          obtain ⟨⟨t258, t259, t260, t261⟩, A380, H⟩ := H
          replace H : (if t261 = 0 then (some false) else ((lodestarlaw04_sure.f kj5).bind fun t262 => (some t262))) = some true := H
          have A38 := Aside0.mk A380
          clear A380
          by_cases c39 : t261 = 0
          ·rw [if_pos c39] at H
           have c39b0 : (t261 == 0) = true := beq_iff_eq.mpr c39
           have c39b1 : (t261 != 0) = false := bne_eq_false_iff_eq.mpr c39
           clear c39
           exact absurd (Option.some.inj H) (by simp)
          ·rw [if_neg c39] at H
           have c39b0 : (t261 == 0) = false := beq_eq_false_iff_ne.mpr c39
           have c39b1 : (t261 != 0) = true := bne_iff_ne.mpr c39
           replace H := Option.bind_eq_some_iff.mp H
           obtain ⟨t262, A400, H⟩ := H
           replace H : (some t262) = some true := H
           have A40 := Aside0.mk A400
           clear A400
           have hE_ := Aside0.mk (Option.some.inj H)
           clear H
           go_wp2_with (first | ((with_reducible refine gate_callee (f := 8) rfl ?_); refine goesL_ (some 51) rfl rfl Tryd.func8 kr rfl #[.string (t240 ++ a1)] rfl ga ?_; (with_reducible refine (http_Parse.calls kj5 (t240 ++ a1) t254 t255 t256 t257 _ ?side1 A33.out).mono ?_); (case side1 => exact LaidU.below HU.out (bl HB.out)); rintro e w41 ⟨rfl, hb⟩; refine ⟨_, rfl, ?_⟩; replace BK239 := Aside0.mk (blk_below (pk BK239.out) hb); replace BK248 := Aside0.mk (blk_below (pk BK248.out) hb); replace HB := Aside0.mk (below_step (bl HB.out) hb); (try clear hb); (try clear hb2); (try clear hk); (try clear hi)) | ((with_reducible refine gate_callee (f := 8) rfl ?_); refine goesL_ (some 62) rfl rfl Tryd.func8 kr rfl #[.string (t240.extract 0 ((ji35) : Int).toNat)] rfl (by (try simp only [List.map_toArray, List.map_cons, List.map_nil]); first | done | (simp only [hji35]; rfl) | rfl | (simp only [List.length_drop, List.length_take]; rfl) | (go_simp; done) | (go_simp; rfl) | (go_simp; simp only [IntKind.wrap_u64]; omega) | (go_simp; simp only [IntKind.wrap_u32]; omega) | (go_simp; simp only [IntKind.wrap_u8]; omega) | (go_simp; unfold wrap64; omega)) ?_; (with_reducible refine (http_Parse.calls kj5 (t240.extract 0 ((ji35) : Int).toNat) t258 t259 t260 t261 _ ?side1 A38.out).mono ?_); (case side1 => exact LaidU.below HU.out (bl HB.out)); rintro e w42 ⟨rfl, hb⟩; refine ⟨_, rfl, ?_⟩; replace BK239 := Aside0.mk (blk_below (pk BK239.out) hb); replace BK248 := Aside0.mk (blk_below (pk BK248.out) hb); replace HB := Aside0.mk (below_step (bl HB.out) hb); (try clear hb); (try clear hb2); (try clear hk); (try clear hi)) | (go_at_call 7; (with_reducible refine (lodestarlaw04_sure.calls kj5  t262 _ ?side1 A40.out).mono ?_); (case side1 => exact LaidU.below HU.out (bl HB.out)); rintro e w43 ⟨rfl, hb⟩; replace BK239 := Aside0.mk (blk_below (pk BK239.out) hb); replace BK248 := Aside0.mk (blk_below (pk BK248.out) hb); replace HB := Aside0.mk (below_step (bl HB.out) hb); (try clear hb); (try clear hb2); (try clear hk); (try clear hi)))
           go_ret
           exact ⟨by first | rfl | (simp [errW_none, errW_some] <;> rfl) | (simp only [← hji35]; first | rfl | (simp [errW_none, errW_some] <;> rfl)) | exact congrArg (fun b_ => Ending.returned (.bool b_)) hE_.out | (simp [*, errW_none, errW_some] <;> rfl), bl HB.out⟩
         ·rw [if_neg c37] at H
          exact absurd H (by simp)
        ·rw [if_neg c36] at H
         exact absurd H (by simp)
      ·rw [if_neg c32] at H
       exact absurd H (by simp)
 ·rw [if_neg c4] at H
  have c4b0 : (t241 == 0) = false := beq_eq_false_iff_ne.mpr c4
  have c4b1 : (t241 != 0) = true := bne_iff_ne.mpr c4
  by_cases c44 : t240.toList = ([] : List UInt8)
  ·rw [if_pos c44] at H
   have c44b0 : (t240.toList == ([] : List UInt8)) = true := beq_iff_eq.mpr c44
   have c44b1 : (t240.toList != ([] : List UInt8)) = false := bne_eq_false_iff_eq.mpr c44
   clear c44
   by_cases c45 : t241 = 40
   ·rw [if_pos c45] at H
    have c45b0 : (t241 == 40) = true := beq_iff_eq.mpr c45
    have c45b1 : (t241 != 40) = false := bne_eq_false_iff_eq.mpr c45
    clear c45
    replace H := Option.bind_eq_some_iff.mp H
    obtain ⟨t242, A460, H⟩ := H
    replace H : (some t242) = some true := H
    have A46 := Aside0.mk A460
    clear A460
    have hE_ := Aside0.mk (Option.some.inj H)
    clear H
    go_enter Tryd.func3, Tryd.ntmps3
    go_wp2_with (first | ((with_reducible refine gate_dst (N := 2) rfl ?_); refine box_event ?hg (N := 2) ?hd (cs := #[.string a0_0, .string a0_1, .string a0_2]) (t := 23) ?hr ?_; (case hd => rfl); (case hg => rfl); (case hr => first | (go_simp; done) | (go_simp; rfl)); intro gb239 hg w47 hbox hb; have BK239 := Aside0.mk (hbox); have GW239 := Aside0.mk (gs (w := w) hg (bl HB.out)); have GE239 := Aside0.mk (gs (w := w) hg (bl HB.out)); replace HB := Aside0.mk (below_step (bl HB.out) hb); clear hb hbox hg; obtain ⟨hcz48_0, hcz48_1, hcz48_2, hfz48_0, hfz48_1, hfz48_2⟩ := cz3 BK239.out) | ((with_reducible refine gate_callee (f := 6) rfl ?_); refine goesL_ (some 11) rfl rfl Tryd.func6 kr rfl #[.agg #[.string a0_0, .string a0_1, .string a0_2]] rfl ga ?_; (with_reducible refine (http_Write.calls k a0_0 a0_1 a0_2 t240 t241 _ ?side1 A3.out).mono ?_); (case side1 => exact LaidU.below HU.out (bl HB.out)); rintro e w49 ⟨rfl, hb⟩; refine ⟨_, rfl, ?_⟩; replace BK239 := Aside0.mk (blk_below (pk BK239.out) hb); replace HB := Aside0.mk (below_step (bl HB.out) hb); (try clear hb); (try clear hb2); (try clear hk); (try clear hi)) | (go_at_call 7; (with_reducible refine (lodestarlaw04_sure.calls k  t242 _ ?side1 A46.out).mono ?_); (case side1 => exact LaidU.below HU.out (bl HB.out)); rintro e w50 ⟨rfl, hb⟩; replace BK239 := Aside0.mk (blk_below (pk BK239.out) hb); replace HB := Aside0.mk (below_step (bl HB.out) hb); (try clear hb); (try clear hb2); (try clear hk); (try clear hi)))
    go_ret
    exact ⟨er1, bl HB.out⟩
   ·rw [if_neg c45] at H
    have c45b0 : (t241 == 40) = false := beq_eq_false_iff_ne.mpr c45
    have c45b1 : (t241 != 40) = true := bne_iff_ne.mpr c45
    by_cases c51 : t241 = 41
    ·rw [if_pos c51] at H
     have c51b0 : (t241 == 41) = true := beq_iff_eq.mpr c51
     have c51b1 : (t241 != 41) = false := bne_eq_false_iff_eq.mpr c51
     clear c51
     replace H := Option.bind_eq_some_iff.mp H
     obtain ⟨t243, A520, H⟩ := H
     replace H : (some t243) = some true := H
     have A52 := Aside0.mk A520
     clear A520
     have hE_ := Aside0.mk (Option.some.inj H)
     clear H
     go_enter Tryd.func3, Tryd.ntmps3
     go_wp2_with (first | ((with_reducible refine gate_dst (N := 2) rfl ?_); refine box_event ?hg (N := 2) ?hd (cs := #[.string a0_0, .string a0_1, .string a0_2]) (t := 23) ?hr ?_; (case hd => rfl); (case hg => rfl); (case hr => first | (go_simp; done) | (go_simp; rfl)); intro gb239 hg w53 hbox hb; have BK239 := Aside0.mk (hbox); have GW239 := Aside0.mk (gs (w := w) hg (bl HB.out)); have GE239 := Aside0.mk (gs (w := w) hg (bl HB.out)); replace HB := Aside0.mk (below_step (bl HB.out) hb); clear hb hbox hg; obtain ⟨hcz54_0, hcz54_1, hcz54_2, hfz54_0, hfz54_1, hfz54_2⟩ := cz3 BK239.out) | ((with_reducible refine gate_callee (f := 6) rfl ?_); refine goesL_ (some 11) rfl rfl Tryd.func6 kr rfl #[.agg #[.string a0_0, .string a0_1, .string a0_2]] rfl ga ?_; (with_reducible refine (http_Write.calls k a0_0 a0_1 a0_2 t240 t241 _ ?side1 A3.out).mono ?_); (case side1 => exact LaidU.below HU.out (bl HB.out)); rintro e w55 ⟨rfl, hb⟩; refine ⟨_, rfl, ?_⟩; replace BK239 := Aside0.mk (blk_below (pk BK239.out) hb); replace HB := Aside0.mk (below_step (bl HB.out) hb); (try clear hb); (try clear hb2); (try clear hk); (try clear hi)) | (go_at_call 7; (with_reducible refine (lodestarlaw04_sure.calls k  t243 _ ?side1 A52.out).mono ?_); (case side1 => exact LaidU.below HU.out (bl HB.out)); rintro e w56 ⟨rfl, hb⟩; replace BK239 := Aside0.mk (blk_below (pk BK239.out) hb); replace HB := Aside0.mk (below_step (bl HB.out) hb); (try clear hb); (try clear hb2); (try clear hk); (try clear hi)))
     go_ret
     exact ⟨er1, bl HB.out⟩
    ·rw [if_neg c51] at H
     have c51b0 : (t241 == 41) = false := beq_eq_false_iff_ne.mpr c51
     have c51b1 : (t241 != 41) = true := bne_iff_ne.mpr c51
     exact absurd (Option.some.inj H) (by simp)
  ·rw [if_neg c44] at H
   have c44b0 : (t240.toList == ([] : List UInt8)) = false := beq_eq_false_iff_ne.mpr c44
   have c44b1 : (t240.toList != ([] : List UInt8)) = true := bne_iff_ne.mpr c44
   exact absurd (Option.some.inj H) (by simp)

end Go.Proofs.YteeiljjjgkinhaaDoor.PHttpD
