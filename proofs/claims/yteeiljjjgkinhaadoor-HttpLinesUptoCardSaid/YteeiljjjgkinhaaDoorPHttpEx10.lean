-- Written by a program of this session on top of the print: some functions by hand.
import Derived.Test.YteeiljjjgkinhaaDoorPHttpEx0
import Derived.Test.YteeiljjjgkinhaaDoorPHttpEx1
import Derived.Test.YteeiljjjgkinhaaDoorPHttpEx2
import Derived.Test.YteeiljjjgkinhaaDoorPHttpEx3
import Derived.Test.YteeiljjjgkinhaaDoorPHttpEx9
namespace Go.Proofs.YteeiljjjgkinhaaDoor.PHttpE
open Go.RowKit Go.Proofs.YteeiljjjgkinhaaDoorW.PrintWords Go.Proofs.YteeiljjjgkinhaaDoorW.PrintLast Go.Proofs.YteeiljjjgkinhaaDoorW.PrintMore
attribute [local go_sem] max2_int min2_int max_two min_two max_three min_three max_four min_four   -- for this text's walks alone
set_option linter.unusedVariables false
set_option linter.unusedSimpArgs false

attribute [local go_sem high] eqA23
/-! ### http_Print: function 14 -/
def http_Print.f (a0_0 : Int) (a0_1 : ByteArray) : Option (ByteArray) := (strconv_Itoa_12.f a0_0).bind fun t217 => (if 9 + t217.size ≤ 9223372036854775807 then (if ((⟨#[72, 84, 84, 80, 47, 49, 46, 49, 32]⟩ : ByteArray) ++ t217).size + 1 ≤ 9223372036854775807 then ((http_Reason.f a0_0).bind fun t218 => (if (((⟨#[72, 84, 84, 80, 47, 49, 46, 49, 32]⟩ : ByteArray) ++ t217) ++ (⟨#[32]⟩ : ByteArray)).size + t218.size ≤ 9223372036854775807 then (if ((((⟨#[72, 84, 84, 80, 47, 49, 46, 49, 32]⟩ : ByteArray) ++ t217) ++ (⟨#[32]⟩ : ByteArray)) ++ t218).size + 50 ≤ 9223372036854775807 then ((strconv_Itoa_12.f (a0_1.size : Int)).bind fun t219 => (if (((((⟨#[72, 84, 84, 80, 47, 49, 46, 49, 32]⟩ : ByteArray) ++ t217) ++ (⟨#[32]⟩ : ByteArray)) ++ t218) ++ (⟨#[13, 10, 67, 111, 110, 116, 101, 110, 116, 45, 84, 121, 112, 101, 58, 32, 97, 112, 112, 108, 105, 99, 97, 116, 105, 111, 110, 47, 106, 115, 111, 110, 13, 10, 67, 111, 110, 116, 101, 110, 116, 45, 76, 101, 110, 103, 116, 104, 58, 32]⟩ : ByteArray)).size + t219.size ≤ 9223372036854775807 then (if ((((((⟨#[72, 84, 84, 80, 47, 49, 46, 49, 32]⟩ : ByteArray) ++ t217) ++ (⟨#[32]⟩ : ByteArray)) ++ t218) ++ (⟨#[13, 10, 67, 111, 110, 116, 101, 110, 116, 45, 84, 121, 112, 101, 58, 32, 97, 112, 112, 108, 105, 99, 97, 116, 105, 111, 110, 47, 106, 115, 111, 110, 13, 10, 67, 111, 110, 116, 101, 110, 116, 45, 76, 101, 110, 103, 116, 104, 58, 32]⟩ : ByteArray)) ++ t219).size + 4 ≤ 9223372036854775807 then (if (((((((⟨#[72, 84, 84, 80, 47, 49, 46, 49, 32]⟩ : ByteArray) ++ t217) ++ (⟨#[32]⟩ : ByteArray)) ++ t218) ++ (⟨#[13, 10, 67, 111, 110, 116, 101, 110, 116, 45, 84, 121, 112, 101, 58, 32, 97, 112, 112, 108, 105, 99, 97, 116, 105, 111, 110, 47, 106, 115, 111, 110, 13, 10, 67, 111, 110, 116, 101, 110, 116, 45, 76, 101, 110, 103, 116, 104, 58, 32]⟩ : ByteArray)) ++ t219) ++ (⟨#[13, 10, 13, 10]⟩ : ByteArray)).size + a0_1.size ≤ 9223372036854775807 then (some ((((((((⟨#[72, 84, 84, 80, 47, 49, 46, 49, 32]⟩ : ByteArray) ++ t217) ++ (⟨#[32]⟩ : ByteArray)) ++ t218) ++ (⟨#[13, 10, 67, 111, 110, 116, 101, 110, 116, 45, 84, 121, 112, 101, 58, 32, 97, 112, 112, 108, 105, 99, 97, 116, 105, 111, 110, 47, 106, 115, 111, 110, 13, 10, 67, 111, 110, 116, 101, 110, 116, 45, 76, 101, 110, 103, 116, 104, 58, 32]⟩ : ByteArray)) ++ t219) ++ (⟨#[13, 10, 13, 10]⟩ : ByteArray)) ++ a0_1)) else (none)) else (none)) else (none))) else (none)) else (none))) else (none)) else (none))
def http_Print.T1 : Bool × List (List Nat × List Nat) := (true, [([], []), ([0], [0]), ([1], [1]), ([2], [2]), ([3], [3]), ([], []), ([5], [5]), ([6, 2], [6]), ([4, 7], [4, 7]), ([8], [8]), ([], []), ([10], [10]), ([11], [11]), ([12, 7], [12]), ([9, 13], [9, 13]), ([14], [14]), ([], []), ([16], [16]), ([15, 17], [15, 17]), ([18, 13, 0, 1, 2, 3, 4, 5, 6, 7, 8, 9, 10, 11, 12, 13, 14, 15, 16, 17, 18], [18])])
def http_Print.B1 : List Nat := [0, 1, 3, 7, 15, 0, 32, 103, 255, 511, 0, 1024, 3072, 7399, 16383, 32767, 0, 65536, 262143, 524287]
theorem http_Print.tab1 : rtab .any (opsOf Tryd.f14 1) = http_Print.T1 := by kernel_rfl
theorem http_Print.bits1 : waitsOk http_Print.T1.2 http_Print.B1 = true := by kernel_rfl
set_option maxHeartbeats 8000000 in
set_option maxRecDepth 100000 in
theorem http_Print.calls (a0_0 : Int) (a0_1 : ByteArray) (r : ByteArray) (w : World) (hU : LaidU w) (h : http_Print.f a0_0 a0_1 = some r) :
  Calls Tryd.prog 14 #[.agg #[.int .i64 a0_0, .string a0_1]] w fun e w' => e = .returned (.string r) ∧ Below w.heap.size w w' := by
 have hu38 := Tryd.underlying38
 have HU := Aside0.mk hU
 clear hU
 have HB := Aside0.mk (Below.refl w.heap.size w)
 have H : ((strconv_Itoa_12.f a0_0).bind fun t217 => (if 9 + t217.size ≤ 9223372036854775807 then (if ((⟨#[72, 84, 84, 80, 47, 49, 46, 49, 32]⟩ : ByteArray) ++ t217).size + 1 ≤ 9223372036854775807 then ((http_Reason.f a0_0).bind fun t218 => (if (((⟨#[72, 84, 84, 80, 47, 49, 46, 49, 32]⟩ : ByteArray) ++ t217) ++ (⟨#[32]⟩ : ByteArray)).size + t218.size ≤ 9223372036854775807 then (if ((((⟨#[72, 84, 84, 80, 47, 49, 46, 49, 32]⟩ : ByteArray) ++ t217) ++ (⟨#[32]⟩ : ByteArray)) ++ t218).size + 50 ≤ 9223372036854775807 then ((strconv_Itoa_12.f (a0_1.size : Int)).bind fun t219 => (if (((((⟨#[72, 84, 84, 80, 47, 49, 46, 49, 32]⟩ : ByteArray) ++ t217) ++ (⟨#[32]⟩ : ByteArray)) ++ t218) ++ (⟨#[13, 10, 67, 111, 110, 116, 101, 110, 116, 45, 84, 121, 112, 101, 58, 32, 97, 112, 112, 108, 105, 99, 97, 116, 105, 111, 110, 47, 106, 115, 111, 110, 13, 10, 67, 111, 110, 116, 101, 110, 116, 45, 76, 101, 110, 103, 116, 104, 58, 32]⟩ : ByteArray)).size + t219.size ≤ 9223372036854775807 then (if ((((((⟨#[72, 84, 84, 80, 47, 49, 46, 49, 32]⟩ : ByteArray) ++ t217) ++ (⟨#[32]⟩ : ByteArray)) ++ t218) ++ (⟨#[13, 10, 67, 111, 110, 116, 101, 110, 116, 45, 84, 121, 112, 101, 58, 32, 97, 112, 112, 108, 105, 99, 97, 116, 105, 111, 110, 47, 106, 115, 111, 110, 13, 10, 67, 111, 110, 116, 101, 110, 116, 45, 76, 101, 110, 103, 116, 104, 58, 32]⟩ : ByteArray)) ++ t219).size + 4 ≤ 9223372036854775807 then (if (((((((⟨#[72, 84, 84, 80, 47, 49, 46, 49, 32]⟩ : ByteArray) ++ t217) ++ (⟨#[32]⟩ : ByteArray)) ++ t218) ++ (⟨#[13, 10, 67, 111, 110, 116, 101, 110, 116, 45, 84, 121, 112, 101, 58, 32, 97, 112, 112, 108, 105, 99, 97, 116, 105, 111, 110, 47, 106, 115, 111, 110, 13, 10, 67, 111, 110, 116, 101, 110, 116, 45, 76, 101, 110, 103, 116, 104, 58, 32]⟩ : ByteArray)) ++ t219) ++ (⟨#[13, 10, 13, 10]⟩ : ByteArray)).size + a0_1.size ≤ 9223372036854775807 then (some ((((((((⟨#[72, 84, 84, 80, 47, 49, 46, 49, 32]⟩ : ByteArray) ++ t217) ++ (⟨#[32]⟩ : ByteArray)) ++ t218) ++ (⟨#[13, 10, 67, 111, 110, 116, 101, 110, 116, 45, 84, 121, 112, 101, 58, 32, 97, 112, 112, 108, 105, 99, 97, 116, 105, 111, 110, 47, 106, 115, 111, 110, 13, 10, 67, 111, 110, 116, 101, 110, 116, 45, 76, 101, 110, 103, 116, 104, 58, 32]⟩ : ByteArray)) ++ t219) ++ (⟨#[13, 10, 13, 10]⟩ : ByteArray)) ++ a0_1)) else (none)) else (none)) else (none))) else (none)) else (none))) else (none)) else (none))) = some r := h
 clear h
 replace H := Option.bind_eq_some_iff.mp H
 obtain ⟨t217, A20, H⟩ := H
 replace H : (if 9 + t217.size ≤ 9223372036854775807 then (if ((⟨#[72, 84, 84, 80, 47, 49, 46, 49, 32]⟩ : ByteArray) ++ t217).size + 1 ≤ 9223372036854775807 then ((http_Reason.f a0_0).bind fun t218 => (if (((⟨#[72, 84, 84, 80, 47, 49, 46, 49, 32]⟩ : ByteArray) ++ t217) ++ (⟨#[32]⟩ : ByteArray)).size + t218.size ≤ 9223372036854775807 then (if ((((⟨#[72, 84, 84, 80, 47, 49, 46, 49, 32]⟩ : ByteArray) ++ t217) ++ (⟨#[32]⟩ : ByteArray)) ++ t218).size + 50 ≤ 9223372036854775807 then ((strconv_Itoa_12.f (a0_1.size : Int)).bind fun t219 => (if (((((⟨#[72, 84, 84, 80, 47, 49, 46, 49, 32]⟩ : ByteArray) ++ t217) ++ (⟨#[32]⟩ : ByteArray)) ++ t218) ++ (⟨#[13, 10, 67, 111, 110, 116, 101, 110, 116, 45, 84, 121, 112, 101, 58, 32, 97, 112, 112, 108, 105, 99, 97, 116, 105, 111, 110, 47, 106, 115, 111, 110, 13, 10, 67, 111, 110, 116, 101, 110, 116, 45, 76, 101, 110, 103, 116, 104, 58, 32]⟩ : ByteArray)).size + t219.size ≤ 9223372036854775807 then (if ((((((⟨#[72, 84, 84, 80, 47, 49, 46, 49, 32]⟩ : ByteArray) ++ t217) ++ (⟨#[32]⟩ : ByteArray)) ++ t218) ++ (⟨#[13, 10, 67, 111, 110, 116, 101, 110, 116, 45, 84, 121, 112, 101, 58, 32, 97, 112, 112, 108, 105, 99, 97, 116, 105, 111, 110, 47, 106, 115, 111, 110, 13, 10, 67, 111, 110, 116, 101, 110, 116, 45, 76, 101, 110, 103, 116, 104, 58, 32]⟩ : ByteArray)) ++ t219).size + 4 ≤ 9223372036854775807 then (if (((((((⟨#[72, 84, 84, 80, 47, 49, 46, 49, 32]⟩ : ByteArray) ++ t217) ++ (⟨#[32]⟩ : ByteArray)) ++ t218) ++ (⟨#[13, 10, 67, 111, 110, 116, 101, 110, 116, 45, 84, 121, 112, 101, 58, 32, 97, 112, 112, 108, 105, 99, 97, 116, 105, 111, 110, 47, 106, 115, 111, 110, 13, 10, 67, 111, 110, 116, 101, 110, 116, 45, 76, 101, 110, 103, 116, 104, 58, 32]⟩ : ByteArray)) ++ t219) ++ (⟨#[13, 10, 13, 10]⟩ : ByteArray)).size + a0_1.size ≤ 9223372036854775807 then (some ((((((((⟨#[72, 84, 84, 80, 47, 49, 46, 49, 32]⟩ : ByteArray) ++ t217) ++ (⟨#[32]⟩ : ByteArray)) ++ t218) ++ (⟨#[13, 10, 67, 111, 110, 116, 101, 110, 116, 45, 84, 121, 112, 101, 58, 32, 97, 112, 112, 108, 105, 99, 97, 116, 105, 111, 110, 47, 106, 115, 111, 110, 13, 10, 67, 111, 110, 116, 101, 110, 116, 45, 76, 101, 110, 103, 116, 104, 58, 32]⟩ : ByteArray)) ++ t219) ++ (⟨#[13, 10, 13, 10]⟩ : ByteArray)) ++ a0_1)) else (none)) else (none)) else (none))) else (none)) else (none))) else (none)) else (none)) = some r := H
 have A2 := Aside0.mk A20
 clear A20
 by_cases c3 : 9 + t217.size ≤ 9223372036854775807
 ·rw [if_pos c3] at H
  have c3b0 := eq_true c3
  have c3b1 : decide (9 + t217.size ≤ 9223372036854775807) = true := decide_eq_true c3
  try have c3b2 : (9223372036854775807 < 9 + t217.size) = False := eq_false (Nat.not_lt.2 c3)
  by_cases c4 : ((⟨#[72, 84, 84, 80, 47, 49, 46, 49, 32]⟩ : ByteArray) ++ t217).size + 1 ≤ 9223372036854775807
  ·rw [if_pos c4] at H
   have c4b0 := eq_true c4
   have c4b1 : decide (((⟨#[72, 84, 84, 80, 47, 49, 46, 49, 32]⟩ : ByteArray) ++ t217).size + 1 ≤ 9223372036854775807) = true := decide_eq_true c4
   try have c4b2 : (9223372036854775807 < ((⟨#[72, 84, 84, 80, 47, 49, 46, 49, 32]⟩ : ByteArray) ++ t217).size + 1) = False := eq_false (Nat.not_lt.2 c4)
   (try (have c4z0 := c4b0; simp only [ByteArray.size_append] at c4z0))
   (try (have c4z1 := c4b1; simp only [ByteArray.size_append] at c4z1))
   (try (have c4z2 := c4b2; simp only [ByteArray.size_append] at c4z2))
   replace H := Option.bind_eq_some_iff.mp H
   obtain ⟨t218, A50, H⟩ := H
   replace H : (if (((⟨#[72, 84, 84, 80, 47, 49, 46, 49, 32]⟩ : ByteArray) ++ t217) ++ (⟨#[32]⟩ : ByteArray)).size + t218.size ≤ 9223372036854775807 then (if ((((⟨#[72, 84, 84, 80, 47, 49, 46, 49, 32]⟩ : ByteArray) ++ t217) ++ (⟨#[32]⟩ : ByteArray)) ++ t218).size + 50 ≤ 9223372036854775807 then ((strconv_Itoa_12.f (a0_1.size : Int)).bind fun t219 => (if (((((⟨#[72, 84, 84, 80, 47, 49, 46, 49, 32]⟩ : ByteArray) ++ t217) ++ (⟨#[32]⟩ : ByteArray)) ++ t218) ++ (⟨#[13, 10, 67, 111, 110, 116, 101, 110, 116, 45, 84, 121, 112, 101, 58, 32, 97, 112, 112, 108, 105, 99, 97, 116, 105, 111, 110, 47, 106, 115, 111, 110, 13, 10, 67, 111, 110, 116, 101, 110, 116, 45, 76, 101, 110, 103, 116, 104, 58, 32]⟩ : ByteArray)).size + t219.size ≤ 9223372036854775807 then (if ((((((⟨#[72, 84, 84, 80, 47, 49, 46, 49, 32]⟩ : ByteArray) ++ t217) ++ (⟨#[32]⟩ : ByteArray)) ++ t218) ++ (⟨#[13, 10, 67, 111, 110, 116, 101, 110, 116, 45, 84, 121, 112, 101, 58, 32, 97, 112, 112, 108, 105, 99, 97, 116, 105, 111, 110, 47, 106, 115, 111, 110, 13, 10, 67, 111, 110, 116, 101, 110, 116, 45, 76, 101, 110, 103, 116, 104, 58, 32]⟩ : ByteArray)) ++ t219).size + 4 ≤ 9223372036854775807 then (if (((((((⟨#[72, 84, 84, 80, 47, 49, 46, 49, 32]⟩ : ByteArray) ++ t217) ++ (⟨#[32]⟩ : ByteArray)) ++ t218) ++ (⟨#[13, 10, 67, 111, 110, 116, 101, 110, 116, 45, 84, 121, 112, 101, 58, 32, 97, 112, 112, 108, 105, 99, 97, 116, 105, 111, 110, 47, 106, 115, 111, 110, 13, 10, 67, 111, 110, 116, 101, 110, 116, 45, 76, 101, 110, 103, 116, 104, 58, 32]⟩ : ByteArray)) ++ t219) ++ (⟨#[13, 10, 13, 10]⟩ : ByteArray)).size + a0_1.size ≤ 9223372036854775807 then (some ((((((((⟨#[72, 84, 84, 80, 47, 49, 46, 49, 32]⟩ : ByteArray) ++ t217) ++ (⟨#[32]⟩ : ByteArray)) ++ t218) ++ (⟨#[13, 10, 67, 111, 110, 116, 101, 110, 116, 45, 84, 121, 112, 101, 58, 32, 97, 112, 112, 108, 105, 99, 97, 116, 105, 111, 110, 47, 106, 115, 111, 110, 13, 10, 67, 111, 110, 116, 101, 110, 116, 45, 76, 101, 110, 103, 116, 104, 58, 32]⟩ : ByteArray)) ++ t219) ++ (⟨#[13, 10, 13, 10]⟩ : ByteArray)) ++ a0_1)) else (none)) else (none)) else (none))) else (none)) else (none)) = some r := H
   have A5 := Aside0.mk A50
   clear A50
   by_cases c6 : (((⟨#[72, 84, 84, 80, 47, 49, 46, 49, 32]⟩ : ByteArray) ++ t217) ++ (⟨#[32]⟩ : ByteArray)).size + t218.size ≤ 9223372036854775807
   ·rw [if_pos c6] at H
    have c6b0 := eq_true c6
    have c6b1 : decide ((((⟨#[72, 84, 84, 80, 47, 49, 46, 49, 32]⟩ : ByteArray) ++ t217) ++ (⟨#[32]⟩ : ByteArray)).size + t218.size ≤ 9223372036854775807) = true := decide_eq_true c6
    try have c6b2 : (9223372036854775807 < (((⟨#[72, 84, 84, 80, 47, 49, 46, 49, 32]⟩ : ByteArray) ++ t217) ++ (⟨#[32]⟩ : ByteArray)).size + t218.size) = False := eq_false (Nat.not_lt.2 c6)
    (try (have c6z0 := c6b0; simp only [ByteArray.size_append] at c6z0))
    (try (have c6z1 := c6b1; simp only [ByteArray.size_append] at c6z1))
    (try (have c6z2 := c6b2; simp only [ByteArray.size_append] at c6z2))
    by_cases c7 : ((((⟨#[72, 84, 84, 80, 47, 49, 46, 49, 32]⟩ : ByteArray) ++ t217) ++ (⟨#[32]⟩ : ByteArray)) ++ t218).size + 50 ≤ 9223372036854775807
    ·rw [if_pos c7] at H
     have c7b0 := eq_true c7
     have c7b1 : decide (((((⟨#[72, 84, 84, 80, 47, 49, 46, 49, 32]⟩ : ByteArray) ++ t217) ++ (⟨#[32]⟩ : ByteArray)) ++ t218).size + 50 ≤ 9223372036854775807) = true := decide_eq_true c7
     try have c7b2 : (9223372036854775807 < ((((⟨#[72, 84, 84, 80, 47, 49, 46, 49, 32]⟩ : ByteArray) ++ t217) ++ (⟨#[32]⟩ : ByteArray)) ++ t218).size + 50) = False := eq_false (Nat.not_lt.2 c7)
     (try (have c7z0 := c7b0; simp only [ByteArray.size_append] at c7z0))
     (try (have c7z1 := c7b1; simp only [ByteArray.size_append] at c7z1))
     (try (have c7z2 := c7b2; simp only [ByteArray.size_append] at c7z2))
     replace H := Option.bind_eq_some_iff.mp H
     obtain ⟨t219, A80, H⟩ := H
     replace H : (if (((((⟨#[72, 84, 84, 80, 47, 49, 46, 49, 32]⟩ : ByteArray) ++ t217) ++ (⟨#[32]⟩ : ByteArray)) ++ t218) ++ (⟨#[13, 10, 67, 111, 110, 116, 101, 110, 116, 45, 84, 121, 112, 101, 58, 32, 97, 112, 112, 108, 105, 99, 97, 116, 105, 111, 110, 47, 106, 115, 111, 110, 13, 10, 67, 111, 110, 116, 101, 110, 116, 45, 76, 101, 110, 103, 116, 104, 58, 32]⟩ : ByteArray)).size + t219.size ≤ 9223372036854775807 then (if ((((((⟨#[72, 84, 84, 80, 47, 49, 46, 49, 32]⟩ : ByteArray) ++ t217) ++ (⟨#[32]⟩ : ByteArray)) ++ t218) ++ (⟨#[13, 10, 67, 111, 110, 116, 101, 110, 116, 45, 84, 121, 112, 101, 58, 32, 97, 112, 112, 108, 105, 99, 97, 116, 105, 111, 110, 47, 106, 115, 111, 110, 13, 10, 67, 111, 110, 116, 101, 110, 116, 45, 76, 101, 110, 103, 116, 104, 58, 32]⟩ : ByteArray)) ++ t219).size + 4 ≤ 9223372036854775807 then (if (((((((⟨#[72, 84, 84, 80, 47, 49, 46, 49, 32]⟩ : ByteArray) ++ t217) ++ (⟨#[32]⟩ : ByteArray)) ++ t218) ++ (⟨#[13, 10, 67, 111, 110, 116, 101, 110, 116, 45, 84, 121, 112, 101, 58, 32, 97, 112, 112, 108, 105, 99, 97, 116, 105, 111, 110, 47, 106, 115, 111, 110, 13, 10, 67, 111, 110, 116, 101, 110, 116, 45, 76, 101, 110, 103, 116, 104, 58, 32]⟩ : ByteArray)) ++ t219) ++ (⟨#[13, 10, 13, 10]⟩ : ByteArray)).size + a0_1.size ≤ 9223372036854775807 then (some ((((((((⟨#[72, 84, 84, 80, 47, 49, 46, 49, 32]⟩ : ByteArray) ++ t217) ++ (⟨#[32]⟩ : ByteArray)) ++ t218) ++ (⟨#[13, 10, 67, 111, 110, 116, 101, 110, 116, 45, 84, 121, 112, 101, 58, 32, 97, 112, 112, 108, 105, 99, 97, 116, 105, 111, 110, 47, 106, 115, 111, 110, 13, 10, 67, 111, 110, 116, 101, 110, 116, 45, 76, 101, 110, 103, 116, 104, 58, 32]⟩ : ByteArray)) ++ t219) ++ (⟨#[13, 10, 13, 10]⟩ : ByteArray)) ++ a0_1)) else (none)) else (none)) else (none)) = some r := H
     have A8 := Aside0.mk A80
     clear A80
     by_cases c9 : (((((⟨#[72, 84, 84, 80, 47, 49, 46, 49, 32]⟩ : ByteArray) ++ t217) ++ (⟨#[32]⟩ : ByteArray)) ++ t218) ++ (⟨#[13, 10, 67, 111, 110, 116, 101, 110, 116, 45, 84, 121, 112, 101, 58, 32, 97, 112, 112, 108, 105, 99, 97, 116, 105, 111, 110, 47, 106, 115, 111, 110, 13, 10, 67, 111, 110, 116, 101, 110, 116, 45, 76, 101, 110, 103, 116, 104, 58, 32]⟩ : ByteArray)).size + t219.size ≤ 9223372036854775807
     ·rw [if_pos c9] at H
      have c9b0 := eq_true c9
      have c9b1 : decide ((((((⟨#[72, 84, 84, 80, 47, 49, 46, 49, 32]⟩ : ByteArray) ++ t217) ++ (⟨#[32]⟩ : ByteArray)) ++ t218) ++ (⟨#[13, 10, 67, 111, 110, 116, 101, 110, 116, 45, 84, 121, 112, 101, 58, 32, 97, 112, 112, 108, 105, 99, 97, 116, 105, 111, 110, 47, 106, 115, 111, 110, 13, 10, 67, 111, 110, 116, 101, 110, 116, 45, 76, 101, 110, 103, 116, 104, 58, 32]⟩ : ByteArray)).size + t219.size ≤ 9223372036854775807) = true := decide_eq_true c9
      try have c9b2 : (9223372036854775807 < (((((⟨#[72, 84, 84, 80, 47, 49, 46, 49, 32]⟩ : ByteArray) ++ t217) ++ (⟨#[32]⟩ : ByteArray)) ++ t218) ++ (⟨#[13, 10, 67, 111, 110, 116, 101, 110, 116, 45, 84, 121, 112, 101, 58, 32, 97, 112, 112, 108, 105, 99, 97, 116, 105, 111, 110, 47, 106, 115, 111, 110, 13, 10, 67, 111, 110, 116, 101, 110, 116, 45, 76, 101, 110, 103, 116, 104, 58, 32]⟩ : ByteArray)).size + t219.size) = False := eq_false (Nat.not_lt.2 c9)
      (try (have c9z0 := c9b0; simp only [ByteArray.size_append] at c9z0))
      (try (have c9z1 := c9b1; simp only [ByteArray.size_append] at c9z1))
      (try (have c9z2 := c9b2; simp only [ByteArray.size_append] at c9z2))
      by_cases c10 : ((((((⟨#[72, 84, 84, 80, 47, 49, 46, 49, 32]⟩ : ByteArray) ++ t217) ++ (⟨#[32]⟩ : ByteArray)) ++ t218) ++ (⟨#[13, 10, 67, 111, 110, 116, 101, 110, 116, 45, 84, 121, 112, 101, 58, 32, 97, 112, 112, 108, 105, 99, 97, 116, 105, 111, 110, 47, 106, 115, 111, 110, 13, 10, 67, 111, 110, 116, 101, 110, 116, 45, 76, 101, 110, 103, 116, 104, 58, 32]⟩ : ByteArray)) ++ t219).size + 4 ≤ 9223372036854775807
      ·rw [if_pos c10] at H
       have c10b0 := eq_true c10
       have c10b1 : decide (((((((⟨#[72, 84, 84, 80, 47, 49, 46, 49, 32]⟩ : ByteArray) ++ t217) ++ (⟨#[32]⟩ : ByteArray)) ++ t218) ++ (⟨#[13, 10, 67, 111, 110, 116, 101, 110, 116, 45, 84, 121, 112, 101, 58, 32, 97, 112, 112, 108, 105, 99, 97, 116, 105, 111, 110, 47, 106, 115, 111, 110, 13, 10, 67, 111, 110, 116, 101, 110, 116, 45, 76, 101, 110, 103, 116, 104, 58, 32]⟩ : ByteArray)) ++ t219).size + 4 ≤ 9223372036854775807) = true := decide_eq_true c10
       try have c10b2 : (9223372036854775807 < ((((((⟨#[72, 84, 84, 80, 47, 49, 46, 49, 32]⟩ : ByteArray) ++ t217) ++ (⟨#[32]⟩ : ByteArray)) ++ t218) ++ (⟨#[13, 10, 67, 111, 110, 116, 101, 110, 116, 45, 84, 121, 112, 101, 58, 32, 97, 112, 112, 108, 105, 99, 97, 116, 105, 111, 110, 47, 106, 115, 111, 110, 13, 10, 67, 111, 110, 116, 101, 110, 116, 45, 76, 101, 110, 103, 116, 104, 58, 32]⟩ : ByteArray)) ++ t219).size + 4) = False := eq_false (Nat.not_lt.2 c10)
       (try (have c10z0 := c10b0; simp only [ByteArray.size_append] at c10z0))
       (try (have c10z1 := c10b1; simp only [ByteArray.size_append] at c10z1))
       (try (have c10z2 := c10b2; simp only [ByteArray.size_append] at c10z2))
       by_cases c11 : (((((((⟨#[72, 84, 84, 80, 47, 49, 46, 49, 32]⟩ : ByteArray) ++ t217) ++ (⟨#[32]⟩ : ByteArray)) ++ t218) ++ (⟨#[13, 10, 67, 111, 110, 116, 101, 110, 116, 45, 84, 121, 112, 101, 58, 32, 97, 112, 112, 108, 105, 99, 97, 116, 105, 111, 110, 47, 106, 115, 111, 110, 13, 10, 67, 111, 110, 116, 101, 110, 116, 45, 76, 101, 110, 103, 116, 104, 58, 32]⟩ : ByteArray)) ++ t219) ++ (⟨#[13, 10, 13, 10]⟩ : ByteArray)).size + a0_1.size ≤ 9223372036854775807
       ·rw [if_pos c11] at H
        have c11b0 := eq_true c11
        have c11b1 : decide ((((((((⟨#[72, 84, 84, 80, 47, 49, 46, 49, 32]⟩ : ByteArray) ++ t217) ++ (⟨#[32]⟩ : ByteArray)) ++ t218) ++ (⟨#[13, 10, 67, 111, 110, 116, 101, 110, 116, 45, 84, 121, 112, 101, 58, 32, 97, 112, 112, 108, 105, 99, 97, 116, 105, 111, 110, 47, 106, 115, 111, 110, 13, 10, 67, 111, 110, 116, 101, 110, 116, 45, 76, 101, 110, 103, 116, 104, 58, 32]⟩ : ByteArray)) ++ t219) ++ (⟨#[13, 10, 13, 10]⟩ : ByteArray)).size + a0_1.size ≤ 9223372036854775807) = true := decide_eq_true c11
        try have c11b2 : (9223372036854775807 < (((((((⟨#[72, 84, 84, 80, 47, 49, 46, 49, 32]⟩ : ByteArray) ++ t217) ++ (⟨#[32]⟩ : ByteArray)) ++ t218) ++ (⟨#[13, 10, 67, 111, 110, 116, 101, 110, 116, 45, 84, 121, 112, 101, 58, 32, 97, 112, 112, 108, 105, 99, 97, 116, 105, 111, 110, 47, 106, 115, 111, 110, 13, 10, 67, 111, 110, 116, 101, 110, 116, 45, 76, 101, 110, 103, 116, 104, 58, 32]⟩ : ByteArray)) ++ t219) ++ (⟨#[13, 10, 13, 10]⟩ : ByteArray)).size + a0_1.size) = False := eq_false (Nat.not_lt.2 c11)
        (try (have c11z0 := c11b0; simp only [ByteArray.size_append] at c11z0))
        (try (have c11z1 := c11b1; simp only [ByteArray.size_append] at c11z1))
        (try (have c11z2 := c11b2; simp only [ByteArray.size_append] at c11z2))
        obtain rfl := Option.some.inj H
        go_enter Tryd.func14, Tryd.ntmps14
        try go_wp2_with (first | ((with_reducible refine gate_dst (N := 1) rfl ?_); refine box_event ?hg (N := 1) ?hd (cs := #[.int .i64 a0_0, .string a0_1]) (t := 38) ?hr ?_; (case hd => rfl); (case hg => rfl); (case hr => first | (go_simp; done) | (go_simp; rfl)); intro gb216 hg w12 hbox hb; have BK216 := Aside0.mk (hbox); have GW216 := Aside0.mk (gs (w := w) hg (bl HB.out)); have GE216 := Aside0.mk (gs (w := w) hg (bl HB.out)); replace HB := Aside0.mk (below_step (bl HB.out) hb); clear hb hbox hg))
        replace BK216 := Aside0.mk (blk_drew BK216.out)
        replace HB := Aside0.mk (below_drew1 HB.out)
        refine start_ (n := 20) (S := fun w' => w'.cell? ⟨gb216, 0, none⟩ = some (.int .i64 a0_0) ∧ w'.cell? ⟨gb216, 1, none⟩ = some (.string a0_1)) (ds := []) #[false, false, false, false, false, false, false, false, false, false, false, false, false, false, false, false, false, false, false, false] kr rfl rfl ⟨(blk_cell BK216.out 0).trans rfl, (blk_cell BK216.out 1).trans rfl⟩ (fun hHeld => ?_); refine with_tabW http_Print.tab1 http_Print.bits1 (fun HT_ HW_ => ?_)
        generalize w12.drew = w13 at BK216 HB hHeld ⊢
        refine pure_ (i := 0) (N := some 3) (v := ?_) (a' := ?_) #[true, false, false, false, false, false, false, false, false, false, false, false, false, false, false, false, false, false, false, false] rfl rfl (any_of HT_.out kr) (fun _ _ _ h => h) (Or.inl ⟨by rfl, ?_⟩) ?_ ?_
        rotate_left
        ·exact wl
        rotate_left
        ·exact ap
        refine pure_ (i := 5) (N := some 8) (v := ?_) (a' := ?_) #[true, false, false, false, false, true, false, false, false, false, false, false, false, false, false, false, false, false, false, false] rfl rfl (any_of HT_.out kr) (fun _ _ _ h => h) (Or.inl ⟨by rfl, ?_⟩) ?_ ?_
        rotate_left
        ·exact wl
        rotate_left
        ·exact ap
        refine pure_ (i := 10) (N := some 13) (v := ?_) (a' := ?_) #[true, false, false, false, false, true, false, false, false, false, true, false, false, false, false, false, false, false, false, false] rfl rfl (any_of HT_.out kr) (fun _ _ _ h => h) (Or.inl ⟨by rfl, ?_⟩) ?_ ?_
        rotate_left
        ·exact wl
        rotate_left
        ·exact ap
        refine pure_ (i := 16) (N := some 19) (v := ?_) (a' := ?_) #[true, false, false, false, false, true, false, false, false, false, true, false, false, false, false, false, true, false, false, false] rfl rfl (any_of HT_.out kr) (fun _ _ _ h => h) (Or.inl ⟨by rfl, ?_⟩) ?_ ?_
        rotate_left
        ·exact wl
        rotate_left
        ·exact ap
        refine take_ (i := 1) (N := some 4) (v := ?_) (a' := ?_) #[true, true, false, false, false, true, false, false, false, false, true, false, false, false, false, false, true, false, false, false] rfl rfl (take_ofW HT_.out HW_.out kr) (fun _ _ _ h => h) (Or.inl ⟨by rfl, ?_⟩) hHeld ?_ ?_
        rotate_left
        ·rintro w' ⟨s0, s1⟩
         go_simp
         exact rl
        rotate_left
        ·exact ap
        refine take_ (i := 6) (N := some 9) (v := ?_) (a' := ?_) #[true, true, false, false, false, true, true, false, false, false, true, false, false, false, false, false, true, false, false, false] rfl rfl (take_ofW HT_.out HW_.out kr) (fun _ _ _ h => h) (Or.inl ⟨by rfl, ?_⟩) hHeld ?_ ?_
        rotate_left
        ·rintro w' ⟨s0, s1⟩
         go_simp
         exact rl
        rotate_left
        ·exact ap
        refine take_ (i := 11) (N := some 14) (v := ?_) (a' := ?_) #[true, true, false, false, false, true, true, false, false, false, true, true, false, false, false, false, true, false, false, false] rfl rfl (take_ofW HT_.out HW_.out kr) (fun _ _ _ h => h) (Or.inl ⟨by rfl, ?_⟩) hHeld ?_ ?_
        rotate_left
        ·rintro w' ⟨s0, s1⟩
         go_simp
         exact rl
        rotate_left
        ·exact ap
        refine pure_ (i := 12) (N := some 15) (v := ?_) (a' := ?_) #[true, true, false, false, false, true, true, false, false, false, true, true, true, false, false, false, true, false, false, false] rfl rfl (any_of HT_.out kr) (fun _ _ _ h => h) (Or.inl ⟨by rfl, ?_⟩) ?_ ?_
        rotate_left
        ·exact wl
        rotate_left
        ·exact ap
        refine take_ (i := 17) (N := some 20) (v := ?_) (a' := ?_) #[true, true, false, false, false, true, true, false, false, false, true, true, true, false, false, false, true, true, false, false] rfl rfl (take_ofW HT_.out HW_.out kr) (fun _ _ _ h => h) (Or.inl ⟨by rfl, ?_⟩) hHeld ?_ ?_
        rotate_left
        ·rintro w' ⟨s0, s1⟩
         go_simp
         exact rl
        rotate_left
        ·exact ap
        refine one_ (i := 2) (N := some 5) #[true, true, true, false, false, true, true, false, false, false, true, true, true, false, false, false, true, true, false, false] rfl rfl (one_of HT_.out kr) (by decide) (fun K hK => ?_)
        refine goes_ Tryd.func12 kr rfl #[.int .i64 a0_0] (by rfl) rfl rfl ga ?_
        with_reducible refine (strconv_Itoa_12.calls a0_0 t217 _ ?side1 A2.out).mono ?_
        (case side1 => exact LaidU.below HU.out (bl HB.out))
        rintro e w14 ⟨rfl, hb⟩
        refine ⟨_, rfl, ?_⟩
        replace BK216 := Aside0.mk (blk_below (pk BK216.out) hb)
        replace HB := Aside0.mk (below_step (bl HB.out) hb)
        (try clear hb)
        (try clear hb2)
        (try clear hk)
        (try clear hi)
        refine hK.out _ _ ⟨(blk_cell BK216.out 0).trans rfl, (blk_cell BK216.out 1).trans rfl⟩ (fun hHeld => ?_)
        clear hK K
        refine norm_ (a' := ?_) ?_ ?_
        rotate_left
        ·show Act.put _ (some 5) _ = _
         exact ap
        refine pure_ (i := 3) (N := some 6) (v := ?_) (a' := ?_) #[true, true, true, true, false, true, true, false, false, false, true, true, true, false, false, false, true, true, false, false] rfl rfl (any_of HT_.out kr) (fun _ _ _ h => h) (Or.inl ⟨by rfl, ?_⟩) ?_ ?_
        rotate_left
        ·exact wl
        rotate_left
        ·exact ap
        refine pure_ (i := 4) (N := some 7) (v := ?_) (a' := ?_) #[true, true, true, true, true, true, true, false, false, false, true, true, true, false, false, false, true, true, false, false] rfl rfl (any_of HT_.out kr) (fun _ _ _ h => h) (Or.inl ⟨by rfl, ?_⟩) ?_ ?_
        rotate_left
        ·exact wl
        rotate_left
        ·exact ap
        refine one_ (i := 7) (N := some 10) #[true, true, true, true, true, true, true, true, false, false, true, true, true, false, false, false, true, true, false, false] rfl rfl (one_of HT_.out kr) (by decide) (fun K hK => ?_)
        refine goes_ Tryd.func13 kr rfl #[.int .i64 a0_0] (by rfl) rfl rfl ga ?_
        with_reducible refine (http_Reason.calls a0_0 t218 _ A5.out).mono ?_
        rintro e w' ⟨rfl, ⟨nd, rfl⟩⟩
        refine ⟨_, rfl, ?_⟩
        refine hK.out _ _ ⟨(blk_cell BK216.out 0).trans rfl, (blk_cell BK216.out 1).trans rfl⟩ (fun hHeld => ?_)
        clear hK K
        refine norm_ (a' := ?_) ?_ ?_
        rotate_left
        ·show Act.put _ (some 10) _ = _
         exact ap
        refine pure_ (i := 8) (N := some 11) (v := ?_) (a' := ?_) #[true, true, true, true, true, true, true, true, true, false, true, true, true, false, false, false, true, true, false, false] rfl rfl (any_of HT_.out kr) (fun _ _ _ h => h) (Or.inl ⟨by rfl, ?_⟩) ?_ ?_
        rotate_left
        ·exact wl
        rotate_left
        ·exact ap
        refine pure_ (i := 9) (N := some 12) (v := ?_) (a' := ?_) #[true, true, true, true, true, true, true, true, true, true, true, true, true, false, false, false, true, true, false, false] rfl rfl (any_of HT_.out kr) (fun _ _ _ h => h) (Or.inl ⟨by rfl, ?_⟩) ?_ ?_
        rotate_left
        ·exact wl
        rotate_left
        ·exact ap
        refine one_ (i := 13) (N := some 16) #[true, true, true, true, true, true, true, true, true, true, true, true, true, true, false, false, true, true, false, false] rfl rfl (one_of HT_.out kr) (by decide) (fun K hK => ?_)
        refine goes_ Tryd.func12 kr rfl #[.int .i64 (a0_1.size : Int)] (by rfl) rfl rfl ga ?_
        with_reducible refine (strconv_Itoa_12.calls (a0_1.size : Int) t219 _ ?side1 A8.out).mono ?_
        (case side1 => exact LaidU.below HU.out (bl HB.out))
        rintro e w15 ⟨rfl, hb⟩
        refine ⟨_, rfl, ?_⟩
        replace BK216 := Aside0.mk (blk_below (pk BK216.out) hb)
        replace HB := Aside0.mk (below_step (bl HB.out) hb)
        (try clear hb)
        (try clear hb2)
        (try clear hk)
        (try clear hi)
        refine hK.out _ _ ⟨(blk_cell BK216.out 0).trans rfl, (blk_cell BK216.out 1).trans rfl⟩ (fun hHeld => ?_)
        clear hK K
        refine norm_ (a' := ?_) ?_ ?_
        rotate_left
        ·show Act.put _ (some 16) _ = _
         exact ap
        refine pure_ (i := 14) (N := some 17) (v := ?_) (a' := ?_) #[true, true, true, true, true, true, true, true, true, true, true, true, true, true, true, false, true, true, false, false] rfl rfl (any_of HT_.out kr) (fun _ _ _ h => h) (Or.inl ⟨by rfl, ?_⟩) ?_ ?_
        rotate_left
        ·exact wl
        rotate_left
        ·exact ap
        refine pure_ (i := 15) (N := some 18) (v := ?_) (a' := ?_) #[true, true, true, true, true, true, true, true, true, true, true, true, true, true, true, true, true, true, false, false] rfl rfl (any_of HT_.out kr) (fun _ _ _ h => h) (Or.inl ⟨by rfl, ?_⟩) ?_ ?_
        rotate_left
        ·exact wl
        rotate_left
        ·exact ap
        refine pure_ (i := 18) (N := some 21) (v := ?_) (a' := ?_) #[true, true, true, true, true, true, true, true, true, true, true, true, true, true, true, true, true, true, true, false] rfl rfl (any_of HT_.out kr) (fun _ _ _ h => h) (Or.inl ⟨by rfl, ?_⟩) ?_ ?_
        rotate_left
        ·exact wl
        rotate_left
        ·exact ap
        refine pure_ (i := 19) (N := some 2) (v := ?_) (a' := ?_) #[true, true, true, true, true, true, true, true, true, true, true, true, true, true, true, true, true, true, true, true] rfl rfl (any_of HT_.out kr) (fun _ _ _ h => h) (Or.inl ⟨by rfl, ?_⟩) ?_ ?_
        rotate_left
        ·exact wl
        rotate_left
        ·exact ap
        refine done_ (done_of HT_.out kr) ?_
        try go_wp2
        go_ret
        exact ⟨er0, bl HB.out⟩
       ·rw [if_neg c11] at H
        exact absurd H (by simp)
      ·rw [if_neg c10] at H
       exact absurd H (by simp)
     ·rw [if_neg c9] at H
      exact absurd H (by simp)
    ·rw [if_neg c7] at H
     exact absurd H (by simp)
   ·rw [if_neg c6] at H
    exact absurd H (by simp)
  ·rw [if_neg c4] at H
   exact absurd H (by simp)
 ·rw [if_neg c3] at H
  exact absurd H (by simp)

/-! ### lodestarlaw04_sure: function 7 -/
def lodestarlaw04_sure.f (k : Nat)  : Option (Bool) := (http_Parse.f k (⟨#[80, 79, 83, 84, 32, 47, 113, 32, 72, 84, 84, 80, 47, 49, 46, 49, 13, 10, 99, 111, 110, 116, 101, 110, 116, 45, 76, 69, 78, 71, 84, 72, 58, 32, 50, 13, 10, 88, 45, 121, 58, 122, 13, 10, 13, 10, 123, 125]⟩ : ByteArray)).bind fun bt220 => ((http_Parse.f k (⟨#[71, 69, 84, 32, 47, 32, 72, 84, 84, 80, 47, 49, 46, 48, 13, 10, 13, 10]⟩ : ByteArray)).bind fun bt225 => ((http_Parse.f k (⟨#[71, 69, 84, 32, 47, 32, 72, 84, 84, 80, 47, 49, 46, 49, 13, 10, 67, 111, 110, 116, 101, 110, 116, 45, 76, 101, 110, 103, 116, 104, 58, 32, 50, 54, 50, 49, 52, 53, 13, 10, 13, 10]⟩ : ByteArray)).bind fun bt230 => ((http_Write.f k (⟨#[71, 69, 84]⟩ : ByteArray) (⟨#[47, 97]⟩ : ByteArray) (⟨#[]⟩ : ByteArray)).bind fun bt235 => (if (bt220.1.toList == ([80, 79, 83, 84] : List UInt8) && (bt220.2.1.toList == ([47, 113] : List UInt8) && (bt220.2.2.1.toList == ([123, 125] : List UInt8)))) = true then (if bt220.2.2.2 = 0 then (if bt225.2.2.2 = 40 then (if bt230.2.2.2 = 41 then (if bt235.1.toList = ([71, 69, 84, 32, 47, 97, 32, 72, 84, 84, 80, 47, 49, 46, 49, 13, 10, 67, 111, 110, 116, 101, 110, 116, 45, 76, 101, 110, 103, 116, 104, 58, 32, 48, 13, 10, 13, 10] : List UInt8) then (if bt235.2 = 0 then ((http_Reason.f 507).bind fun t237 => (if t237.toList = ([73, 110, 115, 117, 102, 102, 105, 99, 105, 101, 110, 116, 32, 83, 116, 111, 114, 97, 103, 101] : List UInt8) then ((http_Print.f 404 (⟨#[123, 125]⟩ : ByteArray)).bind fun t238 => (some (t238.toList == ([72, 84, 84, 80, 47, 49, 46, 49, 32, 52, 48, 52, 32, 78, 111, 116, 32, 70, 111, 117, 110, 100, 13, 10, 67, 111, 110, 116, 101, 110, 116, 45, 84, 121, 112, 101, 58, 32, 97, 112, 112, 108, 105, 99, 97, 116, 105, 111, 110, 47, 106, 115, 111, 110, 13, 10, 67, 111, 110, 116, 101, 110, 116, 45, 76, 101, 110, 103, 116, 104, 58, 32, 50, 13, 10, 13, 10, 123, 125] : List UInt8)))) else (some false))) else (some false)) else (some false)) else (some false)) else (some false)) else (some false)) else (some false)))))
theorem lodestarlaw04_sure.mono : ∀ k, LeO (lodestarlaw04_sure.f k ) (lodestarlaw04_sure.f (k + 1) ) := by
 intro  k
 unfold lodestarlaw04_sure.f
 repeat' first
   | (with_reducible exact http_Parse.mono _ _)
   | (with_reducible exact http_Write.mono _ _ _ _)
   | (with_reducible exact LeO.refl _)
   | (with_reducible exact LeO.none _)
   | (with_reducible refine LeO.ite ?_ ?_)
   | (with_reducible refine LeO.bind ?_ (fun _ => ?_))
   | exact http_Parse.mono _ _
   | exact http_Write.mono _ _ _ _
   | exact LeO.none _
   | refine LeO.ite ?_ ?_
   | refine LeO.bind ?_ (fun _ => ?_)
set_option maxHeartbeats 8000000 in
set_option maxRecDepth 100000 in
theorem lodestarlaw04_sure.calls (k : Nat)  (r : Bool) (w : World) (hU : LaidU w) (h : lodestarlaw04_sure.f k  = some r) :
  Calls Tryd.prog 7 #[] w fun e w' => e = .returned (.bool r) ∧ Below w.heap.size w w' := by
 have hu23 := Tryd.underlying23
 have hu38 := Tryd.underlying38
 have HU := Aside0.mk hU
 clear hU
 have HB := Aside0.mk (Below.refl w.heap.size w)
 have H : ((http_Parse.f k (⟨#[80, 79, 83, 84, 32, 47, 113, 32, 72, 84, 84, 80, 47, 49, 46, 49, 13, 10, 99, 111, 110, 116, 101, 110, 116, 45, 76, 69, 78, 71, 84, 72, 58, 32, 50, 13, 10, 88, 45, 121, 58, 122, 13, 10, 13, 10, 123, 125]⟩ : ByteArray)).bind fun bt220 => ((http_Parse.f k (⟨#[71, 69, 84, 32, 47, 32, 72, 84, 84, 80, 47, 49, 46, 48, 13, 10, 13, 10]⟩ : ByteArray)).bind fun bt225 => ((http_Parse.f k (⟨#[71, 69, 84, 32, 47, 32, 72, 84, 84, 80, 47, 49, 46, 49, 13, 10, 67, 111, 110, 116, 101, 110, 116, 45, 76, 101, 110, 103, 116, 104, 58, 32, 50, 54, 50, 49, 52, 53, 13, 10, 13, 10]⟩ : ByteArray)).bind fun bt230 => ((http_Write.f k (⟨#[71, 69, 84]⟩ : ByteArray) (⟨#[47, 97]⟩ : ByteArray) (⟨#[]⟩ : ByteArray)).bind fun bt235 => (if (bt220.1.toList == ([80, 79, 83, 84] : List UInt8) && (bt220.2.1.toList == ([47, 113] : List UInt8) && (bt220.2.2.1.toList == ([123, 125] : List UInt8)))) = true then (if bt220.2.2.2 = 0 then (if bt225.2.2.2 = 40 then (if bt230.2.2.2 = 41 then (if bt235.1.toList = ([71, 69, 84, 32, 47, 97, 32, 72, 84, 84, 80, 47, 49, 46, 49, 13, 10, 67, 111, 110, 116, 101, 110, 116, 45, 76, 101, 110, 103, 116, 104, 58, 32, 48, 13, 10, 13, 10] : List UInt8) then (if bt235.2 = 0 then ((http_Reason.f 507).bind fun t237 => (if t237.toList = ([73, 110, 115, 117, 102, 102, 105, 99, 105, 101, 110, 116, 32, 83, 116, 111, 114, 97, 103, 101] : List UInt8) then ((http_Print.f 404 (⟨#[123, 125]⟩ : ByteArray)).bind fun t238 => (some (t238.toList == ([72, 84, 84, 80, 47, 49, 46, 49, 32, 52, 48, 52, 32, 78, 111, 116, 32, 70, 111, 117, 110, 100, 13, 10, 67, 111, 110, 116, 101, 110, 116, 45, 84, 121, 112, 101, 58, 32, 97, 112, 112, 108, 105, 99, 97, 116, 105, 111, 110, 47, 106, 115, 111, 110, 13, 10, 67, 111, 110, 116, 101, 110, 116, 45, 76, 101, 110, 103, 116, 104, 58, 32, 50, 13, 10, 13, 10, 123, 125] : List UInt8)))) else (some false))) else (some false)) else (some false)) else (some false)) else (some false)) else (some false)) else (some false)))))) = some r := h
 clear h
 replace H := Option.bind_eq_some_iff.mp H
 obtain ⟨⟨t220, t221, t222, t223⟩, A10, H⟩ := H
 replace H : ((http_Parse.f k (⟨#[71, 69, 84, 32, 47, 32, 72, 84, 84, 80, 47, 49, 46, 48, 13, 10, 13, 10]⟩ : ByteArray)).bind fun bt225 => ((http_Parse.f k (⟨#[71, 69, 84, 32, 47, 32, 72, 84, 84, 80, 47, 49, 46, 49, 13, 10, 67, 111, 110, 116, 101, 110, 116, 45, 76, 101, 110, 103, 116, 104, 58, 32, 50, 54, 50, 49, 52, 53, 13, 10, 13, 10]⟩ : ByteArray)).bind fun bt230 => ((http_Write.f k (⟨#[71, 69, 84]⟩ : ByteArray) (⟨#[47, 97]⟩ : ByteArray) (⟨#[]⟩ : ByteArray)).bind fun bt235 => (if (t220.toList == ([80, 79, 83, 84] : List UInt8) && (t221.toList == ([47, 113] : List UInt8) && (t222.toList == ([123, 125] : List UInt8)))) = true then (if t223 = 0 then (if bt225.2.2.2 = 40 then (if bt230.2.2.2 = 41 then (if bt235.1.toList = ([71, 69, 84, 32, 47, 97, 32, 72, 84, 84, 80, 47, 49, 46, 49, 13, 10, 67, 111, 110, 116, 101, 110, 116, 45, 76, 101, 110, 103, 116, 104, 58, 32, 48, 13, 10, 13, 10] : List UInt8) then (if bt235.2 = 0 then ((http_Reason.f 507).bind fun t237 => (if t237.toList = ([73, 110, 115, 117, 102, 102, 105, 99, 105, 101, 110, 116, 32, 83, 116, 111, 114, 97, 103, 101] : List UInt8) then ((http_Print.f 404 (⟨#[123, 125]⟩ : ByteArray)).bind fun t238 => (some (t238.toList == ([72, 84, 84, 80, 47, 49, 46, 49, 32, 52, 48, 52, 32, 78, 111, 116, 32, 70, 111, 117, 110, 100, 13, 10, 67, 111, 110, 116, 101, 110, 116, 45, 84, 121, 112, 101, 58, 32, 97, 112, 112, 108, 105, 99, 97, 116, 105, 111, 110, 47, 106, 115, 111, 110, 13, 10, 67, 111, 110, 116, 101, 110, 116, 45, 76, 101, 110, 103, 116, 104, 58, 32, 50, 13, 10, 13, 10, 123, 125] : List UInt8)))) else (some false))) else (some false)) else (some false)) else (some false)) else (some false)) else (some false)) else (some false))))) = some r := H
 have A1 := Aside0.mk A10
 clear A10
 replace H := Option.bind_eq_some_iff.mp H
 obtain ⟨⟨t225, t226, t227, t228⟩, A20, H⟩ := H
 replace H : ((http_Parse.f k (⟨#[71, 69, 84, 32, 47, 32, 72, 84, 84, 80, 47, 49, 46, 49, 13, 10, 67, 111, 110, 116, 101, 110, 116, 45, 76, 101, 110, 103, 116, 104, 58, 32, 50, 54, 50, 49, 52, 53, 13, 10, 13, 10]⟩ : ByteArray)).bind fun bt230 => ((http_Write.f k (⟨#[71, 69, 84]⟩ : ByteArray) (⟨#[47, 97]⟩ : ByteArray) (⟨#[]⟩ : ByteArray)).bind fun bt235 => (if (t220.toList == ([80, 79, 83, 84] : List UInt8) && (t221.toList == ([47, 113] : List UInt8) && (t222.toList == ([123, 125] : List UInt8)))) = true then (if t223 = 0 then (if t228 = 40 then (if bt230.2.2.2 = 41 then (if bt235.1.toList = ([71, 69, 84, 32, 47, 97, 32, 72, 84, 84, 80, 47, 49, 46, 49, 13, 10, 67, 111, 110, 116, 101, 110, 116, 45, 76, 101, 110, 103, 116, 104, 58, 32, 48, 13, 10, 13, 10] : List UInt8) then (if bt235.2 = 0 then ((http_Reason.f 507).bind fun t237 => (if t237.toList = ([73, 110, 115, 117, 102, 102, 105, 99, 105, 101, 110, 116, 32, 83, 116, 111, 114, 97, 103, 101] : List UInt8) then ((http_Print.f 404 (⟨#[123, 125]⟩ : ByteArray)).bind fun t238 => (some (t238.toList == ([72, 84, 84, 80, 47, 49, 46, 49, 32, 52, 48, 52, 32, 78, 111, 116, 32, 70, 111, 117, 110, 100, 13, 10, 67, 111, 110, 116, 101, 110, 116, 45, 84, 121, 112, 101, 58, 32, 97, 112, 112, 108, 105, 99, 97, 116, 105, 111, 110, 47, 106, 115, 111, 110, 13, 10, 67, 111, 110, 116, 101, 110, 116, 45, 76, 101, 110, 103, 116, 104, 58, 32, 50, 13, 10, 13, 10, 123, 125] : List UInt8)))) else (some false))) else (some false)) else (some false)) else (some false)) else (some false)) else (some false)) else (some false)))) = some r := H
 have A2 := Aside0.mk A20
 clear A20
 replace H := Option.bind_eq_some_iff.mp H
 obtain ⟨⟨t230, t231, t232, t233⟩, A30, H⟩ := H
 replace H : ((http_Write.f k (⟨#[71, 69, 84]⟩ : ByteArray) (⟨#[47, 97]⟩ : ByteArray) (⟨#[]⟩ : ByteArray)).bind fun bt235 => (if (t220.toList == ([80, 79, 83, 84] : List UInt8) && (t221.toList == ([47, 113] : List UInt8) && (t222.toList == ([123, 125] : List UInt8)))) = true then (if t223 = 0 then (if t228 = 40 then (if t233 = 41 then (if bt235.1.toList = ([71, 69, 84, 32, 47, 97, 32, 72, 84, 84, 80, 47, 49, 46, 49, 13, 10, 67, 111, 110, 116, 101, 110, 116, 45, 76, 101, 110, 103, 116, 104, 58, 32, 48, 13, 10, 13, 10] : List UInt8) then (if bt235.2 = 0 then ((http_Reason.f 507).bind fun t237 => (if t237.toList = ([73, 110, 115, 117, 102, 102, 105, 99, 105, 101, 110, 116, 32, 83, 116, 111, 114, 97, 103, 101] : List UInt8) then ((http_Print.f 404 (⟨#[123, 125]⟩ : ByteArray)).bind fun t238 => (some (t238.toList == ([72, 84, 84, 80, 47, 49, 46, 49, 32, 52, 48, 52, 32, 78, 111, 116, 32, 70, 111, 117, 110, 100, 13, 10, 67, 111, 110, 116, 101, 110, 116, 45, 84, 121, 112, 101, 58, 32, 97, 112, 112, 108, 105, 99, 97, 116, 105, 111, 110, 47, 106, 115, 111, 110, 13, 10, 67, 111, 110, 116, 101, 110, 116, 45, 76, 101, 110, 103, 116, 104, 58, 32, 50, 13, 10, 13, 10, 123, 125] : List UInt8)))) else (some false))) else (some false)) else (some false)) else (some false)) else (some false)) else (some false)) else (some false))) = some r := H
 have A3 := Aside0.mk A30
 clear A30
 replace H := Option.bind_eq_some_iff.mp H
 obtain ⟨⟨t235, t236⟩, A40, H⟩ := H
 replace H : (if (t220.toList == ([80, 79, 83, 84] : List UInt8) && (t221.toList == ([47, 113] : List UInt8) && (t222.toList == ([123, 125] : List UInt8)))) = true then (if t223 = 0 then (if t228 = 40 then (if t233 = 41 then (if t235.toList = ([71, 69, 84, 32, 47, 97, 32, 72, 84, 84, 80, 47, 49, 46, 49, 13, 10, 67, 111, 110, 116, 101, 110, 116, 45, 76, 101, 110, 103, 116, 104, 58, 32, 48, 13, 10, 13, 10] : List UInt8) then (if t236 = 0 then ((http_Reason.f 507).bind fun t237 => (if t237.toList = ([73, 110, 115, 117, 102, 102, 105, 99, 105, 101, 110, 116, 32, 83, 116, 111, 114, 97, 103, 101] : List UInt8) then ((http_Print.f 404 (⟨#[123, 125]⟩ : ByteArray)).bind fun t238 => (some (t238.toList == ([72, 84, 84, 80, 47, 49, 46, 49, 32, 52, 48, 52, 32, 78, 111, 116, 32, 70, 111, 117, 110, 100, 13, 10, 67, 111, 110, 116, 101, 110, 116, 45, 84, 121, 112, 101, 58, 32, 97, 112, 112, 108, 105, 99, 97, 116, 105, 111, 110, 47, 106, 115, 111, 110, 13, 10, 67, 111, 110, 116, 101, 110, 116, 45, 76, 101, 110, 103, 116, 104, 58, 32, 50, 13, 10, 13, 10, 123, 125] : List UInt8)))) else (some false))) else (some false)) else (some false)) else (some false)) else (some false)) else (some false)) else (some false)) = some r := H
 have A4 := Aside0.mk A40
 clear A40
 by_cases c5 : (t220.toList == ([80, 79, 83, 84] : List UInt8) && (t221.toList == ([47, 113] : List UInt8) && (t222.toList == ([123, 125] : List UInt8)))) = true
 ·rw [if_pos c5] at H
  have c5b0 : (t220.toList == ([80, 79, 83, 84] : List UInt8) && (t221.toList == ([47, 113] : List UInt8) && (t222.toList == ([123, 125] : List UInt8)))) = true := c5
  (try (have c5b1 : decide (t220.toList = ([80, 79, 83, 84] : List UInt8) && (t221.toList == ([47, 113] : List UInt8) && (t222.toList == ([123, 125] : List UInt8)))) = true := by simpa using c5))
  (try (have c5b2 : (t220.toList == ([80, 79, 83, 84] : List UInt8) && (t221.toList == ([47, 113] : List UInt8) && (t222.toList == ([123, 125] : List UInt8)))) = true := by simpa using c5))
  clear c5
  by_cases c6 : t223 = 0
  ·rw [if_pos c6] at H
   have c6b0 : (t223 == 0) = true := beq_iff_eq.mpr c6
   have c6b1 : (t223 != 0) = false := bne_eq_false_iff_eq.mpr c6
   clear c6
   by_cases c7 : t228 = 40
   ·rw [if_pos c7] at H
    have c7b0 : (t228 == 40) = true := beq_iff_eq.mpr c7
    have c7b1 : (t228 != 40) = false := bne_eq_false_iff_eq.mpr c7
    clear c7
    by_cases c8 : t233 = 41
    ·rw [if_pos c8] at H
     have c8b0 : (t233 == 41) = true := beq_iff_eq.mpr c8
     have c8b1 : (t233 != 41) = false := bne_eq_false_iff_eq.mpr c8
     clear c8
     by_cases c9 : t235.toList = ([71, 69, 84, 32, 47, 97, 32, 72, 84, 84, 80, 47, 49, 46, 49, 13, 10, 67, 111, 110, 116, 101, 110, 116, 45, 76, 101, 110, 103, 116, 104, 58, 32, 48, 13, 10, 13, 10] : List UInt8)
     ·rw [if_pos c9] at H
      have c9b0 : (t235.toList == ([71, 69, 84, 32, 47, 97, 32, 72, 84, 84, 80, 47, 49, 46, 49, 13, 10, 67, 111, 110, 116, 101, 110, 116, 45, 76, 101, 110, 103, 116, 104, 58, 32, 48, 13, 10, 13, 10] : List UInt8)) = true := beq_iff_eq.mpr c9
      have c9b1 : (t235.toList != ([71, 69, 84, 32, 47, 97, 32, 72, 84, 84, 80, 47, 49, 46, 49, 13, 10, 67, 111, 110, 116, 101, 110, 116, 45, 76, 101, 110, 103, 116, 104, 58, 32, 48, 13, 10, 13, 10] : List UInt8)) = false := bne_eq_false_iff_eq.mpr c9
      clear c9
      by_cases c10 : t236 = 0
      ·rw [if_pos c10] at H
       have c10b0 : (t236 == 0) = true := beq_iff_eq.mpr c10
       have c10b1 : (t236 != 0) = false := bne_eq_false_iff_eq.mpr c10
       clear c10
       replace H := Option.bind_eq_some_iff.mp H
       obtain ⟨t237, A110, H⟩ := H
       replace H : (if t237.toList = ([73, 110, 115, 117, 102, 102, 105, 99, 105, 101, 110, 116, 32, 83, 116, 111, 114, 97, 103, 101] : List UInt8) then ((http_Print.f 404 (⟨#[123, 125]⟩ : ByteArray)).bind fun t238 => (some (t238.toList == ([72, 84, 84, 80, 47, 49, 46, 49, 32, 52, 48, 52, 32, 78, 111, 116, 32, 70, 111, 117, 110, 100, 13, 10, 67, 111, 110, 116, 101, 110, 116, 45, 84, 121, 112, 101, 58, 32, 97, 112, 112, 108, 105, 99, 97, 116, 105, 111, 110, 47, 106, 115, 111, 110, 13, 10, 67, 111, 110, 116, 101, 110, 116, 45, 76, 101, 110, 103, 116, 104, 58, 32, 50, 13, 10, 13, 10, 123, 125] : List UInt8)))) else (some false)) = some r := H
       have A11 := Aside0.mk A110
       clear A110
       by_cases c12 : t237.toList = ([73, 110, 115, 117, 102, 102, 105, 99, 105, 101, 110, 116, 32, 83, 116, 111, 114, 97, 103, 101] : List UInt8)
       ·rw [if_pos c12] at H
        have c12b0 : (t237.toList == ([73, 110, 115, 117, 102, 102, 105, 99, 105, 101, 110, 116, 32, 83, 116, 111, 114, 97, 103, 101] : List UInt8)) = true := beq_iff_eq.mpr c12
        have c12b1 : (t237.toList != ([73, 110, 115, 117, 102, 102, 105, 99, 105, 101, 110, 116, 32, 83, 116, 111, 114, 97, 103, 101] : List UInt8)) = false := bne_eq_false_iff_eq.mpr c12
        clear c12
        replace H := Option.bind_eq_some_iff.mp H
        obtain ⟨t238, A130, H⟩ := H
        replace H : (some (t238.toList == ([72, 84, 84, 80, 47, 49, 46, 49, 32, 52, 48, 52, 32, 78, 111, 116, 32, 70, 111, 117, 110, 100, 13, 10, 67, 111, 110, 116, 101, 110, 116, 45, 84, 121, 112, 101, 58, 32, 97, 112, 112, 108, 105, 99, 97, 116, 105, 111, 110, 47, 106, 115, 111, 110, 13, 10, 67, 111, 110, 116, 101, 110, 116, 45, 76, 101, 110, 103, 116, 104, 58, 32, 50, 13, 10, 13, 10, 123, 125] : List UInt8))) = some r := H
        have A13 := Aside0.mk A130
        clear A130
        obtain rfl := Option.some.inj H
        go_enter Tryd.func7, Tryd.ntmps7
        go_wp2_with (first | ((with_reducible refine gate_callee (f := 8) rfl ?_); refine goesL_ (some 10) rfl rfl Tryd.func8 kr rfl #[.string (⟨#[80, 79, 83, 84, 32, 47, 113, 32, 72, 84, 84, 80, 47, 49, 46, 49, 13, 10, 99, 111, 110, 116, 101, 110, 116, 45, 76, 69, 78, 71, 84, 72, 58, 32, 50, 13, 10, 88, 45, 121, 58, 122, 13, 10, 13, 10, 123, 125]⟩ : ByteArray)] rfl ga ?_; (with_reducible refine (http_Parse.calls k (⟨#[80, 79, 83, 84, 32, 47, 113, 32, 72, 84, 84, 80, 47, 49, 46, 49, 13, 10, 99, 111, 110, 116, 101, 110, 116, 45, 76, 69, 78, 71, 84, 72, 58, 32, 50, 13, 10, 88, 45, 121, 58, 122, 13, 10, 13, 10, 123, 125]⟩ : ByteArray) t220 t221 t222 t223 _ ?side1 A1.out).mono ?_); (case side1 => exact LaidU.below HU.out (bl HB.out)); rintro e w14 ⟨rfl, hb⟩; refine ⟨_, rfl, ?_⟩; replace HB := Aside0.mk (below_step (bl HB.out) hb); (try clear hb); (try clear hb2); (try clear hk); (try clear hi)) | ((with_reducible refine gate_dst (N := 1) rfl ?_); refine box_event ?hg (N := 1) ?hd (cs := #[.string (⟨#[]⟩ : ByteArray), .string (⟨#[]⟩ : ByteArray), .string (⟨#[]⟩ : ByteArray)]) (t := 23) ?hr ?_; (case hd => rfl); (case hg => rfl); (case hr => first | (go_simp; done) | (go_simp; rfl)); intro gb224 hg w15 hbox hb; have BK224 := Aside0.mk (hbox); have GW224 := Aside0.mk (gs (w := w) hg (bl HB.out)); have GE224 := Aside0.mk (gs (w := w) hg (bl HB.out)); replace HB := Aside0.mk (below_step (bl HB.out) hb); clear hb hbox hg; obtain ⟨hcz16_0, hcz16_1, hcz16_2, hfz16_0, hfz16_1, hfz16_2⟩ := cz3 BK224.out) | ((with_reducible refine gate_callee (f := 8) rfl ?_); refine goesL_ (some 14) rfl rfl Tryd.func8 kr rfl #[.string (⟨#[71, 69, 84, 32, 47, 32, 72, 84, 84, 80, 47, 49, 46, 48, 13, 10, 13, 10]⟩ : ByteArray)] rfl ga ?_; (with_reducible refine (http_Parse.calls k (⟨#[71, 69, 84, 32, 47, 32, 72, 84, 84, 80, 47, 49, 46, 48, 13, 10, 13, 10]⟩ : ByteArray) t225 t226 t227 t228 _ ?side1 A2.out).mono ?_); (case side1 => exact LaidU.below HU.out (bl HB.out)); rintro e w17 ⟨rfl, hb⟩; refine ⟨_, rfl, ?_⟩; replace BK224 := Aside0.mk (blk_below (g := gb224) (o := .cells #[.string t220, .string t221, .string t222] 23 (0, 0)) (by refine pk ?_; refine blk_put (cs := #[.string t220, .string t221, .string (⟨#[]⟩ : ByteArray)]) ?_ 2 _ rfl; refine pk ?_; refine blk_put (cs := #[.string t220, .string (⟨#[]⟩ : ByteArray), .string (⟨#[]⟩ : ByteArray)]) ?_ 1 _ rfl; refine pk ?_; refine blk_put (cs := #[.string (⟨#[]⟩ : ByteArray), .string (⟨#[]⟩ : ByteArray), .string (⟨#[]⟩ : ByteArray)]) ?_ 0 _ rfl; exact pk BK224.out) hb); replace HB := Aside0.mk (below_step (bl HB.out) hb); (try clear hb); (try clear hb2); (try clear hk); (try clear hi)) | ((with_reducible refine gate_dst (N := 3) rfl ?_); refine box_event ?hg (N := 3) ?hd (cs := #[.string (⟨#[]⟩ : ByteArray), .string (⟨#[]⟩ : ByteArray), .string (⟨#[]⟩ : ByteArray)]) (t := 23) ?hr ?_; (case hd => rfl); (case hg => rfl); (case hr => first | (go_simp; done) | (go_simp; rfl)); intro gb229 hg w18 hbox hb; have BK229 := Aside0.mk (hbox); have GW229 := Aside0.mk (gs (w := w) hg (bl HB.out)); have GE229 := Aside0.mk (gs (w := w) hg (bl HB.out)); replace HB := Aside0.mk (below_step (bl HB.out) hb); have NB224_229 := Aside0.mk ((gl (g := gb224) hg (pk BK224.out))); have NB229_224 := Aside0.mk ((gm (g := gb224) hg (pk BK224.out))); replace BK224 := Aside0.mk (blk_below (pk BK224.out) hb); clear hb hbox hg; have hnb19 := NB229_224.out; have hnc19 := NB224_229.out; obtain ⟨hcz20_0, hcz20_1, hcz20_2, hfz20_0, hfz20_1, hfz20_2⟩ := cz3 BK229.out) | ((with_reducible refine gate_callee (f := 8) rfl ?_); refine goesL_ (some 18) rfl rfl Tryd.func8 kr rfl #[.string (⟨#[71, 69, 84, 32, 47, 32, 72, 84, 84, 80, 47, 49, 46, 49, 13, 10, 67, 111, 110, 116, 101, 110, 116, 45, 76, 101, 110, 103, 116, 104, 58, 32, 50, 54, 50, 49, 52, 53, 13, 10, 13, 10]⟩ : ByteArray)] rfl ga ?_; (with_reducible refine (http_Parse.calls k (⟨#[71, 69, 84, 32, 47, 32, 72, 84, 84, 80, 47, 49, 46, 49, 13, 10, 67, 111, 110, 116, 101, 110, 116, 45, 76, 101, 110, 103, 116, 104, 58, 32, 50, 54, 50, 49, 52, 53, 13, 10, 13, 10]⟩ : ByteArray) t230 t231 t232 t233 _ ?side1 A3.out).mono ?_); (case side1 => exact LaidU.below HU.out (bl HB.out)); rintro e w21 ⟨rfl, hb⟩; refine ⟨_, rfl, ?_⟩; replace BK224 := Aside0.mk (blk_below (g := gb224) (o := .cells #[.string t220, .string t221, .string t222] 23 (0, 0)) (by refine pk ?_; refine blk_far ?_ NB224_229.out _; refine pk ?_; refine blk_far ?_ NB224_229.out _; refine pk ?_; refine blk_far ?_ NB224_229.out _; exact pk BK224.out) hb); replace BK229 := Aside0.mk (blk_below (g := gb229) (o := .cells #[.string t225, .string t226, .string t227] 23 (0, 0)) (by refine pk ?_; refine blk_put (cs := #[.string t225, .string t226, .string (⟨#[]⟩ : ByteArray)]) ?_ 2 _ rfl; refine pk ?_; refine blk_put (cs := #[.string t225, .string (⟨#[]⟩ : ByteArray), .string (⟨#[]⟩ : ByteArray)]) ?_ 1 _ rfl; refine pk ?_; refine blk_put (cs := #[.string (⟨#[]⟩ : ByteArray), .string (⟨#[]⟩ : ByteArray), .string (⟨#[]⟩ : ByteArray)]) ?_ 0 _ rfl; exact pk BK229.out) hb); replace HB := Aside0.mk (below_step (bl HB.out) hb); (try clear hb); (try clear hb2); (try clear hk); (try clear hi)) | ((with_reducible refine gate_dst (N := 5) rfl ?_); refine box_event ?hg (N := 5) ?hd (cs := #[.string (⟨#[]⟩ : ByteArray), .string (⟨#[]⟩ : ByteArray), .string (⟨#[]⟩ : ByteArray)]) (t := 23) ?hr ?_; (case hd => rfl); (case hg => rfl); (case hr => first | (go_simp; done) | (go_simp; rfl)); intro gb234 hg w22 hbox hb; have BK234 := Aside0.mk (hbox); have GW234 := Aside0.mk (gs (w := w) hg (bl HB.out)); have GE234 := Aside0.mk (gs (w := w) hg (bl HB.out)); replace HB := Aside0.mk (below_step (bl HB.out) hb); have NB224_234 := Aside0.mk ((gl (g := gb224) hg (pk BK224.out))); have NB234_224 := Aside0.mk ((gm (g := gb224) hg (pk BK224.out))); replace BK224 := Aside0.mk (blk_below (pk BK224.out) hb); have NB229_234 := Aside0.mk ((gl (g := gb229) hg (pk BK229.out))); have NB234_229 := Aside0.mk ((gm (g := gb229) hg (pk BK229.out))); replace BK229 := Aside0.mk (blk_below (pk BK229.out) hb); clear hb hbox hg; have hnb23 := NB234_224.out; have hnc23 := NB224_234.out; have hnb24 := NB234_229.out; have hnc24 := NB229_234.out; obtain ⟨hcz25_0, hcz25_1, hcz25_2, hfz25_0, hfz25_1, hfz25_2⟩ := cz3 BK234.out) | ((with_reducible refine gate_callee (f := 6) rfl ?_); refine goesL_ (some 23) rfl rfl Tryd.func6 kr rfl #[.agg #[.string (⟨#[71, 69, 84]⟩ : ByteArray), .string (⟨#[47, 97]⟩ : ByteArray), .string (⟨#[]⟩ : ByteArray)]] rfl ga ?_; (with_reducible refine (http_Write.calls k (⟨#[71, 69, 84]⟩ : ByteArray) (⟨#[47, 97]⟩ : ByteArray) (⟨#[]⟩ : ByteArray) t235 t236 _ ?side1 A4.out).mono ?_); (case side1 => exact LaidU.below HU.out (bl HB.out)); rintro e w26 ⟨rfl, hb⟩; refine ⟨_, rfl, ?_⟩; replace BK224 := Aside0.mk (blk_below (g := gb224) (o := .cells #[.string t220, .string t221, .string t222] 23 (0, 0)) (by refine pk ?_; refine blk_far ?_ NB224_234.out _; refine pk ?_; refine blk_far ?_ NB224_234.out _; refine pk ?_; refine blk_far ?_ NB224_234.out _; exact pk BK224.out) hb); replace BK229 := Aside0.mk (blk_below (g := gb229) (o := .cells #[.string t225, .string t226, .string t227] 23 (0, 0)) (by refine pk ?_; refine blk_far ?_ NB229_234.out _; refine pk ?_; refine blk_far ?_ NB229_234.out _; refine pk ?_; refine blk_far ?_ NB229_234.out _; exact pk BK229.out) hb); replace BK234 := Aside0.mk (blk_below (g := gb234) (o := .cells #[.string t230, .string t231, .string t232] 23 (0, 0)) (by refine pk ?_; refine blk_put (cs := #[.string t230, .string t231, .string (⟨#[]⟩ : ByteArray)]) ?_ 2 _ rfl; refine pk ?_; refine blk_put (cs := #[.string t230, .string (⟨#[]⟩ : ByteArray), .string (⟨#[]⟩ : ByteArray)]) ?_ 1 _ rfl; refine pk ?_; refine blk_put (cs := #[.string (⟨#[]⟩ : ByteArray), .string (⟨#[]⟩ : ByteArray), .string (⟨#[]⟩ : ByteArray)]) ?_ 0 _ rfl; exact pk BK234.out) hb); replace HB := Aside0.mk (below_step (bl HB.out) hb); (try clear hb); (try clear hb2); (try clear hk); (try clear hi); obtain ⟨hcz27_0, hcz27_1, hcz27_2, hfz27_0, hfz27_1, hfz27_2⟩ := cz3 BK224.out) | (go_at_call 13; (with_reducible refine (http_Reason.calls 507 t237 _ A11.out).mono ?_); rintro e w' ⟨rfl, ⟨nd, rfl⟩⟩) | (go_at_call 14; (with_reducible refine (http_Print.calls 404 (⟨#[123, 125]⟩ : ByteArray) t238 _ ?side1 A13.out).mono ?_); (case side1 => exact LaidU.below HU.out (bl HB.out)); rintro e w28 ⟨rfl, hb⟩; replace BK224 := Aside0.mk (blk_below (pk BK224.out) hb); replace BK229 := Aside0.mk (blk_below (pk BK229.out) hb); replace BK234 := Aside0.mk (blk_below (pk BK234.out) hb); replace HB := Aside0.mk (below_step (bl HB.out) hb); (try clear hb); (try clear hb2); (try clear hk); (try clear hi)))
        go_ret
        exact ⟨er0, bl HB.out⟩
       ·rw [if_neg c12] at H
        have c12b0 : (t237.toList == ([73, 110, 115, 117, 102, 102, 105, 99, 105, 101, 110, 116, 32, 83, 116, 111, 114, 97, 103, 101] : List UInt8)) = false := beq_eq_false_iff_ne.mpr c12
        have c12b1 : (t237.toList != ([73, 110, 115, 117, 102, 102, 105, 99, 105, 101, 110, 116, 32, 83, 116, 111, 114, 97, 103, 101] : List UInt8)) = true := bne_iff_ne.mpr c12
        obtain rfl := Option.some.inj H
        go_enter Tryd.func7, Tryd.ntmps7
        go_wp2_with (first | ((with_reducible refine gate_callee (f := 8) rfl ?_); refine goesL_ (some 10) rfl rfl Tryd.func8 kr rfl #[.string (⟨#[80, 79, 83, 84, 32, 47, 113, 32, 72, 84, 84, 80, 47, 49, 46, 49, 13, 10, 99, 111, 110, 116, 101, 110, 116, 45, 76, 69, 78, 71, 84, 72, 58, 32, 50, 13, 10, 88, 45, 121, 58, 122, 13, 10, 13, 10, 123, 125]⟩ : ByteArray)] rfl ga ?_; (with_reducible refine (http_Parse.calls k (⟨#[80, 79, 83, 84, 32, 47, 113, 32, 72, 84, 84, 80, 47, 49, 46, 49, 13, 10, 99, 111, 110, 116, 101, 110, 116, 45, 76, 69, 78, 71, 84, 72, 58, 32, 50, 13, 10, 88, 45, 121, 58, 122, 13, 10, 13, 10, 123, 125]⟩ : ByteArray) t220 t221 t222 t223 _ ?side1 A1.out).mono ?_); (case side1 => exact LaidU.below HU.out (bl HB.out)); rintro e w29 ⟨rfl, hb⟩; refine ⟨_, rfl, ?_⟩; replace HB := Aside0.mk (below_step (bl HB.out) hb); (try clear hb); (try clear hb2); (try clear hk); (try clear hi)) | ((with_reducible refine gate_dst (N := 1) rfl ?_); refine box_event ?hg (N := 1) ?hd (cs := #[.string (⟨#[]⟩ : ByteArray), .string (⟨#[]⟩ : ByteArray), .string (⟨#[]⟩ : ByteArray)]) (t := 23) ?hr ?_; (case hd => rfl); (case hg => rfl); (case hr => first | (go_simp; done) | (go_simp; rfl)); intro gb224 hg w30 hbox hb; have BK224 := Aside0.mk (hbox); have GW224 := Aside0.mk (gs (w := w) hg (bl HB.out)); have GE224 := Aside0.mk (gs (w := w) hg (bl HB.out)); replace HB := Aside0.mk (below_step (bl HB.out) hb); clear hb hbox hg; obtain ⟨hcz31_0, hcz31_1, hcz31_2, hfz31_0, hfz31_1, hfz31_2⟩ := cz3 BK224.out) | ((with_reducible refine gate_callee (f := 8) rfl ?_); refine goesL_ (some 14) rfl rfl Tryd.func8 kr rfl #[.string (⟨#[71, 69, 84, 32, 47, 32, 72, 84, 84, 80, 47, 49, 46, 48, 13, 10, 13, 10]⟩ : ByteArray)] rfl ga ?_; (with_reducible refine (http_Parse.calls k (⟨#[71, 69, 84, 32, 47, 32, 72, 84, 84, 80, 47, 49, 46, 48, 13, 10, 13, 10]⟩ : ByteArray) t225 t226 t227 t228 _ ?side1 A2.out).mono ?_); (case side1 => exact LaidU.below HU.out (bl HB.out)); rintro e w32 ⟨rfl, hb⟩; refine ⟨_, rfl, ?_⟩; replace BK224 := Aside0.mk (blk_below (g := gb224) (o := .cells #[.string t220, .string t221, .string t222] 23 (0, 0)) (by refine pk ?_; refine blk_put (cs := #[.string t220, .string t221, .string (⟨#[]⟩ : ByteArray)]) ?_ 2 _ rfl; refine pk ?_; refine blk_put (cs := #[.string t220, .string (⟨#[]⟩ : ByteArray), .string (⟨#[]⟩ : ByteArray)]) ?_ 1 _ rfl; refine pk ?_; refine blk_put (cs := #[.string (⟨#[]⟩ : ByteArray), .string (⟨#[]⟩ : ByteArray), .string (⟨#[]⟩ : ByteArray)]) ?_ 0 _ rfl; exact pk BK224.out) hb); replace HB := Aside0.mk (below_step (bl HB.out) hb); (try clear hb); (try clear hb2); (try clear hk); (try clear hi)) | ((with_reducible refine gate_dst (N := 3) rfl ?_); refine box_event ?hg (N := 3) ?hd (cs := #[.string (⟨#[]⟩ : ByteArray), .string (⟨#[]⟩ : ByteArray), .string (⟨#[]⟩ : ByteArray)]) (t := 23) ?hr ?_; (case hd => rfl); (case hg => rfl); (case hr => first | (go_simp; done) | (go_simp; rfl)); intro gb229 hg w33 hbox hb; have BK229 := Aside0.mk (hbox); have GW229 := Aside0.mk (gs (w := w) hg (bl HB.out)); have GE229 := Aside0.mk (gs (w := w) hg (bl HB.out)); replace HB := Aside0.mk (below_step (bl HB.out) hb); have NB224_229 := Aside0.mk ((gl (g := gb224) hg (pk BK224.out))); have NB229_224 := Aside0.mk ((gm (g := gb224) hg (pk BK224.out))); replace BK224 := Aside0.mk (blk_below (pk BK224.out) hb); clear hb hbox hg; have hnb34 := NB229_224.out; have hnc34 := NB224_229.out; obtain ⟨hcz35_0, hcz35_1, hcz35_2, hfz35_0, hfz35_1, hfz35_2⟩ := cz3 BK229.out) | ((with_reducible refine gate_callee (f := 8) rfl ?_); refine goesL_ (some 18) rfl rfl Tryd.func8 kr rfl #[.string (⟨#[71, 69, 84, 32, 47, 32, 72, 84, 84, 80, 47, 49, 46, 49, 13, 10, 67, 111, 110, 116, 101, 110, 116, 45, 76, 101, 110, 103, 116, 104, 58, 32, 50, 54, 50, 49, 52, 53, 13, 10, 13, 10]⟩ : ByteArray)] rfl ga ?_; (with_reducible refine (http_Parse.calls k (⟨#[71, 69, 84, 32, 47, 32, 72, 84, 84, 80, 47, 49, 46, 49, 13, 10, 67, 111, 110, 116, 101, 110, 116, 45, 76, 101, 110, 103, 116, 104, 58, 32, 50, 54, 50, 49, 52, 53, 13, 10, 13, 10]⟩ : ByteArray) t230 t231 t232 t233 _ ?side1 A3.out).mono ?_); (case side1 => exact LaidU.below HU.out (bl HB.out)); rintro e w36 ⟨rfl, hb⟩; refine ⟨_, rfl, ?_⟩; replace BK224 := Aside0.mk (blk_below (g := gb224) (o := .cells #[.string t220, .string t221, .string t222] 23 (0, 0)) (by refine pk ?_; refine blk_far ?_ NB224_229.out _; refine pk ?_; refine blk_far ?_ NB224_229.out _; refine pk ?_; refine blk_far ?_ NB224_229.out _; exact pk BK224.out) hb); replace BK229 := Aside0.mk (blk_below (g := gb229) (o := .cells #[.string t225, .string t226, .string t227] 23 (0, 0)) (by refine pk ?_; refine blk_put (cs := #[.string t225, .string t226, .string (⟨#[]⟩ : ByteArray)]) ?_ 2 _ rfl; refine pk ?_; refine blk_put (cs := #[.string t225, .string (⟨#[]⟩ : ByteArray), .string (⟨#[]⟩ : ByteArray)]) ?_ 1 _ rfl; refine pk ?_; refine blk_put (cs := #[.string (⟨#[]⟩ : ByteArray), .string (⟨#[]⟩ : ByteArray), .string (⟨#[]⟩ : ByteArray)]) ?_ 0 _ rfl; exact pk BK229.out) hb); replace HB := Aside0.mk (below_step (bl HB.out) hb); (try clear hb); (try clear hb2); (try clear hk); (try clear hi)) | ((with_reducible refine gate_dst (N := 5) rfl ?_); refine box_event ?hg (N := 5) ?hd (cs := #[.string (⟨#[]⟩ : ByteArray), .string (⟨#[]⟩ : ByteArray), .string (⟨#[]⟩ : ByteArray)]) (t := 23) ?hr ?_; (case hd => rfl); (case hg => rfl); (case hr => first | (go_simp; done) | (go_simp; rfl)); intro gb234 hg w37 hbox hb; have BK234 := Aside0.mk (hbox); have GW234 := Aside0.mk (gs (w := w) hg (bl HB.out)); have GE234 := Aside0.mk (gs (w := w) hg (bl HB.out)); replace HB := Aside0.mk (below_step (bl HB.out) hb); have NB224_234 := Aside0.mk ((gl (g := gb224) hg (pk BK224.out))); have NB234_224 := Aside0.mk ((gm (g := gb224) hg (pk BK224.out))); replace BK224 := Aside0.mk (blk_below (pk BK224.out) hb); have NB229_234 := Aside0.mk ((gl (g := gb229) hg (pk BK229.out))); have NB234_229 := Aside0.mk ((gm (g := gb229) hg (pk BK229.out))); replace BK229 := Aside0.mk (blk_below (pk BK229.out) hb); clear hb hbox hg; have hnb38 := NB234_224.out; have hnc38 := NB224_234.out; have hnb39 := NB234_229.out; have hnc39 := NB229_234.out; obtain ⟨hcz40_0, hcz40_1, hcz40_2, hfz40_0, hfz40_1, hfz40_2⟩ := cz3 BK234.out) | ((with_reducible refine gate_callee (f := 6) rfl ?_); refine goesL_ (some 23) rfl rfl Tryd.func6 kr rfl #[.agg #[.string (⟨#[71, 69, 84]⟩ : ByteArray), .string (⟨#[47, 97]⟩ : ByteArray), .string (⟨#[]⟩ : ByteArray)]] rfl ga ?_; (with_reducible refine (http_Write.calls k (⟨#[71, 69, 84]⟩ : ByteArray) (⟨#[47, 97]⟩ : ByteArray) (⟨#[]⟩ : ByteArray) t235 t236 _ ?side1 A4.out).mono ?_); (case side1 => exact LaidU.below HU.out (bl HB.out)); rintro e w41 ⟨rfl, hb⟩; refine ⟨_, rfl, ?_⟩; replace BK224 := Aside0.mk (blk_below (g := gb224) (o := .cells #[.string t220, .string t221, .string t222] 23 (0, 0)) (by refine pk ?_; refine blk_far ?_ NB224_234.out _; refine pk ?_; refine blk_far ?_ NB224_234.out _; refine pk ?_; refine blk_far ?_ NB224_234.out _; exact pk BK224.out) hb); replace BK229 := Aside0.mk (blk_below (g := gb229) (o := .cells #[.string t225, .string t226, .string t227] 23 (0, 0)) (by refine pk ?_; refine blk_far ?_ NB229_234.out _; refine pk ?_; refine blk_far ?_ NB229_234.out _; refine pk ?_; refine blk_far ?_ NB229_234.out _; exact pk BK229.out) hb); replace BK234 := Aside0.mk (blk_below (g := gb234) (o := .cells #[.string t230, .string t231, .string t232] 23 (0, 0)) (by refine pk ?_; refine blk_put (cs := #[.string t230, .string t231, .string (⟨#[]⟩ : ByteArray)]) ?_ 2 _ rfl; refine pk ?_; refine blk_put (cs := #[.string t230, .string (⟨#[]⟩ : ByteArray), .string (⟨#[]⟩ : ByteArray)]) ?_ 1 _ rfl; refine pk ?_; refine blk_put (cs := #[.string (⟨#[]⟩ : ByteArray), .string (⟨#[]⟩ : ByteArray), .string (⟨#[]⟩ : ByteArray)]) ?_ 0 _ rfl; exact pk BK234.out) hb); replace HB := Aside0.mk (below_step (bl HB.out) hb); (try clear hb); (try clear hb2); (try clear hk); (try clear hi); obtain ⟨hcz42_0, hcz42_1, hcz42_2, hfz42_0, hfz42_1, hfz42_2⟩ := cz3 BK224.out) | (go_at_call 13; (with_reducible refine (http_Reason.calls 507 t237 _ A11.out).mono ?_); rintro e w' ⟨rfl, ⟨nd, rfl⟩⟩))
        go_ret
        exact ⟨er0, bl HB.out⟩
      ·rw [if_neg c10] at H
       have c10b0 : (t236 == 0) = false := beq_eq_false_iff_ne.mpr c10
       have c10b1 : (t236 != 0) = true := bne_iff_ne.mpr c10
       obtain rfl := Option.some.inj H
       go_enter Tryd.func7, Tryd.ntmps7
       go_wp2_with (first | ((with_reducible refine gate_callee (f := 8) rfl ?_); refine goesL_ (some 10) rfl rfl Tryd.func8 kr rfl #[.string (⟨#[80, 79, 83, 84, 32, 47, 113, 32, 72, 84, 84, 80, 47, 49, 46, 49, 13, 10, 99, 111, 110, 116, 101, 110, 116, 45, 76, 69, 78, 71, 84, 72, 58, 32, 50, 13, 10, 88, 45, 121, 58, 122, 13, 10, 13, 10, 123, 125]⟩ : ByteArray)] rfl ga ?_; (with_reducible refine (http_Parse.calls k (⟨#[80, 79, 83, 84, 32, 47, 113, 32, 72, 84, 84, 80, 47, 49, 46, 49, 13, 10, 99, 111, 110, 116, 101, 110, 116, 45, 76, 69, 78, 71, 84, 72, 58, 32, 50, 13, 10, 88, 45, 121, 58, 122, 13, 10, 13, 10, 123, 125]⟩ : ByteArray) t220 t221 t222 t223 _ ?side1 A1.out).mono ?_); (case side1 => exact LaidU.below HU.out (bl HB.out)); rintro e w43 ⟨rfl, hb⟩; refine ⟨_, rfl, ?_⟩; replace HB := Aside0.mk (below_step (bl HB.out) hb); (try clear hb); (try clear hb2); (try clear hk); (try clear hi)) | ((with_reducible refine gate_dst (N := 1) rfl ?_); refine box_event ?hg (N := 1) ?hd (cs := #[.string (⟨#[]⟩ : ByteArray), .string (⟨#[]⟩ : ByteArray), .string (⟨#[]⟩ : ByteArray)]) (t := 23) ?hr ?_; (case hd => rfl); (case hg => rfl); (case hr => first | (go_simp; done) | (go_simp; rfl)); intro gb224 hg w44 hbox hb; have BK224 := Aside0.mk (hbox); have GW224 := Aside0.mk (gs (w := w) hg (bl HB.out)); have GE224 := Aside0.mk (gs (w := w) hg (bl HB.out)); replace HB := Aside0.mk (below_step (bl HB.out) hb); clear hb hbox hg; obtain ⟨hcz45_0, hcz45_1, hcz45_2, hfz45_0, hfz45_1, hfz45_2⟩ := cz3 BK224.out) | ((with_reducible refine gate_callee (f := 8) rfl ?_); refine goesL_ (some 14) rfl rfl Tryd.func8 kr rfl #[.string (⟨#[71, 69, 84, 32, 47, 32, 72, 84, 84, 80, 47, 49, 46, 48, 13, 10, 13, 10]⟩ : ByteArray)] rfl ga ?_; (with_reducible refine (http_Parse.calls k (⟨#[71, 69, 84, 32, 47, 32, 72, 84, 84, 80, 47, 49, 46, 48, 13, 10, 13, 10]⟩ : ByteArray) t225 t226 t227 t228 _ ?side1 A2.out).mono ?_); (case side1 => exact LaidU.below HU.out (bl HB.out)); rintro e w46 ⟨rfl, hb⟩; refine ⟨_, rfl, ?_⟩; replace BK224 := Aside0.mk (blk_below (g := gb224) (o := .cells #[.string t220, .string t221, .string t222] 23 (0, 0)) (by refine pk ?_; refine blk_put (cs := #[.string t220, .string t221, .string (⟨#[]⟩ : ByteArray)]) ?_ 2 _ rfl; refine pk ?_; refine blk_put (cs := #[.string t220, .string (⟨#[]⟩ : ByteArray), .string (⟨#[]⟩ : ByteArray)]) ?_ 1 _ rfl; refine pk ?_; refine blk_put (cs := #[.string (⟨#[]⟩ : ByteArray), .string (⟨#[]⟩ : ByteArray), .string (⟨#[]⟩ : ByteArray)]) ?_ 0 _ rfl; exact pk BK224.out) hb); replace HB := Aside0.mk (below_step (bl HB.out) hb); (try clear hb); (try clear hb2); (try clear hk); (try clear hi)) | ((with_reducible refine gate_dst (N := 3) rfl ?_); refine box_event ?hg (N := 3) ?hd (cs := #[.string (⟨#[]⟩ : ByteArray), .string (⟨#[]⟩ : ByteArray), .string (⟨#[]⟩ : ByteArray)]) (t := 23) ?hr ?_; (case hd => rfl); (case hg => rfl); (case hr => first | (go_simp; done) | (go_simp; rfl)); intro gb229 hg w47 hbox hb; have BK229 := Aside0.mk (hbox); have GW229 := Aside0.mk (gs (w := w) hg (bl HB.out)); have GE229 := Aside0.mk (gs (w := w) hg (bl HB.out)); replace HB := Aside0.mk (below_step (bl HB.out) hb); have NB224_229 := Aside0.mk ((gl (g := gb224) hg (pk BK224.out))); have NB229_224 := Aside0.mk ((gm (g := gb224) hg (pk BK224.out))); replace BK224 := Aside0.mk (blk_below (pk BK224.out) hb); clear hb hbox hg; have hnb48 := NB229_224.out; have hnc48 := NB224_229.out; obtain ⟨hcz49_0, hcz49_1, hcz49_2, hfz49_0, hfz49_1, hfz49_2⟩ := cz3 BK229.out) | ((with_reducible refine gate_callee (f := 8) rfl ?_); refine goesL_ (some 18) rfl rfl Tryd.func8 kr rfl #[.string (⟨#[71, 69, 84, 32, 47, 32, 72, 84, 84, 80, 47, 49, 46, 49, 13, 10, 67, 111, 110, 116, 101, 110, 116, 45, 76, 101, 110, 103, 116, 104, 58, 32, 50, 54, 50, 49, 52, 53, 13, 10, 13, 10]⟩ : ByteArray)] rfl ga ?_; (with_reducible refine (http_Parse.calls k (⟨#[71, 69, 84, 32, 47, 32, 72, 84, 84, 80, 47, 49, 46, 49, 13, 10, 67, 111, 110, 116, 101, 110, 116, 45, 76, 101, 110, 103, 116, 104, 58, 32, 50, 54, 50, 49, 52, 53, 13, 10, 13, 10]⟩ : ByteArray) t230 t231 t232 t233 _ ?side1 A3.out).mono ?_); (case side1 => exact LaidU.below HU.out (bl HB.out)); rintro e w50 ⟨rfl, hb⟩; refine ⟨_, rfl, ?_⟩; replace BK224 := Aside0.mk (blk_below (g := gb224) (o := .cells #[.string t220, .string t221, .string t222] 23 (0, 0)) (by refine pk ?_; refine blk_far ?_ NB224_229.out _; refine pk ?_; refine blk_far ?_ NB224_229.out _; refine pk ?_; refine blk_far ?_ NB224_229.out _; exact pk BK224.out) hb); replace BK229 := Aside0.mk (blk_below (g := gb229) (o := .cells #[.string t225, .string t226, .string t227] 23 (0, 0)) (by refine pk ?_; refine blk_put (cs := #[.string t225, .string t226, .string (⟨#[]⟩ : ByteArray)]) ?_ 2 _ rfl; refine pk ?_; refine blk_put (cs := #[.string t225, .string (⟨#[]⟩ : ByteArray), .string (⟨#[]⟩ : ByteArray)]) ?_ 1 _ rfl; refine pk ?_; refine blk_put (cs := #[.string (⟨#[]⟩ : ByteArray), .string (⟨#[]⟩ : ByteArray), .string (⟨#[]⟩ : ByteArray)]) ?_ 0 _ rfl; exact pk BK229.out) hb); replace HB := Aside0.mk (below_step (bl HB.out) hb); (try clear hb); (try clear hb2); (try clear hk); (try clear hi)) | ((with_reducible refine gate_dst (N := 5) rfl ?_); refine box_event ?hg (N := 5) ?hd (cs := #[.string (⟨#[]⟩ : ByteArray), .string (⟨#[]⟩ : ByteArray), .string (⟨#[]⟩ : ByteArray)]) (t := 23) ?hr ?_; (case hd => rfl); (case hg => rfl); (case hr => first | (go_simp; done) | (go_simp; rfl)); intro gb234 hg w51 hbox hb; have BK234 := Aside0.mk (hbox); have GW234 := Aside0.mk (gs (w := w) hg (bl HB.out)); have GE234 := Aside0.mk (gs (w := w) hg (bl HB.out)); replace HB := Aside0.mk (below_step (bl HB.out) hb); have NB224_234 := Aside0.mk ((gl (g := gb224) hg (pk BK224.out))); have NB234_224 := Aside0.mk ((gm (g := gb224) hg (pk BK224.out))); replace BK224 := Aside0.mk (blk_below (pk BK224.out) hb); have NB229_234 := Aside0.mk ((gl (g := gb229) hg (pk BK229.out))); have NB234_229 := Aside0.mk ((gm (g := gb229) hg (pk BK229.out))); replace BK229 := Aside0.mk (blk_below (pk BK229.out) hb); clear hb hbox hg; have hnb52 := NB234_224.out; have hnc52 := NB224_234.out; have hnb53 := NB234_229.out; have hnc53 := NB229_234.out; obtain ⟨hcz54_0, hcz54_1, hcz54_2, hfz54_0, hfz54_1, hfz54_2⟩ := cz3 BK234.out) | ((with_reducible refine gate_callee (f := 6) rfl ?_); refine goesL_ (some 23) rfl rfl Tryd.func6 kr rfl #[.agg #[.string (⟨#[71, 69, 84]⟩ : ByteArray), .string (⟨#[47, 97]⟩ : ByteArray), .string (⟨#[]⟩ : ByteArray)]] rfl ga ?_; (with_reducible refine (http_Write.calls k (⟨#[71, 69, 84]⟩ : ByteArray) (⟨#[47, 97]⟩ : ByteArray) (⟨#[]⟩ : ByteArray) t235 t236 _ ?side1 A4.out).mono ?_); (case side1 => exact LaidU.below HU.out (bl HB.out)); rintro e w55 ⟨rfl, hb⟩; refine ⟨_, rfl, ?_⟩; replace BK224 := Aside0.mk (blk_below (g := gb224) (o := .cells #[.string t220, .string t221, .string t222] 23 (0, 0)) (by refine pk ?_; refine blk_far ?_ NB224_234.out _; refine pk ?_; refine blk_far ?_ NB224_234.out _; refine pk ?_; refine blk_far ?_ NB224_234.out _; exact pk BK224.out) hb); replace BK229 := Aside0.mk (blk_below (g := gb229) (o := .cells #[.string t225, .string t226, .string t227] 23 (0, 0)) (by refine pk ?_; refine blk_far ?_ NB229_234.out _; refine pk ?_; refine blk_far ?_ NB229_234.out _; refine pk ?_; refine blk_far ?_ NB229_234.out _; exact pk BK229.out) hb); replace BK234 := Aside0.mk (blk_below (g := gb234) (o := .cells #[.string t230, .string t231, .string t232] 23 (0, 0)) (by refine pk ?_; refine blk_put (cs := #[.string t230, .string t231, .string (⟨#[]⟩ : ByteArray)]) ?_ 2 _ rfl; refine pk ?_; refine blk_put (cs := #[.string t230, .string (⟨#[]⟩ : ByteArray), .string (⟨#[]⟩ : ByteArray)]) ?_ 1 _ rfl; refine pk ?_; refine blk_put (cs := #[.string (⟨#[]⟩ : ByteArray), .string (⟨#[]⟩ : ByteArray), .string (⟨#[]⟩ : ByteArray)]) ?_ 0 _ rfl; exact pk BK234.out) hb); replace HB := Aside0.mk (below_step (bl HB.out) hb); (try clear hb); (try clear hb2); (try clear hk); (try clear hi); obtain ⟨hcz56_0, hcz56_1, hcz56_2, hfz56_0, hfz56_1, hfz56_2⟩ := cz3 BK224.out))
       go_ret
       exact ⟨er0, bl HB.out⟩
     ·rw [if_neg c9] at H
      have c9b0 : (t235.toList == ([71, 69, 84, 32, 47, 97, 32, 72, 84, 84, 80, 47, 49, 46, 49, 13, 10, 67, 111, 110, 116, 101, 110, 116, 45, 76, 101, 110, 103, 116, 104, 58, 32, 48, 13, 10, 13, 10] : List UInt8)) = false := beq_eq_false_iff_ne.mpr c9
      have c9b1 : (t235.toList != ([71, 69, 84, 32, 47, 97, 32, 72, 84, 84, 80, 47, 49, 46, 49, 13, 10, 67, 111, 110, 116, 101, 110, 116, 45, 76, 101, 110, 103, 116, 104, 58, 32, 48, 13, 10, 13, 10] : List UInt8)) = true := bne_iff_ne.mpr c9
      obtain rfl := Option.some.inj H
      go_enter Tryd.func7, Tryd.ntmps7
      go_wp2_with (first | ((with_reducible refine gate_callee (f := 8) rfl ?_); refine goesL_ (some 10) rfl rfl Tryd.func8 kr rfl #[.string (⟨#[80, 79, 83, 84, 32, 47, 113, 32, 72, 84, 84, 80, 47, 49, 46, 49, 13, 10, 99, 111, 110, 116, 101, 110, 116, 45, 76, 69, 78, 71, 84, 72, 58, 32, 50, 13, 10, 88, 45, 121, 58, 122, 13, 10, 13, 10, 123, 125]⟩ : ByteArray)] rfl ga ?_; (with_reducible refine (http_Parse.calls k (⟨#[80, 79, 83, 84, 32, 47, 113, 32, 72, 84, 84, 80, 47, 49, 46, 49, 13, 10, 99, 111, 110, 116, 101, 110, 116, 45, 76, 69, 78, 71, 84, 72, 58, 32, 50, 13, 10, 88, 45, 121, 58, 122, 13, 10, 13, 10, 123, 125]⟩ : ByteArray) t220 t221 t222 t223 _ ?side1 A1.out).mono ?_); (case side1 => exact LaidU.below HU.out (bl HB.out)); rintro e w57 ⟨rfl, hb⟩; refine ⟨_, rfl, ?_⟩; replace HB := Aside0.mk (below_step (bl HB.out) hb); (try clear hb); (try clear hb2); (try clear hk); (try clear hi)) | ((with_reducible refine gate_dst (N := 1) rfl ?_); refine box_event ?hg (N := 1) ?hd (cs := #[.string (⟨#[]⟩ : ByteArray), .string (⟨#[]⟩ : ByteArray), .string (⟨#[]⟩ : ByteArray)]) (t := 23) ?hr ?_; (case hd => rfl); (case hg => rfl); (case hr => first | (go_simp; done) | (go_simp; rfl)); intro gb224 hg w58 hbox hb; have BK224 := Aside0.mk (hbox); have GW224 := Aside0.mk (gs (w := w) hg (bl HB.out)); have GE224 := Aside0.mk (gs (w := w) hg (bl HB.out)); replace HB := Aside0.mk (below_step (bl HB.out) hb); clear hb hbox hg; obtain ⟨hcz59_0, hcz59_1, hcz59_2, hfz59_0, hfz59_1, hfz59_2⟩ := cz3 BK224.out) | ((with_reducible refine gate_callee (f := 8) rfl ?_); refine goesL_ (some 14) rfl rfl Tryd.func8 kr rfl #[.string (⟨#[71, 69, 84, 32, 47, 32, 72, 84, 84, 80, 47, 49, 46, 48, 13, 10, 13, 10]⟩ : ByteArray)] rfl ga ?_; (with_reducible refine (http_Parse.calls k (⟨#[71, 69, 84, 32, 47, 32, 72, 84, 84, 80, 47, 49, 46, 48, 13, 10, 13, 10]⟩ : ByteArray) t225 t226 t227 t228 _ ?side1 A2.out).mono ?_); (case side1 => exact LaidU.below HU.out (bl HB.out)); rintro e w60 ⟨rfl, hb⟩; refine ⟨_, rfl, ?_⟩; replace BK224 := Aside0.mk (blk_below (g := gb224) (o := .cells #[.string t220, .string t221, .string t222] 23 (0, 0)) (by refine pk ?_; refine blk_put (cs := #[.string t220, .string t221, .string (⟨#[]⟩ : ByteArray)]) ?_ 2 _ rfl; refine pk ?_; refine blk_put (cs := #[.string t220, .string (⟨#[]⟩ : ByteArray), .string (⟨#[]⟩ : ByteArray)]) ?_ 1 _ rfl; refine pk ?_; refine blk_put (cs := #[.string (⟨#[]⟩ : ByteArray), .string (⟨#[]⟩ : ByteArray), .string (⟨#[]⟩ : ByteArray)]) ?_ 0 _ rfl; exact pk BK224.out) hb); replace HB := Aside0.mk (below_step (bl HB.out) hb); (try clear hb); (try clear hb2); (try clear hk); (try clear hi)) | ((with_reducible refine gate_dst (N := 3) rfl ?_); refine box_event ?hg (N := 3) ?hd (cs := #[.string (⟨#[]⟩ : ByteArray), .string (⟨#[]⟩ : ByteArray), .string (⟨#[]⟩ : ByteArray)]) (t := 23) ?hr ?_; (case hd => rfl); (case hg => rfl); (case hr => first | (go_simp; done) | (go_simp; rfl)); intro gb229 hg w61 hbox hb; have BK229 := Aside0.mk (hbox); have GW229 := Aside0.mk (gs (w := w) hg (bl HB.out)); have GE229 := Aside0.mk (gs (w := w) hg (bl HB.out)); replace HB := Aside0.mk (below_step (bl HB.out) hb); have NB224_229 := Aside0.mk ((gl (g := gb224) hg (pk BK224.out))); have NB229_224 := Aside0.mk ((gm (g := gb224) hg (pk BK224.out))); replace BK224 := Aside0.mk (blk_below (pk BK224.out) hb); clear hb hbox hg; have hnb62 := NB229_224.out; have hnc62 := NB224_229.out; obtain ⟨hcz63_0, hcz63_1, hcz63_2, hfz63_0, hfz63_1, hfz63_2⟩ := cz3 BK229.out) | ((with_reducible refine gate_callee (f := 8) rfl ?_); refine goesL_ (some 18) rfl rfl Tryd.func8 kr rfl #[.string (⟨#[71, 69, 84, 32, 47, 32, 72, 84, 84, 80, 47, 49, 46, 49, 13, 10, 67, 111, 110, 116, 101, 110, 116, 45, 76, 101, 110, 103, 116, 104, 58, 32, 50, 54, 50, 49, 52, 53, 13, 10, 13, 10]⟩ : ByteArray)] rfl ga ?_; (with_reducible refine (http_Parse.calls k (⟨#[71, 69, 84, 32, 47, 32, 72, 84, 84, 80, 47, 49, 46, 49, 13, 10, 67, 111, 110, 116, 101, 110, 116, 45, 76, 101, 110, 103, 116, 104, 58, 32, 50, 54, 50, 49, 52, 53, 13, 10, 13, 10]⟩ : ByteArray) t230 t231 t232 t233 _ ?side1 A3.out).mono ?_); (case side1 => exact LaidU.below HU.out (bl HB.out)); rintro e w64 ⟨rfl, hb⟩; refine ⟨_, rfl, ?_⟩; replace BK224 := Aside0.mk (blk_below (g := gb224) (o := .cells #[.string t220, .string t221, .string t222] 23 (0, 0)) (by refine pk ?_; refine blk_far ?_ NB224_229.out _; refine pk ?_; refine blk_far ?_ NB224_229.out _; refine pk ?_; refine blk_far ?_ NB224_229.out _; exact pk BK224.out) hb); replace BK229 := Aside0.mk (blk_below (g := gb229) (o := .cells #[.string t225, .string t226, .string t227] 23 (0, 0)) (by refine pk ?_; refine blk_put (cs := #[.string t225, .string t226, .string (⟨#[]⟩ : ByteArray)]) ?_ 2 _ rfl; refine pk ?_; refine blk_put (cs := #[.string t225, .string (⟨#[]⟩ : ByteArray), .string (⟨#[]⟩ : ByteArray)]) ?_ 1 _ rfl; refine pk ?_; refine blk_put (cs := #[.string (⟨#[]⟩ : ByteArray), .string (⟨#[]⟩ : ByteArray), .string (⟨#[]⟩ : ByteArray)]) ?_ 0 _ rfl; exact pk BK229.out) hb); replace HB := Aside0.mk (below_step (bl HB.out) hb); (try clear hb); (try clear hb2); (try clear hk); (try clear hi)) | ((with_reducible refine gate_dst (N := 5) rfl ?_); refine box_event ?hg (N := 5) ?hd (cs := #[.string (⟨#[]⟩ : ByteArray), .string (⟨#[]⟩ : ByteArray), .string (⟨#[]⟩ : ByteArray)]) (t := 23) ?hr ?_; (case hd => rfl); (case hg => rfl); (case hr => first | (go_simp; done) | (go_simp; rfl)); intro gb234 hg w65 hbox hb; have BK234 := Aside0.mk (hbox); have GW234 := Aside0.mk (gs (w := w) hg (bl HB.out)); have GE234 := Aside0.mk (gs (w := w) hg (bl HB.out)); replace HB := Aside0.mk (below_step (bl HB.out) hb); have NB224_234 := Aside0.mk ((gl (g := gb224) hg (pk BK224.out))); have NB234_224 := Aside0.mk ((gm (g := gb224) hg (pk BK224.out))); replace BK224 := Aside0.mk (blk_below (pk BK224.out) hb); have NB229_234 := Aside0.mk ((gl (g := gb229) hg (pk BK229.out))); have NB234_229 := Aside0.mk ((gm (g := gb229) hg (pk BK229.out))); replace BK229 := Aside0.mk (blk_below (pk BK229.out) hb); clear hb hbox hg; have hnb66 := NB234_224.out; have hnc66 := NB224_234.out; have hnb67 := NB234_229.out; have hnc67 := NB229_234.out; obtain ⟨hcz68_0, hcz68_1, hcz68_2, hfz68_0, hfz68_1, hfz68_2⟩ := cz3 BK234.out) | ((with_reducible refine gate_callee (f := 6) rfl ?_); refine goesL_ (some 23) rfl rfl Tryd.func6 kr rfl #[.agg #[.string (⟨#[71, 69, 84]⟩ : ByteArray), .string (⟨#[47, 97]⟩ : ByteArray), .string (⟨#[]⟩ : ByteArray)]] rfl ga ?_; (with_reducible refine (http_Write.calls k (⟨#[71, 69, 84]⟩ : ByteArray) (⟨#[47, 97]⟩ : ByteArray) (⟨#[]⟩ : ByteArray) t235 t236 _ ?side1 A4.out).mono ?_); (case side1 => exact LaidU.below HU.out (bl HB.out)); rintro e w69 ⟨rfl, hb⟩; refine ⟨_, rfl, ?_⟩; replace BK224 := Aside0.mk (blk_below (g := gb224) (o := .cells #[.string t220, .string t221, .string t222] 23 (0, 0)) (by refine pk ?_; refine blk_far ?_ NB224_234.out _; refine pk ?_; refine blk_far ?_ NB224_234.out _; refine pk ?_; refine blk_far ?_ NB224_234.out _; exact pk BK224.out) hb); replace BK229 := Aside0.mk (blk_below (g := gb229) (o := .cells #[.string t225, .string t226, .string t227] 23 (0, 0)) (by refine pk ?_; refine blk_far ?_ NB229_234.out _; refine pk ?_; refine blk_far ?_ NB229_234.out _; refine pk ?_; refine blk_far ?_ NB229_234.out _; exact pk BK229.out) hb); replace BK234 := Aside0.mk (blk_below (g := gb234) (o := .cells #[.string t230, .string t231, .string t232] 23 (0, 0)) (by refine pk ?_; refine blk_put (cs := #[.string t230, .string t231, .string (⟨#[]⟩ : ByteArray)]) ?_ 2 _ rfl; refine pk ?_; refine blk_put (cs := #[.string t230, .string (⟨#[]⟩ : ByteArray), .string (⟨#[]⟩ : ByteArray)]) ?_ 1 _ rfl; refine pk ?_; refine blk_put (cs := #[.string (⟨#[]⟩ : ByteArray), .string (⟨#[]⟩ : ByteArray), .string (⟨#[]⟩ : ByteArray)]) ?_ 0 _ rfl; exact pk BK234.out) hb); replace HB := Aside0.mk (below_step (bl HB.out) hb); (try clear hb); (try clear hb2); (try clear hk); (try clear hi); obtain ⟨hcz70_0, hcz70_1, hcz70_2, hfz70_0, hfz70_1, hfz70_2⟩ := cz3 BK224.out))
      go_ret
      exact ⟨er0, bl HB.out⟩
    ·rw [if_neg c8] at H
     have c8b0 : (t233 == 41) = false := beq_eq_false_iff_ne.mpr c8
     have c8b1 : (t233 != 41) = true := bne_iff_ne.mpr c8
     obtain rfl := Option.some.inj H
     go_enter Tryd.func7, Tryd.ntmps7
     go_wp2_with (first | ((with_reducible refine gate_callee (f := 8) rfl ?_); refine goesL_ (some 10) rfl rfl Tryd.func8 kr rfl #[.string (⟨#[80, 79, 83, 84, 32, 47, 113, 32, 72, 84, 84, 80, 47, 49, 46, 49, 13, 10, 99, 111, 110, 116, 101, 110, 116, 45, 76, 69, 78, 71, 84, 72, 58, 32, 50, 13, 10, 88, 45, 121, 58, 122, 13, 10, 13, 10, 123, 125]⟩ : ByteArray)] rfl ga ?_; (with_reducible refine (http_Parse.calls k (⟨#[80, 79, 83, 84, 32, 47, 113, 32, 72, 84, 84, 80, 47, 49, 46, 49, 13, 10, 99, 111, 110, 116, 101, 110, 116, 45, 76, 69, 78, 71, 84, 72, 58, 32, 50, 13, 10, 88, 45, 121, 58, 122, 13, 10, 13, 10, 123, 125]⟩ : ByteArray) t220 t221 t222 t223 _ ?side1 A1.out).mono ?_); (case side1 => exact LaidU.below HU.out (bl HB.out)); rintro e w71 ⟨rfl, hb⟩; refine ⟨_, rfl, ?_⟩; replace HB := Aside0.mk (below_step (bl HB.out) hb); (try clear hb); (try clear hb2); (try clear hk); (try clear hi)) | ((with_reducible refine gate_dst (N := 1) rfl ?_); refine box_event ?hg (N := 1) ?hd (cs := #[.string (⟨#[]⟩ : ByteArray), .string (⟨#[]⟩ : ByteArray), .string (⟨#[]⟩ : ByteArray)]) (t := 23) ?hr ?_; (case hd => rfl); (case hg => rfl); (case hr => first | (go_simp; done) | (go_simp; rfl)); intro gb224 hg w72 hbox hb; have BK224 := Aside0.mk (hbox); have GW224 := Aside0.mk (gs (w := w) hg (bl HB.out)); have GE224 := Aside0.mk (gs (w := w) hg (bl HB.out)); replace HB := Aside0.mk (below_step (bl HB.out) hb); clear hb hbox hg; obtain ⟨hcz73_0, hcz73_1, hcz73_2, hfz73_0, hfz73_1, hfz73_2⟩ := cz3 BK224.out) | ((with_reducible refine gate_callee (f := 8) rfl ?_); refine goesL_ (some 14) rfl rfl Tryd.func8 kr rfl #[.string (⟨#[71, 69, 84, 32, 47, 32, 72, 84, 84, 80, 47, 49, 46, 48, 13, 10, 13, 10]⟩ : ByteArray)] rfl ga ?_; (with_reducible refine (http_Parse.calls k (⟨#[71, 69, 84, 32, 47, 32, 72, 84, 84, 80, 47, 49, 46, 48, 13, 10, 13, 10]⟩ : ByteArray) t225 t226 t227 t228 _ ?side1 A2.out).mono ?_); (case side1 => exact LaidU.below HU.out (bl HB.out)); rintro e w74 ⟨rfl, hb⟩; refine ⟨_, rfl, ?_⟩; replace BK224 := Aside0.mk (blk_below (g := gb224) (o := .cells #[.string t220, .string t221, .string t222] 23 (0, 0)) (by refine pk ?_; refine blk_put (cs := #[.string t220, .string t221, .string (⟨#[]⟩ : ByteArray)]) ?_ 2 _ rfl; refine pk ?_; refine blk_put (cs := #[.string t220, .string (⟨#[]⟩ : ByteArray), .string (⟨#[]⟩ : ByteArray)]) ?_ 1 _ rfl; refine pk ?_; refine blk_put (cs := #[.string (⟨#[]⟩ : ByteArray), .string (⟨#[]⟩ : ByteArray), .string (⟨#[]⟩ : ByteArray)]) ?_ 0 _ rfl; exact pk BK224.out) hb); replace HB := Aside0.mk (below_step (bl HB.out) hb); (try clear hb); (try clear hb2); (try clear hk); (try clear hi)) | ((with_reducible refine gate_dst (N := 3) rfl ?_); refine box_event ?hg (N := 3) ?hd (cs := #[.string (⟨#[]⟩ : ByteArray), .string (⟨#[]⟩ : ByteArray), .string (⟨#[]⟩ : ByteArray)]) (t := 23) ?hr ?_; (case hd => rfl); (case hg => rfl); (case hr => first | (go_simp; done) | (go_simp; rfl)); intro gb229 hg w75 hbox hb; have BK229 := Aside0.mk (hbox); have GW229 := Aside0.mk (gs (w := w) hg (bl HB.out)); have GE229 := Aside0.mk (gs (w := w) hg (bl HB.out)); replace HB := Aside0.mk (below_step (bl HB.out) hb); have NB224_229 := Aside0.mk ((gl (g := gb224) hg (pk BK224.out))); have NB229_224 := Aside0.mk ((gm (g := gb224) hg (pk BK224.out))); replace BK224 := Aside0.mk (blk_below (pk BK224.out) hb); clear hb hbox hg; have hnb76 := NB229_224.out; have hnc76 := NB224_229.out; obtain ⟨hcz77_0, hcz77_1, hcz77_2, hfz77_0, hfz77_1, hfz77_2⟩ := cz3 BK229.out) | ((with_reducible refine gate_callee (f := 8) rfl ?_); refine goesL_ (some 18) rfl rfl Tryd.func8 kr rfl #[.string (⟨#[71, 69, 84, 32, 47, 32, 72, 84, 84, 80, 47, 49, 46, 49, 13, 10, 67, 111, 110, 116, 101, 110, 116, 45, 76, 101, 110, 103, 116, 104, 58, 32, 50, 54, 50, 49, 52, 53, 13, 10, 13, 10]⟩ : ByteArray)] rfl ga ?_; (with_reducible refine (http_Parse.calls k (⟨#[71, 69, 84, 32, 47, 32, 72, 84, 84, 80, 47, 49, 46, 49, 13, 10, 67, 111, 110, 116, 101, 110, 116, 45, 76, 101, 110, 103, 116, 104, 58, 32, 50, 54, 50, 49, 52, 53, 13, 10, 13, 10]⟩ : ByteArray) t230 t231 t232 t233 _ ?side1 A3.out).mono ?_); (case side1 => exact LaidU.below HU.out (bl HB.out)); rintro e w78 ⟨rfl, hb⟩; refine ⟨_, rfl, ?_⟩; replace BK224 := Aside0.mk (blk_below (g := gb224) (o := .cells #[.string t220, .string t221, .string t222] 23 (0, 0)) (by refine pk ?_; refine blk_far ?_ NB224_229.out _; refine pk ?_; refine blk_far ?_ NB224_229.out _; refine pk ?_; refine blk_far ?_ NB224_229.out _; exact pk BK224.out) hb); replace BK229 := Aside0.mk (blk_below (g := gb229) (o := .cells #[.string t225, .string t226, .string t227] 23 (0, 0)) (by refine pk ?_; refine blk_put (cs := #[.string t225, .string t226, .string (⟨#[]⟩ : ByteArray)]) ?_ 2 _ rfl; refine pk ?_; refine blk_put (cs := #[.string t225, .string (⟨#[]⟩ : ByteArray), .string (⟨#[]⟩ : ByteArray)]) ?_ 1 _ rfl; refine pk ?_; refine blk_put (cs := #[.string (⟨#[]⟩ : ByteArray), .string (⟨#[]⟩ : ByteArray), .string (⟨#[]⟩ : ByteArray)]) ?_ 0 _ rfl; exact pk BK229.out) hb); replace HB := Aside0.mk (below_step (bl HB.out) hb); (try clear hb); (try clear hb2); (try clear hk); (try clear hi)) | ((with_reducible refine gate_dst (N := 5) rfl ?_); refine box_event ?hg (N := 5) ?hd (cs := #[.string (⟨#[]⟩ : ByteArray), .string (⟨#[]⟩ : ByteArray), .string (⟨#[]⟩ : ByteArray)]) (t := 23) ?hr ?_; (case hd => rfl); (case hg => rfl); (case hr => first | (go_simp; done) | (go_simp; rfl)); intro gb234 hg w79 hbox hb; have BK234 := Aside0.mk (hbox); have GW234 := Aside0.mk (gs (w := w) hg (bl HB.out)); have GE234 := Aside0.mk (gs (w := w) hg (bl HB.out)); replace HB := Aside0.mk (below_step (bl HB.out) hb); have NB224_234 := Aside0.mk ((gl (g := gb224) hg (pk BK224.out))); have NB234_224 := Aside0.mk ((gm (g := gb224) hg (pk BK224.out))); replace BK224 := Aside0.mk (blk_below (pk BK224.out) hb); have NB229_234 := Aside0.mk ((gl (g := gb229) hg (pk BK229.out))); have NB234_229 := Aside0.mk ((gm (g := gb229) hg (pk BK229.out))); replace BK229 := Aside0.mk (blk_below (pk BK229.out) hb); clear hb hbox hg; have hnb80 := NB234_224.out; have hnc80 := NB224_234.out; have hnb81 := NB234_229.out; have hnc81 := NB229_234.out; obtain ⟨hcz82_0, hcz82_1, hcz82_2, hfz82_0, hfz82_1, hfz82_2⟩ := cz3 BK234.out) | ((with_reducible refine gate_callee (f := 6) rfl ?_); refine goesL_ (some 23) rfl rfl Tryd.func6 kr rfl #[.agg #[.string (⟨#[71, 69, 84]⟩ : ByteArray), .string (⟨#[47, 97]⟩ : ByteArray), .string (⟨#[]⟩ : ByteArray)]] rfl ga ?_; (with_reducible refine (http_Write.calls k (⟨#[71, 69, 84]⟩ : ByteArray) (⟨#[47, 97]⟩ : ByteArray) (⟨#[]⟩ : ByteArray) t235 t236 _ ?side1 A4.out).mono ?_); (case side1 => exact LaidU.below HU.out (bl HB.out)); rintro e w83 ⟨rfl, hb⟩; refine ⟨_, rfl, ?_⟩; replace BK224 := Aside0.mk (blk_below (g := gb224) (o := .cells #[.string t220, .string t221, .string t222] 23 (0, 0)) (by refine pk ?_; refine blk_far ?_ NB224_234.out _; refine pk ?_; refine blk_far ?_ NB224_234.out _; refine pk ?_; refine blk_far ?_ NB224_234.out _; exact pk BK224.out) hb); replace BK229 := Aside0.mk (blk_below (g := gb229) (o := .cells #[.string t225, .string t226, .string t227] 23 (0, 0)) (by refine pk ?_; refine blk_far ?_ NB229_234.out _; refine pk ?_; refine blk_far ?_ NB229_234.out _; refine pk ?_; refine blk_far ?_ NB229_234.out _; exact pk BK229.out) hb); replace BK234 := Aside0.mk (blk_below (g := gb234) (o := .cells #[.string t230, .string t231, .string t232] 23 (0, 0)) (by refine pk ?_; refine blk_put (cs := #[.string t230, .string t231, .string (⟨#[]⟩ : ByteArray)]) ?_ 2 _ rfl; refine pk ?_; refine blk_put (cs := #[.string t230, .string (⟨#[]⟩ : ByteArray), .string (⟨#[]⟩ : ByteArray)]) ?_ 1 _ rfl; refine pk ?_; refine blk_put (cs := #[.string (⟨#[]⟩ : ByteArray), .string (⟨#[]⟩ : ByteArray), .string (⟨#[]⟩ : ByteArray)]) ?_ 0 _ rfl; exact pk BK234.out) hb); replace HB := Aside0.mk (below_step (bl HB.out) hb); (try clear hb); (try clear hb2); (try clear hk); (try clear hi); obtain ⟨hcz84_0, hcz84_1, hcz84_2, hfz84_0, hfz84_1, hfz84_2⟩ := cz3 BK224.out))
     go_ret
     exact ⟨er0, bl HB.out⟩
   ·rw [if_neg c7] at H
    have c7b0 : (t228 == 40) = false := beq_eq_false_iff_ne.mpr c7
    have c7b1 : (t228 != 40) = true := bne_iff_ne.mpr c7
    obtain rfl := Option.some.inj H
    go_enter Tryd.func7, Tryd.ntmps7
    go_wp2_with (first | ((with_reducible refine gate_callee (f := 8) rfl ?_); refine goesL_ (some 10) rfl rfl Tryd.func8 kr rfl #[.string (⟨#[80, 79, 83, 84, 32, 47, 113, 32, 72, 84, 84, 80, 47, 49, 46, 49, 13, 10, 99, 111, 110, 116, 101, 110, 116, 45, 76, 69, 78, 71, 84, 72, 58, 32, 50, 13, 10, 88, 45, 121, 58, 122, 13, 10, 13, 10, 123, 125]⟩ : ByteArray)] rfl ga ?_; (with_reducible refine (http_Parse.calls k (⟨#[80, 79, 83, 84, 32, 47, 113, 32, 72, 84, 84, 80, 47, 49, 46, 49, 13, 10, 99, 111, 110, 116, 101, 110, 116, 45, 76, 69, 78, 71, 84, 72, 58, 32, 50, 13, 10, 88, 45, 121, 58, 122, 13, 10, 13, 10, 123, 125]⟩ : ByteArray) t220 t221 t222 t223 _ ?side1 A1.out).mono ?_); (case side1 => exact LaidU.below HU.out (bl HB.out)); rintro e w85 ⟨rfl, hb⟩; refine ⟨_, rfl, ?_⟩; replace HB := Aside0.mk (below_step (bl HB.out) hb); (try clear hb); (try clear hb2); (try clear hk); (try clear hi)) | ((with_reducible refine gate_dst (N := 1) rfl ?_); refine box_event ?hg (N := 1) ?hd (cs := #[.string (⟨#[]⟩ : ByteArray), .string (⟨#[]⟩ : ByteArray), .string (⟨#[]⟩ : ByteArray)]) (t := 23) ?hr ?_; (case hd => rfl); (case hg => rfl); (case hr => first | (go_simp; done) | (go_simp; rfl)); intro gb224 hg w86 hbox hb; have BK224 := Aside0.mk (hbox); have GW224 := Aside0.mk (gs (w := w) hg (bl HB.out)); have GE224 := Aside0.mk (gs (w := w) hg (bl HB.out)); replace HB := Aside0.mk (below_step (bl HB.out) hb); clear hb hbox hg; obtain ⟨hcz87_0, hcz87_1, hcz87_2, hfz87_0, hfz87_1, hfz87_2⟩ := cz3 BK224.out) | ((with_reducible refine gate_callee (f := 8) rfl ?_); refine goesL_ (some 14) rfl rfl Tryd.func8 kr rfl #[.string (⟨#[71, 69, 84, 32, 47, 32, 72, 84, 84, 80, 47, 49, 46, 48, 13, 10, 13, 10]⟩ : ByteArray)] rfl ga ?_; (with_reducible refine (http_Parse.calls k (⟨#[71, 69, 84, 32, 47, 32, 72, 84, 84, 80, 47, 49, 46, 48, 13, 10, 13, 10]⟩ : ByteArray) t225 t226 t227 t228 _ ?side1 A2.out).mono ?_); (case side1 => exact LaidU.below HU.out (bl HB.out)); rintro e w88 ⟨rfl, hb⟩; refine ⟨_, rfl, ?_⟩; replace BK224 := Aside0.mk (blk_below (g := gb224) (o := .cells #[.string t220, .string t221, .string t222] 23 (0, 0)) (by refine pk ?_; refine blk_put (cs := #[.string t220, .string t221, .string (⟨#[]⟩ : ByteArray)]) ?_ 2 _ rfl; refine pk ?_; refine blk_put (cs := #[.string t220, .string (⟨#[]⟩ : ByteArray), .string (⟨#[]⟩ : ByteArray)]) ?_ 1 _ rfl; refine pk ?_; refine blk_put (cs := #[.string (⟨#[]⟩ : ByteArray), .string (⟨#[]⟩ : ByteArray), .string (⟨#[]⟩ : ByteArray)]) ?_ 0 _ rfl; exact pk BK224.out) hb); replace HB := Aside0.mk (below_step (bl HB.out) hb); (try clear hb); (try clear hb2); (try clear hk); (try clear hi)) | ((with_reducible refine gate_dst (N := 3) rfl ?_); refine box_event ?hg (N := 3) ?hd (cs := #[.string (⟨#[]⟩ : ByteArray), .string (⟨#[]⟩ : ByteArray), .string (⟨#[]⟩ : ByteArray)]) (t := 23) ?hr ?_; (case hd => rfl); (case hg => rfl); (case hr => first | (go_simp; done) | (go_simp; rfl)); intro gb229 hg w89 hbox hb; have BK229 := Aside0.mk (hbox); have GW229 := Aside0.mk (gs (w := w) hg (bl HB.out)); have GE229 := Aside0.mk (gs (w := w) hg (bl HB.out)); replace HB := Aside0.mk (below_step (bl HB.out) hb); have NB224_229 := Aside0.mk ((gl (g := gb224) hg (pk BK224.out))); have NB229_224 := Aside0.mk ((gm (g := gb224) hg (pk BK224.out))); replace BK224 := Aside0.mk (blk_below (pk BK224.out) hb); clear hb hbox hg; have hnb90 := NB229_224.out; have hnc90 := NB224_229.out; obtain ⟨hcz91_0, hcz91_1, hcz91_2, hfz91_0, hfz91_1, hfz91_2⟩ := cz3 BK229.out) | ((with_reducible refine gate_callee (f := 8) rfl ?_); refine goesL_ (some 18) rfl rfl Tryd.func8 kr rfl #[.string (⟨#[71, 69, 84, 32, 47, 32, 72, 84, 84, 80, 47, 49, 46, 49, 13, 10, 67, 111, 110, 116, 101, 110, 116, 45, 76, 101, 110, 103, 116, 104, 58, 32, 50, 54, 50, 49, 52, 53, 13, 10, 13, 10]⟩ : ByteArray)] rfl ga ?_; (with_reducible refine (http_Parse.calls k (⟨#[71, 69, 84, 32, 47, 32, 72, 84, 84, 80, 47, 49, 46, 49, 13, 10, 67, 111, 110, 116, 101, 110, 116, 45, 76, 101, 110, 103, 116, 104, 58, 32, 50, 54, 50, 49, 52, 53, 13, 10, 13, 10]⟩ : ByteArray) t230 t231 t232 t233 _ ?side1 A3.out).mono ?_); (case side1 => exact LaidU.below HU.out (bl HB.out)); rintro e w92 ⟨rfl, hb⟩; refine ⟨_, rfl, ?_⟩; replace BK224 := Aside0.mk (blk_below (g := gb224) (o := .cells #[.string t220, .string t221, .string t222] 23 (0, 0)) (by refine pk ?_; refine blk_far ?_ NB224_229.out _; refine pk ?_; refine blk_far ?_ NB224_229.out _; refine pk ?_; refine blk_far ?_ NB224_229.out _; exact pk BK224.out) hb); replace BK229 := Aside0.mk (blk_below (g := gb229) (o := .cells #[.string t225, .string t226, .string t227] 23 (0, 0)) (by refine pk ?_; refine blk_put (cs := #[.string t225, .string t226, .string (⟨#[]⟩ : ByteArray)]) ?_ 2 _ rfl; refine pk ?_; refine blk_put (cs := #[.string t225, .string (⟨#[]⟩ : ByteArray), .string (⟨#[]⟩ : ByteArray)]) ?_ 1 _ rfl; refine pk ?_; refine blk_put (cs := #[.string (⟨#[]⟩ : ByteArray), .string (⟨#[]⟩ : ByteArray), .string (⟨#[]⟩ : ByteArray)]) ?_ 0 _ rfl; exact pk BK229.out) hb); replace HB := Aside0.mk (below_step (bl HB.out) hb); (try clear hb); (try clear hb2); (try clear hk); (try clear hi)) | ((with_reducible refine gate_dst (N := 5) rfl ?_); refine box_event ?hg (N := 5) ?hd (cs := #[.string (⟨#[]⟩ : ByteArray), .string (⟨#[]⟩ : ByteArray), .string (⟨#[]⟩ : ByteArray)]) (t := 23) ?hr ?_; (case hd => rfl); (case hg => rfl); (case hr => first | (go_simp; done) | (go_simp; rfl)); intro gb234 hg w93 hbox hb; have BK234 := Aside0.mk (hbox); have GW234 := Aside0.mk (gs (w := w) hg (bl HB.out)); have GE234 := Aside0.mk (gs (w := w) hg (bl HB.out)); replace HB := Aside0.mk (below_step (bl HB.out) hb); have NB224_234 := Aside0.mk ((gl (g := gb224) hg (pk BK224.out))); have NB234_224 := Aside0.mk ((gm (g := gb224) hg (pk BK224.out))); replace BK224 := Aside0.mk (blk_below (pk BK224.out) hb); have NB229_234 := Aside0.mk ((gl (g := gb229) hg (pk BK229.out))); have NB234_229 := Aside0.mk ((gm (g := gb229) hg (pk BK229.out))); replace BK229 := Aside0.mk (blk_below (pk BK229.out) hb); clear hb hbox hg; have hnb94 := NB234_224.out; have hnc94 := NB224_234.out; have hnb95 := NB234_229.out; have hnc95 := NB229_234.out; obtain ⟨hcz96_0, hcz96_1, hcz96_2, hfz96_0, hfz96_1, hfz96_2⟩ := cz3 BK234.out) | ((with_reducible refine gate_callee (f := 6) rfl ?_); refine goesL_ (some 23) rfl rfl Tryd.func6 kr rfl #[.agg #[.string (⟨#[71, 69, 84]⟩ : ByteArray), .string (⟨#[47, 97]⟩ : ByteArray), .string (⟨#[]⟩ : ByteArray)]] rfl ga ?_; (with_reducible refine (http_Write.calls k (⟨#[71, 69, 84]⟩ : ByteArray) (⟨#[47, 97]⟩ : ByteArray) (⟨#[]⟩ : ByteArray) t235 t236 _ ?side1 A4.out).mono ?_); (case side1 => exact LaidU.below HU.out (bl HB.out)); rintro e w97 ⟨rfl, hb⟩; refine ⟨_, rfl, ?_⟩; replace BK224 := Aside0.mk (blk_below (g := gb224) (o := .cells #[.string t220, .string t221, .string t222] 23 (0, 0)) (by refine pk ?_; refine blk_far ?_ NB224_234.out _; refine pk ?_; refine blk_far ?_ NB224_234.out _; refine pk ?_; refine blk_far ?_ NB224_234.out _; exact pk BK224.out) hb); replace BK229 := Aside0.mk (blk_below (g := gb229) (o := .cells #[.string t225, .string t226, .string t227] 23 (0, 0)) (by refine pk ?_; refine blk_far ?_ NB229_234.out _; refine pk ?_; refine blk_far ?_ NB229_234.out _; refine pk ?_; refine blk_far ?_ NB229_234.out _; exact pk BK229.out) hb); replace BK234 := Aside0.mk (blk_below (g := gb234) (o := .cells #[.string t230, .string t231, .string t232] 23 (0, 0)) (by refine pk ?_; refine blk_put (cs := #[.string t230, .string t231, .string (⟨#[]⟩ : ByteArray)]) ?_ 2 _ rfl; refine pk ?_; refine blk_put (cs := #[.string t230, .string (⟨#[]⟩ : ByteArray), .string (⟨#[]⟩ : ByteArray)]) ?_ 1 _ rfl; refine pk ?_; refine blk_put (cs := #[.string (⟨#[]⟩ : ByteArray), .string (⟨#[]⟩ : ByteArray), .string (⟨#[]⟩ : ByteArray)]) ?_ 0 _ rfl; exact pk BK234.out) hb); replace HB := Aside0.mk (below_step (bl HB.out) hb); (try clear hb); (try clear hb2); (try clear hk); (try clear hi); obtain ⟨hcz98_0, hcz98_1, hcz98_2, hfz98_0, hfz98_1, hfz98_2⟩ := cz3 BK224.out))
    go_ret
    exact ⟨er0, bl HB.out⟩
  ·rw [if_neg c6] at H
   have c6b0 : (t223 == 0) = false := beq_eq_false_iff_ne.mpr c6
   have c6b1 : (t223 != 0) = true := bne_iff_ne.mpr c6
   obtain rfl := Option.some.inj H
   go_enter Tryd.func7, Tryd.ntmps7
   go_wp2_with (first | ((with_reducible refine gate_callee (f := 8) rfl ?_); refine goesL_ (some 10) rfl rfl Tryd.func8 kr rfl #[.string (⟨#[80, 79, 83, 84, 32, 47, 113, 32, 72, 84, 84, 80, 47, 49, 46, 49, 13, 10, 99, 111, 110, 116, 101, 110, 116, 45, 76, 69, 78, 71, 84, 72, 58, 32, 50, 13, 10, 88, 45, 121, 58, 122, 13, 10, 13, 10, 123, 125]⟩ : ByteArray)] rfl ga ?_; (with_reducible refine (http_Parse.calls k (⟨#[80, 79, 83, 84, 32, 47, 113, 32, 72, 84, 84, 80, 47, 49, 46, 49, 13, 10, 99, 111, 110, 116, 101, 110, 116, 45, 76, 69, 78, 71, 84, 72, 58, 32, 50, 13, 10, 88, 45, 121, 58, 122, 13, 10, 13, 10, 123, 125]⟩ : ByteArray) t220 t221 t222 t223 _ ?side1 A1.out).mono ?_); (case side1 => exact LaidU.below HU.out (bl HB.out)); rintro e w99 ⟨rfl, hb⟩; refine ⟨_, rfl, ?_⟩; replace HB := Aside0.mk (below_step (bl HB.out) hb); (try clear hb); (try clear hb2); (try clear hk); (try clear hi)) | ((with_reducible refine gate_dst (N := 1) rfl ?_); refine box_event ?hg (N := 1) ?hd (cs := #[.string (⟨#[]⟩ : ByteArray), .string (⟨#[]⟩ : ByteArray), .string (⟨#[]⟩ : ByteArray)]) (t := 23) ?hr ?_; (case hd => rfl); (case hg => rfl); (case hr => first | (go_simp; done) | (go_simp; rfl)); intro gb224 hg w100 hbox hb; have BK224 := Aside0.mk (hbox); have GW224 := Aside0.mk (gs (w := w) hg (bl HB.out)); have GE224 := Aside0.mk (gs (w := w) hg (bl HB.out)); replace HB := Aside0.mk (below_step (bl HB.out) hb); clear hb hbox hg; obtain ⟨hcz101_0, hcz101_1, hcz101_2, hfz101_0, hfz101_1, hfz101_2⟩ := cz3 BK224.out) | ((with_reducible refine gate_callee (f := 8) rfl ?_); refine goesL_ (some 14) rfl rfl Tryd.func8 kr rfl #[.string (⟨#[71, 69, 84, 32, 47, 32, 72, 84, 84, 80, 47, 49, 46, 48, 13, 10, 13, 10]⟩ : ByteArray)] rfl ga ?_; (with_reducible refine (http_Parse.calls k (⟨#[71, 69, 84, 32, 47, 32, 72, 84, 84, 80, 47, 49, 46, 48, 13, 10, 13, 10]⟩ : ByteArray) t225 t226 t227 t228 _ ?side1 A2.out).mono ?_); (case side1 => exact LaidU.below HU.out (bl HB.out)); rintro e w102 ⟨rfl, hb⟩; refine ⟨_, rfl, ?_⟩; replace BK224 := Aside0.mk (blk_below (g := gb224) (o := .cells #[.string t220, .string t221, .string t222] 23 (0, 0)) (by refine pk ?_; refine blk_put (cs := #[.string t220, .string t221, .string (⟨#[]⟩ : ByteArray)]) ?_ 2 _ rfl; refine pk ?_; refine blk_put (cs := #[.string t220, .string (⟨#[]⟩ : ByteArray), .string (⟨#[]⟩ : ByteArray)]) ?_ 1 _ rfl; refine pk ?_; refine blk_put (cs := #[.string (⟨#[]⟩ : ByteArray), .string (⟨#[]⟩ : ByteArray), .string (⟨#[]⟩ : ByteArray)]) ?_ 0 _ rfl; exact pk BK224.out) hb); replace HB := Aside0.mk (below_step (bl HB.out) hb); (try clear hb); (try clear hb2); (try clear hk); (try clear hi)) | ((with_reducible refine gate_dst (N := 3) rfl ?_); refine box_event ?hg (N := 3) ?hd (cs := #[.string (⟨#[]⟩ : ByteArray), .string (⟨#[]⟩ : ByteArray), .string (⟨#[]⟩ : ByteArray)]) (t := 23) ?hr ?_; (case hd => rfl); (case hg => rfl); (case hr => first | (go_simp; done) | (go_simp; rfl)); intro gb229 hg w103 hbox hb; have BK229 := Aside0.mk (hbox); have GW229 := Aside0.mk (gs (w := w) hg (bl HB.out)); have GE229 := Aside0.mk (gs (w := w) hg (bl HB.out)); replace HB := Aside0.mk (below_step (bl HB.out) hb); have NB224_229 := Aside0.mk ((gl (g := gb224) hg (pk BK224.out))); have NB229_224 := Aside0.mk ((gm (g := gb224) hg (pk BK224.out))); replace BK224 := Aside0.mk (blk_below (pk BK224.out) hb); clear hb hbox hg; have hnb104 := NB229_224.out; have hnc104 := NB224_229.out; obtain ⟨hcz105_0, hcz105_1, hcz105_2, hfz105_0, hfz105_1, hfz105_2⟩ := cz3 BK229.out) | ((with_reducible refine gate_callee (f := 8) rfl ?_); refine goesL_ (some 18) rfl rfl Tryd.func8 kr rfl #[.string (⟨#[71, 69, 84, 32, 47, 32, 72, 84, 84, 80, 47, 49, 46, 49, 13, 10, 67, 111, 110, 116, 101, 110, 116, 45, 76, 101, 110, 103, 116, 104, 58, 32, 50, 54, 50, 49, 52, 53, 13, 10, 13, 10]⟩ : ByteArray)] rfl ga ?_; (with_reducible refine (http_Parse.calls k (⟨#[71, 69, 84, 32, 47, 32, 72, 84, 84, 80, 47, 49, 46, 49, 13, 10, 67, 111, 110, 116, 101, 110, 116, 45, 76, 101, 110, 103, 116, 104, 58, 32, 50, 54, 50, 49, 52, 53, 13, 10, 13, 10]⟩ : ByteArray) t230 t231 t232 t233 _ ?side1 A3.out).mono ?_); (case side1 => exact LaidU.below HU.out (bl HB.out)); rintro e w106 ⟨rfl, hb⟩; refine ⟨_, rfl, ?_⟩; replace BK224 := Aside0.mk (blk_below (g := gb224) (o := .cells #[.string t220, .string t221, .string t222] 23 (0, 0)) (by refine pk ?_; refine blk_far ?_ NB224_229.out _; refine pk ?_; refine blk_far ?_ NB224_229.out _; refine pk ?_; refine blk_far ?_ NB224_229.out _; exact pk BK224.out) hb); replace BK229 := Aside0.mk (blk_below (g := gb229) (o := .cells #[.string t225, .string t226, .string t227] 23 (0, 0)) (by refine pk ?_; refine blk_put (cs := #[.string t225, .string t226, .string (⟨#[]⟩ : ByteArray)]) ?_ 2 _ rfl; refine pk ?_; refine blk_put (cs := #[.string t225, .string (⟨#[]⟩ : ByteArray), .string (⟨#[]⟩ : ByteArray)]) ?_ 1 _ rfl; refine pk ?_; refine blk_put (cs := #[.string (⟨#[]⟩ : ByteArray), .string (⟨#[]⟩ : ByteArray), .string (⟨#[]⟩ : ByteArray)]) ?_ 0 _ rfl; exact pk BK229.out) hb); replace HB := Aside0.mk (below_step (bl HB.out) hb); (try clear hb); (try clear hb2); (try clear hk); (try clear hi)) | ((with_reducible refine gate_dst (N := 5) rfl ?_); refine box_event ?hg (N := 5) ?hd (cs := #[.string (⟨#[]⟩ : ByteArray), .string (⟨#[]⟩ : ByteArray), .string (⟨#[]⟩ : ByteArray)]) (t := 23) ?hr ?_; (case hd => rfl); (case hg => rfl); (case hr => first | (go_simp; done) | (go_simp; rfl)); intro gb234 hg w107 hbox hb; have BK234 := Aside0.mk (hbox); have GW234 := Aside0.mk (gs (w := w) hg (bl HB.out)); have GE234 := Aside0.mk (gs (w := w) hg (bl HB.out)); replace HB := Aside0.mk (below_step (bl HB.out) hb); have NB224_234 := Aside0.mk ((gl (g := gb224) hg (pk BK224.out))); have NB234_224 := Aside0.mk ((gm (g := gb224) hg (pk BK224.out))); replace BK224 := Aside0.mk (blk_below (pk BK224.out) hb); have NB229_234 := Aside0.mk ((gl (g := gb229) hg (pk BK229.out))); have NB234_229 := Aside0.mk ((gm (g := gb229) hg (pk BK229.out))); replace BK229 := Aside0.mk (blk_below (pk BK229.out) hb); clear hb hbox hg; have hnb108 := NB234_224.out; have hnc108 := NB224_234.out; have hnb109 := NB234_229.out; have hnc109 := NB229_234.out; obtain ⟨hcz110_0, hcz110_1, hcz110_2, hfz110_0, hfz110_1, hfz110_2⟩ := cz3 BK234.out) | ((with_reducible refine gate_callee (f := 6) rfl ?_); refine goesL_ (some 23) rfl rfl Tryd.func6 kr rfl #[.agg #[.string (⟨#[71, 69, 84]⟩ : ByteArray), .string (⟨#[47, 97]⟩ : ByteArray), .string (⟨#[]⟩ : ByteArray)]] rfl ga ?_; (with_reducible refine (http_Write.calls k (⟨#[71, 69, 84]⟩ : ByteArray) (⟨#[47, 97]⟩ : ByteArray) (⟨#[]⟩ : ByteArray) t235 t236 _ ?side1 A4.out).mono ?_); (case side1 => exact LaidU.below HU.out (bl HB.out)); rintro e w111 ⟨rfl, hb⟩; refine ⟨_, rfl, ?_⟩; replace BK224 := Aside0.mk (blk_below (g := gb224) (o := .cells #[.string t220, .string t221, .string t222] 23 (0, 0)) (by refine pk ?_; refine blk_far ?_ NB224_234.out _; refine pk ?_; refine blk_far ?_ NB224_234.out _; refine pk ?_; refine blk_far ?_ NB224_234.out _; exact pk BK224.out) hb); replace BK229 := Aside0.mk (blk_below (g := gb229) (o := .cells #[.string t225, .string t226, .string t227] 23 (0, 0)) (by refine pk ?_; refine blk_far ?_ NB229_234.out _; refine pk ?_; refine blk_far ?_ NB229_234.out _; refine pk ?_; refine blk_far ?_ NB229_234.out _; exact pk BK229.out) hb); replace BK234 := Aside0.mk (blk_below (g := gb234) (o := .cells #[.string t230, .string t231, .string t232] 23 (0, 0)) (by refine pk ?_; refine blk_put (cs := #[.string t230, .string t231, .string (⟨#[]⟩ : ByteArray)]) ?_ 2 _ rfl; refine pk ?_; refine blk_put (cs := #[.string t230, .string (⟨#[]⟩ : ByteArray), .string (⟨#[]⟩ : ByteArray)]) ?_ 1 _ rfl; refine pk ?_; refine blk_put (cs := #[.string (⟨#[]⟩ : ByteArray), .string (⟨#[]⟩ : ByteArray), .string (⟨#[]⟩ : ByteArray)]) ?_ 0 _ rfl; exact pk BK234.out) hb); replace HB := Aside0.mk (below_step (bl HB.out) hb); (try clear hb); (try clear hb2); (try clear hk); (try clear hi); obtain ⟨hcz112_0, hcz112_1, hcz112_2, hfz112_0, hfz112_1, hfz112_2⟩ := cz3 BK224.out))
   go_ret
   exact ⟨er0, bl HB.out⟩
 ·rw [if_neg c5] at H
  have c5b0 : (t220.toList == ([80, 79, 83, 84] : List UInt8) && (t221.toList == ([47, 113] : List UInt8) && (t222.toList == ([123, 125] : List UInt8)))) = false := by simpa using c5
  (try (have c5b1 : decide (t220.toList = ([80, 79, 83, 84] : List UInt8) && (t221.toList == ([47, 113] : List UInt8) && (t222.toList == ([123, 125] : List UInt8)))) = false := by simpa using c5))
  (try (have c5b2 : (t220.toList == ([80, 79, 83, 84] : List UInt8) && (t221.toList == ([47, 113] : List UInt8) && (t222.toList == ([123, 125] : List UInt8)))) = false := by simpa using c5))
  (try (have c5b3 : ¬ (t220.toList = ([80, 79, 83, 84] : List UInt8) && (t221.toList == ([47, 113] : List UInt8) && (t222.toList == ([123, 125] : List UInt8)))) := by simpa using c5))
  clear c5
  obtain rfl := Option.some.inj H
  go_enter Tryd.func7, Tryd.ntmps7
  go_wp2_with (first | ((with_reducible refine gate_callee (f := 8) rfl ?_); refine goesL_ (some 10) rfl rfl Tryd.func8 kr rfl #[.string (⟨#[80, 79, 83, 84, 32, 47, 113, 32, 72, 84, 84, 80, 47, 49, 46, 49, 13, 10, 99, 111, 110, 116, 101, 110, 116, 45, 76, 69, 78, 71, 84, 72, 58, 32, 50, 13, 10, 88, 45, 121, 58, 122, 13, 10, 13, 10, 123, 125]⟩ : ByteArray)] rfl ga ?_; (with_reducible refine (http_Parse.calls k (⟨#[80, 79, 83, 84, 32, 47, 113, 32, 72, 84, 84, 80, 47, 49, 46, 49, 13, 10, 99, 111, 110, 116, 101, 110, 116, 45, 76, 69, 78, 71, 84, 72, 58, 32, 50, 13, 10, 88, 45, 121, 58, 122, 13, 10, 13, 10, 123, 125]⟩ : ByteArray) t220 t221 t222 t223 _ ?side1 A1.out).mono ?_); (case side1 => exact LaidU.below HU.out (bl HB.out)); rintro e w113 ⟨rfl, hb⟩; refine ⟨_, rfl, ?_⟩; replace HB := Aside0.mk (below_step (bl HB.out) hb); (try clear hb); (try clear hb2); (try clear hk); (try clear hi)) | ((with_reducible refine gate_dst (N := 1) rfl ?_); refine box_event ?hg (N := 1) ?hd (cs := #[.string (⟨#[]⟩ : ByteArray), .string (⟨#[]⟩ : ByteArray), .string (⟨#[]⟩ : ByteArray)]) (t := 23) ?hr ?_; (case hd => rfl); (case hg => rfl); (case hr => first | (go_simp; done) | (go_simp; rfl)); intro gb224 hg w114 hbox hb; have BK224 := Aside0.mk (hbox); have GW224 := Aside0.mk (gs (w := w) hg (bl HB.out)); have GE224 := Aside0.mk (gs (w := w) hg (bl HB.out)); replace HB := Aside0.mk (below_step (bl HB.out) hb); clear hb hbox hg; obtain ⟨hcz115_0, hcz115_1, hcz115_2, hfz115_0, hfz115_1, hfz115_2⟩ := cz3 BK224.out) | ((with_reducible refine gate_callee (f := 8) rfl ?_); refine goesL_ (some 14) rfl rfl Tryd.func8 kr rfl #[.string (⟨#[71, 69, 84, 32, 47, 32, 72, 84, 84, 80, 47, 49, 46, 48, 13, 10, 13, 10]⟩ : ByteArray)] rfl ga ?_; (with_reducible refine (http_Parse.calls k (⟨#[71, 69, 84, 32, 47, 32, 72, 84, 84, 80, 47, 49, 46, 48, 13, 10, 13, 10]⟩ : ByteArray) t225 t226 t227 t228 _ ?side1 A2.out).mono ?_); (case side1 => exact LaidU.below HU.out (bl HB.out)); rintro e w116 ⟨rfl, hb⟩; refine ⟨_, rfl, ?_⟩; replace BK224 := Aside0.mk (blk_below (g := gb224) (o := .cells #[.string t220, .string t221, .string t222] 23 (0, 0)) (by refine pk ?_; refine blk_put (cs := #[.string t220, .string t221, .string (⟨#[]⟩ : ByteArray)]) ?_ 2 _ rfl; refine pk ?_; refine blk_put (cs := #[.string t220, .string (⟨#[]⟩ : ByteArray), .string (⟨#[]⟩ : ByteArray)]) ?_ 1 _ rfl; refine pk ?_; refine blk_put (cs := #[.string (⟨#[]⟩ : ByteArray), .string (⟨#[]⟩ : ByteArray), .string (⟨#[]⟩ : ByteArray)]) ?_ 0 _ rfl; exact pk BK224.out) hb); replace HB := Aside0.mk (below_step (bl HB.out) hb); (try clear hb); (try clear hb2); (try clear hk); (try clear hi)) | ((with_reducible refine gate_dst (N := 3) rfl ?_); refine box_event ?hg (N := 3) ?hd (cs := #[.string (⟨#[]⟩ : ByteArray), .string (⟨#[]⟩ : ByteArray), .string (⟨#[]⟩ : ByteArray)]) (t := 23) ?hr ?_; (case hd => rfl); (case hg => rfl); (case hr => first | (go_simp; done) | (go_simp; rfl)); intro gb229 hg w117 hbox hb; have BK229 := Aside0.mk (hbox); have GW229 := Aside0.mk (gs (w := w) hg (bl HB.out)); have GE229 := Aside0.mk (gs (w := w) hg (bl HB.out)); replace HB := Aside0.mk (below_step (bl HB.out) hb); have NB224_229 := Aside0.mk ((gl (g := gb224) hg (pk BK224.out))); have NB229_224 := Aside0.mk ((gm (g := gb224) hg (pk BK224.out))); replace BK224 := Aside0.mk (blk_below (pk BK224.out) hb); clear hb hbox hg; have hnb118 := NB229_224.out; have hnc118 := NB224_229.out; obtain ⟨hcz119_0, hcz119_1, hcz119_2, hfz119_0, hfz119_1, hfz119_2⟩ := cz3 BK229.out) | ((with_reducible refine gate_callee (f := 8) rfl ?_); refine goesL_ (some 18) rfl rfl Tryd.func8 kr rfl #[.string (⟨#[71, 69, 84, 32, 47, 32, 72, 84, 84, 80, 47, 49, 46, 49, 13, 10, 67, 111, 110, 116, 101, 110, 116, 45, 76, 101, 110, 103, 116, 104, 58, 32, 50, 54, 50, 49, 52, 53, 13, 10, 13, 10]⟩ : ByteArray)] rfl ga ?_; (with_reducible refine (http_Parse.calls k (⟨#[71, 69, 84, 32, 47, 32, 72, 84, 84, 80, 47, 49, 46, 49, 13, 10, 67, 111, 110, 116, 101, 110, 116, 45, 76, 101, 110, 103, 116, 104, 58, 32, 50, 54, 50, 49, 52, 53, 13, 10, 13, 10]⟩ : ByteArray) t230 t231 t232 t233 _ ?side1 A3.out).mono ?_); (case side1 => exact LaidU.below HU.out (bl HB.out)); rintro e w120 ⟨rfl, hb⟩; refine ⟨_, rfl, ?_⟩; replace BK224 := Aside0.mk (blk_below (g := gb224) (o := .cells #[.string t220, .string t221, .string t222] 23 (0, 0)) (by refine pk ?_; refine blk_far ?_ NB224_229.out _; refine pk ?_; refine blk_far ?_ NB224_229.out _; refine pk ?_; refine blk_far ?_ NB224_229.out _; exact pk BK224.out) hb); replace BK229 := Aside0.mk (blk_below (g := gb229) (o := .cells #[.string t225, .string t226, .string t227] 23 (0, 0)) (by refine pk ?_; refine blk_put (cs := #[.string t225, .string t226, .string (⟨#[]⟩ : ByteArray)]) ?_ 2 _ rfl; refine pk ?_; refine blk_put (cs := #[.string t225, .string (⟨#[]⟩ : ByteArray), .string (⟨#[]⟩ : ByteArray)]) ?_ 1 _ rfl; refine pk ?_; refine blk_put (cs := #[.string (⟨#[]⟩ : ByteArray), .string (⟨#[]⟩ : ByteArray), .string (⟨#[]⟩ : ByteArray)]) ?_ 0 _ rfl; exact pk BK229.out) hb); replace HB := Aside0.mk (below_step (bl HB.out) hb); (try clear hb); (try clear hb2); (try clear hk); (try clear hi)) | ((with_reducible refine gate_dst (N := 5) rfl ?_); refine box_event ?hg (N := 5) ?hd (cs := #[.string (⟨#[]⟩ : ByteArray), .string (⟨#[]⟩ : ByteArray), .string (⟨#[]⟩ : ByteArray)]) (t := 23) ?hr ?_; (case hd => rfl); (case hg => rfl); (case hr => first | (go_simp; done) | (go_simp; rfl)); intro gb234 hg w121 hbox hb; have BK234 := Aside0.mk (hbox); have GW234 := Aside0.mk (gs (w := w) hg (bl HB.out)); have GE234 := Aside0.mk (gs (w := w) hg (bl HB.out)); replace HB := Aside0.mk (below_step (bl HB.out) hb); have NB224_234 := Aside0.mk ((gl (g := gb224) hg (pk BK224.out))); have NB234_224 := Aside0.mk ((gm (g := gb224) hg (pk BK224.out))); replace BK224 := Aside0.mk (blk_below (pk BK224.out) hb); have NB229_234 := Aside0.mk ((gl (g := gb229) hg (pk BK229.out))); have NB234_229 := Aside0.mk ((gm (g := gb229) hg (pk BK229.out))); replace BK229 := Aside0.mk (blk_below (pk BK229.out) hb); clear hb hbox hg; have hnb122 := NB234_224.out; have hnc122 := NB224_234.out; have hnb123 := NB234_229.out; have hnc123 := NB229_234.out; obtain ⟨hcz124_0, hcz124_1, hcz124_2, hfz124_0, hfz124_1, hfz124_2⟩ := cz3 BK234.out) | ((with_reducible refine gate_callee (f := 6) rfl ?_); refine goesL_ (some 23) rfl rfl Tryd.func6 kr rfl #[.agg #[.string (⟨#[71, 69, 84]⟩ : ByteArray), .string (⟨#[47, 97]⟩ : ByteArray), .string (⟨#[]⟩ : ByteArray)]] rfl ga ?_; (with_reducible refine (http_Write.calls k (⟨#[71, 69, 84]⟩ : ByteArray) (⟨#[47, 97]⟩ : ByteArray) (⟨#[]⟩ : ByteArray) t235 t236 _ ?side1 A4.out).mono ?_); (case side1 => exact LaidU.below HU.out (bl HB.out)); rintro e w125 ⟨rfl, hb⟩; refine ⟨_, rfl, ?_⟩; replace BK224 := Aside0.mk (blk_below (g := gb224) (o := .cells #[.string t220, .string t221, .string t222] 23 (0, 0)) (by refine pk ?_; refine blk_far ?_ NB224_234.out _; refine pk ?_; refine blk_far ?_ NB224_234.out _; refine pk ?_; refine blk_far ?_ NB224_234.out _; exact pk BK224.out) hb); replace BK229 := Aside0.mk (blk_below (g := gb229) (o := .cells #[.string t225, .string t226, .string t227] 23 (0, 0)) (by refine pk ?_; refine blk_far ?_ NB229_234.out _; refine pk ?_; refine blk_far ?_ NB229_234.out _; refine pk ?_; refine blk_far ?_ NB229_234.out _; exact pk BK229.out) hb); replace BK234 := Aside0.mk (blk_below (g := gb234) (o := .cells #[.string t230, .string t231, .string t232] 23 (0, 0)) (by refine pk ?_; refine blk_put (cs := #[.string t230, .string t231, .string (⟨#[]⟩ : ByteArray)]) ?_ 2 _ rfl; refine pk ?_; refine blk_put (cs := #[.string t230, .string (⟨#[]⟩ : ByteArray), .string (⟨#[]⟩ : ByteArray)]) ?_ 1 _ rfl; refine pk ?_; refine blk_put (cs := #[.string (⟨#[]⟩ : ByteArray), .string (⟨#[]⟩ : ByteArray), .string (⟨#[]⟩ : ByteArray)]) ?_ 0 _ rfl; exact pk BK234.out) hb); replace HB := Aside0.mk (below_step (bl HB.out) hb); (try clear hb); (try clear hb2); (try clear hk); (try clear hi); obtain ⟨hcz126_0, hcz126_1, hcz126_2, hfz126_0, hfz126_1, hfz126_2⟩ := cz3 BK224.out))
  go_ret
  exact ⟨er0, bl HB.out⟩

/-! ### lodestarlaw04_plain: function 9 -/
def lodestarlaw04_plain.l0 : Nat → ByteArray → Int → Option (Bool)
 | 0, _, _ => none
 | k + 1, x0, x3 => if x3 < (x0.size : Int) then (if 0 ≤ x3 then (if (bt x0 x3) ≥ 97 then (if (bt x0 x3) ≤ 122 then (lodestarlaw04_plain.l0 k x0 (wrap64 (x3 + 1))) else (if (bt x0 x3) ≥ 65 then (if ((bt x0 x3) ≤ 90) then (lodestarlaw04_plain.l0 k x0 (wrap64 (x3 + 1))) else (some false)) else (some false))) else (if (bt x0 x3) ≥ 65 then (if ((bt x0 x3) ≤ 90) then (lodestarlaw04_plain.l0 k x0 (wrap64 (x3 + 1))) else (some false)) else (some false))) else (none)) else (some (decide ((x0.size : Int) < 10)))
def lodestarlaw04_plain.f (k : Nat) (a0 : ByteArray) : Option (Bool) := if a0.toList = ([] : List UInt8) then (some false) else (lodestarlaw04_plain.l0 k a0 0)
theorem lodestarlaw04_plain.mono_l : ∀ k, (∀ y0 y1, LeO (lodestarlaw04_plain.l0 k y0 y1) (lodestarlaw04_plain.l0 (k + 1) y0 y1))
 | 0 => fun _ _ r h => by simp [lodestarlaw04_plain.l0] at h
 | k + 1 => by
  have ih0 := lodestarlaw04_plain.mono_l k
  ·intro y0 y1
   unfold lodestarlaw04_plain.l0
   repeat' first
   | (with_reducible exact ih0 _ _)
   | (with_reducible exact LeO.refl _)
   | (with_reducible exact LeO.none _)
   | (with_reducible refine LeO.ite ?_ ?_)
   | (with_reducible refine LeO.bind ?_ (fun _ => ?_))
   | exact ih0 _ _
   | exact LeO.none _
   | refine LeO.ite ?_ ?_
   | refine LeO.bind ?_ (fun _ => ?_)
theorem lodestarlaw04_plain.mono : ∀ a0 k, LeO (lodestarlaw04_plain.f k a0) (lodestarlaw04_plain.f (k + 1) a0) := by
 intro a0 k
 have ih0 := lodestarlaw04_plain.mono_l k
 unfold lodestarlaw04_plain.f
 repeat' first
   | (with_reducible exact ih0 _ _)
   | (with_reducible exact LeO.refl _)
   | (with_reducible exact LeO.none _)
   | (with_reducible refine LeO.ite ?_ ?_)
   | (with_reducible refine LeO.bind ?_ (fun _ => ?_))
   | exact ih0 _ _
   | exact LeO.none _
   | refine LeO.ite ?_ ?_
   | refine LeO.bind ?_ (fun _ => ?_)
set_option maxHeartbeats 8000000 in
set_option maxRecDepth 100000 in
theorem lodestarlaw04_plain.calls (k : Nat) (a0 : ByteArray) (r : Bool) (w : World) (h : lodestarlaw04_plain.f k a0 = some r) :
  Calls Tryd.prog 9 #[.string a0] w fun e w' => e = .returned (.bool r) ∧ Drawn0 w w' := by
 have H : (if a0.toList = ([] : List UInt8) then (some false) else (lodestarlaw04_plain.l0 k a0 0)) = some r := h
 clear h
 by_cases c2 : a0.toList = ([] : List UInt8)
 ·rw [if_pos c2] at H
  have c2b0 : (a0.toList == ([] : List UInt8)) = true := beq_iff_eq.mpr c2
  have c2b1 : (a0.toList != ([] : List UInt8)) = false := bne_eq_false_iff_eq.mpr c2
  clear c2
  obtain rfl := Option.some.inj H
  go_enter Tryd.func9, Tryd.ntmps9
  go_wp2
  go_ret
  exact ⟨by first | rfl | (simp; done) | (simp [*]; done), by repeat (first | exact Drawn0.refl _ | apply Drawn0.step)⟩
 ·rw [if_neg c2] at H
  have c2b0 : (a0.toList == ([] : List UInt8)) = false := beq_eq_false_iff_ne.mpr c2
  have c2b1 : (a0.toList != ([] : List UInt8)) = true := bne_iff_ne.mpr c2
  have H' := Aside0.mk H
  clear H
  go_enter Tryd.func9, Tryd.ntmps9
  go_wp2
  go_loopg [3] k (fun kq v3 w' => ∃ (x3_1 : Int), v3 = .int .i64 x3_1 ∧ Aside0 (lodestarlaw04_plain.l0 kq a0 x3_1 = some r) ∧ Aside0 (kq ≤ k) ∧ Drawn0 w w')
  case atStart => exact ⟨(0), hsr, H', ⟨Nat.le_refl _⟩, by repeat (first | exact Drawn0.refl _ | apply Drawn0.step)⟩
  case round =>
   clear H'
   try clear c2
   try clear c2b0
   try clear c2b1
   try clear p2
   obtain ⟨x3_1, rfl, HA, HK1, ⟨m1, rfl⟩⟩ := hrel
   cases gk with
   | zero => exact absurd HA.out (by simp [lodestarlaw04_plain.l0])
   | succ k1 =>
    have H := HA.out
    clear HA
    simp only [lodestarlaw04_plain.l0] at H
    by_cases c3 : x3_1 < (a0.size : Int)
    ·rw [if_pos c3] at H
     have c3b0 : decide (x3_1 < (a0.size : Int)) = true := decide_eq_true c3
     clear c3
     by_cases c4 : 0 ≤ x3_1
     ·rw [if_pos c4] at H
      have c4b0 : decide (0 ≤ x3_1) = true := decide_eq_true c4
      clear c4
      by_cases c6 : (bt a0 x3_1) ≥ 97
      ·rw [if_pos c6] at H
       have c6b0 : decide (97 ≤ (bt a0 x3_1)) = true := decide_eq_true c6
       clear c6
       by_cases c8 : (bt a0 x3_1) ≤ 122
       ·rw [if_pos c8] at H
        have c8b0 : decide ((bt a0 x3_1) ≤ 122) = true := decide_eq_true c8
        clear c8
        have H' := Aside0.mk H
        clear H
        have p5 : 0 ≤ (x3_1 : Int) := of_decide_eq_true ha
        have q5 : x3_1 < (a0.size : Int) := of_decide_eq_true ha
        have hx5 := bt_at a0 x3_1
        replace p5 := eq_true p5
        replace q5 := eq_true q5
        have p7 : 0 ≤ (x3_1 : Int) := of_decide_eq_true ha
        have q7 : x3_1 < (a0.size : Int) := of_decide_eq_true ha
        have hx7 := bt_at a0 x3_1
        replace p7 := eq_true p7
        replace q7 := eq_true q7
        go_wp2
        go_roundg k1
        case measure => have := HK1.out; omega
        case rel => exact ⟨(wrap64 (x3_1 + 1)), hsr, H', ⟨by have := HK1.out; omega⟩, by repeat (first | exact Drawn0.refl _ | apply Drawn0.step)⟩
       ·rw [if_neg c8] at H
        have c8b0 : decide ((bt a0 x3_1) ≤ 122) = false := decide_eq_false c8
        clear c8
        by_cases c10 : (bt a0 x3_1) ≥ 65
        ·rw [if_pos c10] at H
         have c10b0 : decide (65 ≤ (bt a0 x3_1)) = true := decide_eq_true c10
         clear c10
         by_cases c12 : ((bt a0 x3_1) ≤ 90)
         ·rw [if_pos c12] at H
          have c12b0 : decide ((bt a0 x3_1) ≤ 90) = true := decide_eq_true c12
          clear c12
          have H' := Aside0.mk H
          clear H
          have p5 : 0 ≤ (x3_1 : Int) := of_decide_eq_true ha
          have q5 : x3_1 < (a0.size : Int) := of_decide_eq_true ha
          have hx5 := bt_at a0 x3_1
          replace p5 := eq_true p5
          replace q5 := eq_true q5
          have p7 : 0 ≤ (x3_1 : Int) := of_decide_eq_true ha
          have q7 : x3_1 < (a0.size : Int) := of_decide_eq_true ha
          have hx7 := bt_at a0 x3_1
          replace p7 := eq_true p7
          replace q7 := eq_true q7
          have p9 : 0 ≤ (x3_1 : Int) := of_decide_eq_true ha
          have q9 : x3_1 < (a0.size : Int) := of_decide_eq_true ha
          have hx9 := bt_at a0 x3_1
          replace p9 := eq_true p9
          replace q9 := eq_true q9
          have p11 : 0 ≤ (x3_1 : Int) := of_decide_eq_true ha
          have q11 : x3_1 < (a0.size : Int) := of_decide_eq_true ha
          have hx11 := bt_at a0 x3_1
          replace p11 := eq_true p11
          replace q11 := eq_true q11
          go_wp2
          go_roundg k1
          case measure => have := HK1.out; omega
          case rel => exact ⟨(wrap64 (x3_1 + 1)), hsr, H', ⟨by have := HK1.out; omega⟩, by repeat (first | exact Drawn0.refl _ | apply Drawn0.step)⟩
         ·rw [if_neg c12] at H
          have c12b0 : decide ((bt a0 x3_1) ≤ 90) = false := decide_eq_false c12
          clear c12
          obtain rfl := Option.some.inj H
          have p5 : 0 ≤ (x3_1 : Int) := of_decide_eq_true ha
          have q5 : x3_1 < (a0.size : Int) := of_decide_eq_true ha
          have hx5 := bt_at a0 x3_1
          replace p5 := eq_true p5
          replace q5 := eq_true q5
          have p7 : 0 ≤ (x3_1 : Int) := of_decide_eq_true ha
          have q7 : x3_1 < (a0.size : Int) := of_decide_eq_true ha
          have hx7 := bt_at a0 x3_1
          replace p7 := eq_true p7
          replace q7 := eq_true q7
          have p9 : 0 ≤ (x3_1 : Int) := of_decide_eq_true ha
          have q9 : x3_1 < (a0.size : Int) := of_decide_eq_true ha
          have hx9 := bt_at a0 x3_1
          replace p9 := eq_true p9
          replace q9 := eq_true q9
          have p11 : 0 ≤ (x3_1 : Int) := of_decide_eq_true ha
          have q11 : x3_1 < (a0.size : Int) := of_decide_eq_true ha
          have hx11 := bt_at a0 x3_1
          replace p11 := eq_true p11
          replace q11 := eq_true q11
          go_wp2
          go_ret
          exact ⟨by first | rfl | (simp; done) | (simp [*]; done), by repeat (first | exact Drawn0.refl _ | apply Drawn0.step)⟩
        ·rw [if_neg c10] at H
         have c10b0 : decide (65 ≤ (bt a0 x3_1)) = false := decide_eq_false c10
         clear c10
         obtain rfl := Option.some.inj H
         have p5 : 0 ≤ (x3_1 : Int) := of_decide_eq_true ha
         have q5 : x3_1 < (a0.size : Int) := of_decide_eq_true ha
         have hx5 := bt_at a0 x3_1
         replace p5 := eq_true p5
         replace q5 := eq_true q5
         have p7 : 0 ≤ (x3_1 : Int) := of_decide_eq_true ha
         have q7 : x3_1 < (a0.size : Int) := of_decide_eq_true ha
         have hx7 := bt_at a0 x3_1
         replace p7 := eq_true p7
         replace q7 := eq_true q7
         have p9 : 0 ≤ (x3_1 : Int) := of_decide_eq_true ha
         have q9 : x3_1 < (a0.size : Int) := of_decide_eq_true ha
         have hx9 := bt_at a0 x3_1
         replace p9 := eq_true p9
         replace q9 := eq_true q9
         go_wp2
         go_ret
         exact ⟨by first | rfl | (simp; done) | (simp [*]; done), by repeat (first | exact Drawn0.refl _ | apply Drawn0.step)⟩
      ·rw [if_neg c6] at H
       have c6b0 : decide (97 ≤ (bt a0 x3_1)) = false := decide_eq_false c6
       clear c6
       by_cases c14 : (bt a0 x3_1) ≥ 65
       ·rw [if_pos c14] at H
        have c14b0 : decide (65 ≤ (bt a0 x3_1)) = true := decide_eq_true c14
        clear c14
        by_cases c16 : ((bt a0 x3_1) ≤ 90)
        ·rw [if_pos c16] at H
         have c16b0 : decide ((bt a0 x3_1) ≤ 90) = true := decide_eq_true c16
         clear c16
         have H' := Aside0.mk H
         clear H
         have p5 : 0 ≤ (x3_1 : Int) := of_decide_eq_true ha
         have q5 : x3_1 < (a0.size : Int) := of_decide_eq_true ha
         have hx5 := bt_at a0 x3_1
         replace p5 := eq_true p5
         replace q5 := eq_true q5
         have p13 : 0 ≤ (x3_1 : Int) := of_decide_eq_true ha
         have q13 : x3_1 < (a0.size : Int) := of_decide_eq_true ha
         have hx13 := bt_at a0 x3_1
         replace p13 := eq_true p13
         replace q13 := eq_true q13
         have p15 : 0 ≤ (x3_1 : Int) := of_decide_eq_true ha
         have q15 : x3_1 < (a0.size : Int) := of_decide_eq_true ha
         have hx15 := bt_at a0 x3_1
         replace p15 := eq_true p15
         replace q15 := eq_true q15
         go_wp2
         go_roundg k1
         case measure => have := HK1.out; omega
         case rel => exact ⟨(wrap64 (x3_1 + 1)), hsr, H', ⟨by have := HK1.out; omega⟩, by repeat (first | exact Drawn0.refl _ | apply Drawn0.step)⟩
        ·rw [if_neg c16] at H
         have c16b0 : decide ((bt a0 x3_1) ≤ 90) = false := decide_eq_false c16
         clear c16
         obtain rfl := Option.some.inj H
         have p5 : 0 ≤ (x3_1 : Int) := of_decide_eq_true ha
         have q5 : x3_1 < (a0.size : Int) := of_decide_eq_true ha
         have hx5 := bt_at a0 x3_1
         replace p5 := eq_true p5
         replace q5 := eq_true q5
         have p13 : 0 ≤ (x3_1 : Int) := of_decide_eq_true ha
         have q13 : x3_1 < (a0.size : Int) := of_decide_eq_true ha
         have hx13 := bt_at a0 x3_1
         replace p13 := eq_true p13
         replace q13 := eq_true q13
         have p15 : 0 ≤ (x3_1 : Int) := of_decide_eq_true ha
         have q15 : x3_1 < (a0.size : Int) := of_decide_eq_true ha
         have hx15 := bt_at a0 x3_1
         replace p15 := eq_true p15
         replace q15 := eq_true q15
         go_wp2
         go_ret
         exact ⟨by first | rfl | (simp; done) | (simp [*]; done), by repeat (first | exact Drawn0.refl _ | apply Drawn0.step)⟩
       ·rw [if_neg c14] at H
        have c14b0 : decide (65 ≤ (bt a0 x3_1)) = false := decide_eq_false c14
        clear c14
        obtain rfl := Option.some.inj H
        have p5 : 0 ≤ (x3_1 : Int) := of_decide_eq_true ha
        have q5 : x3_1 < (a0.size : Int) := of_decide_eq_true ha
        have hx5 := bt_at a0 x3_1
        replace p5 := eq_true p5
        replace q5 := eq_true q5
        have p13 : 0 ≤ (x3_1 : Int) := of_decide_eq_true ha
        have q13 : x3_1 < (a0.size : Int) := of_decide_eq_true ha
        have hx13 := bt_at a0 x3_1
        replace p13 := eq_true p13
        replace q13 := eq_true q13
        go_wp2
        go_ret
        exact ⟨by first | rfl | (simp; done) | (simp [*]; done), by repeat (first | exact Drawn0.refl _ | apply Drawn0.step)⟩
     ·rw [if_neg c4] at H
      exact absurd H (by simp)
    ·rw [if_neg c3] at H
     have c3b0 : decide (x3_1 < (a0.size : Int)) = false := decide_eq_false c3
     clear c3
     obtain rfl := Option.some.inj H
     go_wp2
     go_ret
     exact ⟨by first | rfl | (simp; done) | (simp [*]; done), by repeat (first | exact Drawn0.refl _ | apply Drawn0.step)⟩

end Go.Proofs.YteeiljjjgkinhaaDoor.PHttpE
