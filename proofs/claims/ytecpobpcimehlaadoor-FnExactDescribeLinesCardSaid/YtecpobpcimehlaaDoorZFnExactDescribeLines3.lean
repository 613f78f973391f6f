/- A part of the proof of FnExactDescribeLines: printed contracts and plain laws, joined by a program of this session. -/
import Derived.Test.YtecpobpcimehlaaDoorZFnExactDescribeLines2
import Derived.Shelf.Strings.Builder1
import Derived.Shelf.Strings.Builder2
import Derived.Shelf.Strings.OnBuilder
import Derived.Shelf.Strings.BuilderF
import Derived.Shelf.Strings.BuilderK
import Derived.Shelf.Strings.Builder2Cap
import Derived.Shelf.Strconv.Itoa0
import Derived.Shelf.Strconv.Itoa1
import Derived.Shelf.Strconv.Itoa2
import Derived.Shelf.Strconv.Itoa3
import Derived.Shelf.Sort.Plain
import Derived.Shelf.Strings.BuilderCap
import Derived.Shelf.Slices.SearchI
import Derived.Shelf.Slices.In.SortNone
import Derived.Test.YtecpobpcimehlaaDoorProg
import Derived.Lib.AppendIntMem
namespace Go.Proofs.YtecpobpcimehlaaDoor.P
open Go.RowKit Go.Proofs.YtecpobpcimehlaaDoorW.PrintWords Go.Proofs.YtecpobpcimehlaaDoorW.PrintLast Go.Proofs.YtecpobpcimehlaaDoorW.PrintMore
attribute [local go_sem] max2_int min2_int max_two min_two max_three min_three max_four min_four   -- for this text's walks alone
set_option linter.unusedVariables false
set_option linter.unusedSimpArgs false
/-! ### spec_DescribeLines: function 5 -/
def spec_DescribeLines.f (k : Nat) (l0 : List (S36)) : Option (ByteArray) := (spec_AreLines.f k l0).bind fun t101 => (if t101 = true then ((spec_MeetingRow.f k l0).bind fun t102 => ((spec_NumbersText.f k t102).bind fun t105 => (if 8 + t105.size ≤ 9223372036854775807 then (if ((⟨#[109, 101, 101, 116, 105, 110, 103, 32]⟩ : ByteArray) ++ t105).size + 9 ≤ 9223372036854775807 then ((spec_CountRegions.f k l0).bind fun t106 => ((spec_FormatInt.f k t106).bind fun t107 => (if (((⟨#[109, 101, 101, 116, 105, 110, 103, 32]⟩ : ByteArray) ++ t105) ++ (⟨#[32, 114, 101, 103, 105, 111, 110, 115, 32]⟩ : ByteArray)).size + t107.size ≤ 9223372036854775807 then (if ((((⟨#[109, 101, 101, 116, 105, 110, 103, 32]⟩ : ByteArray) ++ t105) ++ (⟨#[32, 114, 101, 103, 105, 111, 110, 115, 32]⟩ : ByteArray)) ++ t107).size + 9 ≤ 9223372036854775807 then ((spec_CountBounded.f k l0).bind fun t108 => ((spec_FormatInt.f k t108).bind fun t109 => (if (((((⟨#[109, 101, 101, 116, 105, 110, 103, 32]⟩ : ByteArray) ++ t105) ++ (⟨#[32, 114, 101, 103, 105, 111, 110, 115, 32]⟩ : ByteArray)) ++ t107) ++ (⟨#[32, 98, 111, 117, 110, 100, 101, 100, 32]⟩ : ByteArray)).size + t109.size ≤ 9223372036854775807 then (if ((((((⟨#[109, 101, 101, 116, 105, 110, 103, 32]⟩ : ByteArray) ++ t105) ++ (⟨#[32, 114, 101, 103, 105, 111, 110, 115, 32]⟩ : ByteArray)) ++ t107) ++ (⟨#[32, 98, 111, 117, 110, 100, 101, 100, 32]⟩ : ByteArray)) ++ t109).size + 10 ≤ 9223372036854775807 then ((spec_ParallelClasses.f k l0).bind fun t110 => ((spec_NumbersText.f k t110).bind fun t113 => (if (((((((⟨#[109, 101, 101, 116, 105, 110, 103, 32]⟩ : ByteArray) ++ t105) ++ (⟨#[32, 114, 101, 103, 105, 111, 110, 115, 32]⟩ : ByteArray)) ++ t107) ++ (⟨#[32, 98, 111, 117, 110, 100, 101, 100, 32]⟩ : ByteArray)) ++ t109) ++ (⟨#[32, 112, 97, 114, 97, 108, 108, 101, 108, 32]⟩ : ByteArray)).size + t113.size ≤ 9223372036854775807 then (if ((((((((⟨#[109, 101, 101, 116, 105, 110, 103, 32]⟩ : ByteArray) ++ t105) ++ (⟨#[32, 114, 101, 103, 105, 111, 110, 115, 32]⟩ : ByteArray)) ++ t107) ++ (⟨#[32, 98, 111, 117, 110, 100, 101, 100, 32]⟩ : ByteArray)) ++ t109) ++ (⟨#[32, 112, 97, 114, 97, 108, 108, 101, 108, 32]⟩ : ByteArray)) ++ t113).size + 6 ≤ 9223372036854775807 then ((spec_LinePoly.f k l0).bind fun t114 => ((spec_NumbersText.f k t114).bind fun t117 => (if (((((((((⟨#[109, 101, 101, 116, 105, 110, 103, 32]⟩ : ByteArray) ++ t105) ++ (⟨#[32, 114, 101, 103, 105, 111, 110, 115, 32]⟩ : ByteArray)) ++ t107) ++ (⟨#[32, 98, 111, 117, 110, 100, 101, 100, 32]⟩ : ByteArray)) ++ t109) ++ (⟨#[32, 112, 97, 114, 97, 108, 108, 101, 108, 32]⟩ : ByteArray)) ++ t113) ++ (⟨#[32, 112, 111, 108, 121, 32]⟩ : ByteArray)).size + t117.size ≤ 9223372036854775807 then (some ((((((((((⟨#[109, 101, 101, 116, 105, 110, 103, 32]⟩ : ByteArray) ++ t105) ++ (⟨#[32, 114, 101, 103, 105, 111, 110, 115, 32]⟩ : ByteArray)) ++ t107) ++ (⟨#[32, 98, 111, 117, 110, 100, 101, 100, 32]⟩ : ByteArray)) ++ t109) ++ (⟨#[32, 112, 97, 114, 97, 108, 108, 101, 108, 32]⟩ : ByteArray)) ++ t113) ++ (⟨#[32, 112, 111, 108, 121, 32]⟩ : ByteArray)) ++ t117)) else (none)))) else (none)) else (none)))) else (none)) else (none)))) else (none)) else (none)))) else (none)) else (none)))) else (some (⟨#[]⟩ : ByteArray)))
set_option maxHeartbeats 8000000 in
set_option maxRecDepth 100000 in
theorem spec_DescribeLines.calls (k : Nat) (A0 : Option Addr) (c0 : Nat) (l0 : List (S36)) (r : ByteArray) (w : World) (hr0 : Kd.C k36 w A0 l0.length l0) (hc0 : l0.length ≤ c0) (h : spec_DescribeLines.f k l0 = some r) :
  Calls Tryd.prog 5 #[.slice A0 l0.length c0] w fun e w' => e = .returned (.string r) ∧ Below w.heap.size w w' := by
 have HR0 := Aside0.mk hr0
 have HC0 := Aside0.mk hc0
 clear hr0 hc0
 have HB := Aside0.mk (Below.refl w.heap.size w)
 have H : ((spec_AreLines.f k l0).bind fun t101 => (if t101 = true then ((spec_MeetingRow.f k l0).bind fun t102 => ((spec_NumbersText.f k t102).bind fun t105 => (if 8 + t105.size ≤ 9223372036854775807 then (if ((⟨#[109, 101, 101, 116, 105, 110, 103, 32]⟩ : ByteArray) ++ t105).size + 9 ≤ 9223372036854775807 then ((spec_CountRegions.f k l0).bind fun t106 => ((spec_FormatInt.f k t106).bind fun t107 => (if (((⟨#[109, 101, 101, 116, 105, 110, 103, 32]⟩ : ByteArray) ++ t105) ++ (⟨#[32, 114, 101, 103, 105, 111, 110, 115, 32]⟩ : ByteArray)).size + t107.size ≤ 9223372036854775807 then (if ((((⟨#[109, 101, 101, 116, 105, 110, 103, 32]⟩ : ByteArray) ++ t105) ++ (⟨#[32, 114, 101, 103, 105, 111, 110, 115, 32]⟩ : ByteArray)) ++ t107).size + 9 ≤ 9223372036854775807 then ((spec_CountBounded.f k l0).bind fun t108 => ((spec_FormatInt.f k t108).bind fun t109 => (if (((((⟨#[109, 101, 101, 116, 105, 110, 103, 32]⟩ : ByteArray) ++ t105) ++ (⟨#[32, 114, 101, 103, 105, 111, 110, 115, 32]⟩ : ByteArray)) ++ t107) ++ (⟨#[32, 98, 111, 117, 110, 100, 101, 100, 32]⟩ : ByteArray)).size + t109.size ≤ 9223372036854775807 then (if ((((((⟨#[109, 101, 101, 116, 105, 110, 103, 32]⟩ : ByteArray) ++ t105) ++ (⟨#[32, 114, 101, 103, 105, 111, 110, 115, 32]⟩ : ByteArray)) ++ t107) ++ (⟨#[32, 98, 111, 117, 110, 100, 101, 100, 32]⟩ : ByteArray)) ++ t109).size + 10 ≤ 9223372036854775807 then ((spec_ParallelClasses.f k l0).bind fun t110 => ((spec_NumbersText.f k t110).bind fun t113 => (if (((((((⟨#[109, 101, 101, 116, 105, 110, 103, 32]⟩ : ByteArray) ++ t105) ++ (⟨#[32, 114, 101, 103, 105, 111, 110, 115, 32]⟩ : ByteArray)) ++ t107) ++ (⟨#[32, 98, 111, 117, 110, 100, 101, 100, 32]⟩ : ByteArray)) ++ t109) ++ (⟨#[32, 112, 97, 114, 97, 108, 108, 101, 108, 32]⟩ : ByteArray)).size + t113.size ≤ 9223372036854775807 then (if ((((((((⟨#[109, 101, 101, 116, 105, 110, 103, 32]⟩ : ByteArray) ++ t105) ++ (⟨#[32, 114, 101, 103, 105, 111, 110, 115, 32]⟩ : ByteArray)) ++ t107) ++ (⟨#[32, 98, 111, 117, 110, 100, 101, 100, 32]⟩ : ByteArray)) ++ t109) ++ (⟨#[32, 112, 97, 114, 97, 108, 108, 101, 108, 32]⟩ : ByteArray)) ++ t113).size + 6 ≤ 9223372036854775807 then ((spec_LinePoly.f k l0).bind fun t114 => ((spec_NumbersText.f k t114).bind fun t117 => (if (((((((((⟨#[109, 101, 101, 116, 105, 110, 103, 32]⟩ : ByteArray) ++ t105) ++ (⟨#[32, 114, 101, 103, 105, 111, 110, 115, 32]⟩ : ByteArray)) ++ t107) ++ (⟨#[32, 98, 111, 117, 110, 100, 101, 100, 32]⟩ : ByteArray)) ++ t109) ++ (⟨#[32, 112, 97, 114, 97, 108, 108, 101, 108, 32]⟩ : ByteArray)) ++ t113) ++ (⟨#[32, 112, 111, 108, 121, 32]⟩ : ByteArray)).size + t117.size ≤ 9223372036854775807 then (some ((((((((((⟨#[109, 101, 101, 116, 105, 110, 103, 32]⟩ : ByteArray) ++ t105) ++ (⟨#[32, 114, 101, 103, 105, 111, 110, 115, 32]⟩ : ByteArray)) ++ t107) ++ (⟨#[32, 98, 111, 117, 110, 100, 101, 100, 32]⟩ : ByteArray)) ++ t109) ++ (⟨#[32, 112, 97, 114, 97, 108, 108, 101, 108, 32]⟩ : ByteArray)) ++ t113) ++ (⟨#[32, 112, 111, 108, 121, 32]⟩ : ByteArray)) ++ t117)) else (none)))) else (none)) else (none)))) else (none)) else (none)))) else (none)) else (none)))) else (none)) else (none)))) else (some (⟨#[]⟩ : ByteArray)))) = some r := h
 clear h
 replace H := Option.bind_eq_some_iff.mp H
 obtain ⟨t101, A20, H⟩ := H
 replace H : (if t101 = true then ((spec_MeetingRow.f k l0).bind fun t102 => ((spec_NumbersText.f k t102).bind fun t105 => (if 8 + t105.size ≤ 9223372036854775807 then (if ((⟨#[109, 101, 101, 116, 105, 110, 103, 32]⟩ : ByteArray) ++ t105).size + 9 ≤ 9223372036854775807 then ((spec_CountRegions.f k l0).bind fun t106 => ((spec_FormatInt.f k t106).bind fun t107 => (if (((⟨#[109, 101, 101, 116, 105, 110, 103, 32]⟩ : ByteArray) ++ t105) ++ (⟨#[32, 114, 101, 103, 105, 111, 110, 115, 32]⟩ : ByteArray)).size + t107.size ≤ 9223372036854775807 then (if ((((⟨#[109, 101, 101, 116, 105, 110, 103, 32]⟩ : ByteArray) ++ t105) ++ (⟨#[32, 114, 101, 103, 105, 111, 110, 115, 32]⟩ : ByteArray)) ++ t107).size + 9 ≤ 9223372036854775807 then ((spec_CountBounded.f k l0).bind fun t108 => ((spec_FormatInt.f k t108).bind fun t109 => (if (((((⟨#[109, 101, 101, 116, 105, 110, 103, 32]⟩ : ByteArray) ++ t105) ++ (⟨#[32, 114, 101, 103, 105, 111, 110, 115, 32]⟩ : ByteArray)) ++ t107) ++ (⟨#[32, 98, 111, 117, 110, 100, 101, 100, 32]⟩ : ByteArray)).size + t109.size ≤ 9223372036854775807 then (if ((((((⟨#[109, 101, 101, 116, 105, 110, 103, 32]⟩ : ByteArray) ++ t105) ++ (⟨#[32, 114, 101, 103, 105, 111, 110, 115, 32]⟩ : ByteArray)) ++ t107) ++ (⟨#[32, 98, 111, 117, 110, 100, 101, 100, 32]⟩ : ByteArray)) ++ t109).size + 10 ≤ 9223372036854775807 then ((spec_ParallelClasses.f k l0).bind fun t110 => ((spec_NumbersText.f k t110).bind fun t113 => (if (((((((⟨#[109, 101, 101, 116, 105, 110, 103, 32]⟩ : ByteArray) ++ t105) ++ (⟨#[32, 114, 101, 103, 105, 111, 110, 115, 32]⟩ : ByteArray)) ++ t107) ++ (⟨#[32, 98, 111, 117, 110, 100, 101, 100, 32]⟩ : ByteArray)) ++ t109) ++ (⟨#[32, 112, 97, 114, 97, 108, 108, 101, 108, 32]⟩ : ByteArray)).size + t113.size ≤ 9223372036854775807 then (if ((((((((⟨#[109, 101, 101, 116, 105, 110, 103, 32]⟩ : ByteArray) ++ t105) ++ (⟨#[32, 114, 101, 103, 105, 111, 110, 115, 32]⟩ : ByteArray)) ++ t107) ++ (⟨#[32, 98, 111, 117, 110, 100, 101, 100, 32]⟩ : ByteArray)) ++ t109) ++ (⟨#[32, 112, 97, 114, 97, 108, 108, 101, 108, 32]⟩ : ByteArray)) ++ t113).size + 6 ≤ 9223372036854775807 then ((spec_LinePoly.f k l0).bind fun t114 => ((spec_NumbersText.f k t114).bind fun t117 => (if (((((((((⟨#[109, 101, 101, 116, 105, 110, 103, 32]⟩ : ByteArray) ++ t105) ++ (⟨#[32, 114, 101, 103, 105, 111, 110, 115, 32]⟩ : ByteArray)) ++ t107) ++ (⟨#[32, 98, 111, 117, 110, 100, 101, 100, 32]⟩ : ByteArray)) ++ t109) ++ (⟨#[32, 112, 97, 114, 97, 108, 108, 101, 108, 32]⟩ : ByteArray)) ++ t113) ++ (⟨#[32, 112, 111, 108, 121, 32]⟩ : ByteArray)).size + t117.size ≤ 9223372036854775807 then (some ((((((((((⟨#[109, 101, 101, 116, 105, 110, 103, 32]⟩ : ByteArray) ++ t105) ++ (⟨#[32, 114, 101, 103, 105, 111, 110, 115, 32]⟩ : ByteArray)) ++ t107) ++ (⟨#[32, 98, 111, 117, 110, 100, 101, 100, 32]⟩ : ByteArray)) ++ t109) ++ (⟨#[32, 112, 97, 114, 97, 108, 108, 101, 108, 32]⟩ : ByteArray)) ++ t113) ++ (⟨#[32, 112, 111, 108, 121, 32]⟩ : ByteArray)) ++ t117)) else (none)))) else (none)) else (none)))) else (none)) else (none)))) else (none)) else (none)))) else (none)) else (none)))) else (some (⟨#[]⟩ : ByteArray))) = some r := H
 have A2 := Aside0.mk A20
 clear A20
 by_cases c3 : t101 = true
 ·subst c3
  have H1 : ((spec_MeetingRow.f k l0).bind fun t102 => ((spec_NumbersText.f k t102).bind fun t105 => (if 8 + t105.size ≤ 9223372036854775807 then (if ((⟨#[109, 101, 101, 116, 105, 110, 103, 32]⟩ : ByteArray) ++ t105).size + 9 ≤ 9223372036854775807 then ((spec_CountRegions.f k l0).bind fun t106 => ((spec_FormatInt.f k t106).bind fun t107 => (if (((⟨#[109, 101, 101, 116, 105, 110, 103, 32]⟩ : ByteArray) ++ t105) ++ (⟨#[32, 114, 101, 103, 105, 111, 110, 115, 32]⟩ : ByteArray)).size + t107.size ≤ 9223372036854775807 then (if ((((⟨#[109, 101, 101, 116, 105, 110, 103, 32]⟩ : ByteArray) ++ t105) ++ (⟨#[32, 114, 101, 103, 105, 111, 110, 115, 32]⟩ : ByteArray)) ++ t107).size + 9 ≤ 9223372036854775807 then ((spec_CountBounded.f k l0).bind fun t108 => ((spec_FormatInt.f k t108).bind fun t109 => (if (((((⟨#[109, 101, 101, 116, 105, 110, 103, 32]⟩ : ByteArray) ++ t105) ++ (⟨#[32, 114, 101, 103, 105, 111, 110, 115, 32]⟩ : ByteArray)) ++ t107) ++ (⟨#[32, 98, 111, 117, 110, 100, 101, 100, 32]⟩ : ByteArray)).size + t109.size ≤ 9223372036854775807 then (if ((((((⟨#[109, 101, 101, 116, 105, 110, 103, 32]⟩ : ByteArray) ++ t105) ++ (⟨#[32, 114, 101, 103, 105, 111, 110, 115, 32]⟩ : ByteArray)) ++ t107) ++ (⟨#[32, 98, 111, 117, 110, 100, 101, 100, 32]⟩ : ByteArray)) ++ t109).size + 10 ≤ 9223372036854775807 then ((spec_ParallelClasses.f k l0).bind fun t110 => ((spec_NumbersText.f k t110).bind fun t113 => (if (((((((⟨#[109, 101, 101, 116, 105, 110, 103, 32]⟩ : ByteArray) ++ t105) ++ (⟨#[32, 114, 101, 103, 105, 111, 110, 115, 32]⟩ : ByteArray)) ++ t107) ++ (⟨#[32, 98, 111, 117, 110, 100, 101, 100, 32]⟩ : ByteArray)) ++ t109) ++ (⟨#[32, 112, 97, 114, 97, 108, 108, 101, 108, 32]⟩ : ByteArray)).size + t113.size ≤ 9223372036854775807 then (if ((((((((⟨#[109, 101, 101, 116, 105, 110, 103, 32]⟩ : ByteArray) ++ t105) ++ (⟨#[32, 114, 101, 103, 105, 111, 110, 115, 32]⟩ : ByteArray)) ++ t107) ++ (⟨#[32, 98, 111, 117, 110, 100, 101, 100, 32]⟩ : ByteArray)) ++ t109) ++ (⟨#[32, 112, 97, 114, 97, 108, 108, 101, 108, 32]⟩ : ByteArray)) ++ t113).size + 6 ≤ 9223372036854775807 then ((spec_LinePoly.f k l0).bind fun t114 => ((spec_NumbersText.f k t114).bind fun t117 => (if (((((((((⟨#[109, 101, 101, 116, 105, 110, 103, 32]⟩ : ByteArray) ++ t105) ++ (⟨#[32, 114, 101, 103, 105, 111, 110, 115, 32]⟩ : ByteArray)) ++ t107) ++ (⟨#[32, 98, 111, 117, 110, 100, 101, 100, 32]⟩ : ByteArray)) ++ t109) ++ (⟨#[32, 112, 97, 114, 97, 108, 108, 101, 108, 32]⟩ : ByteArray)) ++ t113) ++ (⟨#[32, 112, 111, 108, 121, 32]⟩ : ByteArray)).size + t117.size ≤ 9223372036854775807 then (some ((((((((((⟨#[109, 101, 101, 116, 105, 110, 103, 32]⟩ : ByteArray) ++ t105) ++ (⟨#[32, 114, 101, 103, 105, 111, 110, 115, 32]⟩ : ByteArray)) ++ t107) ++ (⟨#[32, 98, 111, 117, 110, 100, 101, 100, 32]⟩ : ByteArray)) ++ t109) ++ (⟨#[32, 112, 97, 114, 97, 108, 108, 101, 108, 32]⟩ : ByteArray)) ++ t113) ++ (⟨#[32, 112, 111, 108, 121, 32]⟩ : ByteArray)) ++ t117)) else (none)))) else (none)) else (none)))) else (none)) else (none)))) else (none)) else (none)))) else (none)) else (none)))) = some r := by rw [if_pos rfl] at H; exact H
  clear H
  have H := H1
  clear H1
  replace H := Option.bind_eq_some_iff.mp H
  obtain ⟨t102, A40, H⟩ := H
  replace H : ((spec_NumbersText.f k t102).bind fun t105 => (if 8 + t105.size ≤ 9223372036854775807 then (if ((⟨#[109, 101, 101, 116, 105, 110, 103, 32]⟩ : ByteArray) ++ t105).size + 9 ≤ 9223372036854775807 then ((spec_CountRegions.f k l0).bind fun t106 => ((spec_FormatInt.f k t106).bind fun t107 => (if (((⟨#[109, 101, 101, 116, 105, 110, 103, 32]⟩ : ByteArray) ++ t105) ++ (⟨#[32, 114, 101, 103, 105, 111, 110, 115, 32]⟩ : ByteArray)).size + t107.size ≤ 9223372036854775807 then (if ((((⟨#[109, 101, 101, 116, 105, 110, 103, 32]⟩ : ByteArray) ++ t105) ++ (⟨#[32, 114, 101, 103, 105, 111, 110, 115, 32]⟩ : ByteArray)) ++ t107).size + 9 ≤ 9223372036854775807 then ((spec_CountBounded.f k l0).bind fun t108 => ((spec_FormatInt.f k t108).bind fun t109 => (if (((((⟨#[109, 101, 101, 116, 105, 110, 103, 32]⟩ : ByteArray) ++ t105) ++ (⟨#[32, 114, 101, 103, 105, 111, 110, 115, 32]⟩ : ByteArray)) ++ t107) ++ (⟨#[32, 98, 111, 117, 110, 100, 101, 100, 32]⟩ : ByteArray)).size + t109.size ≤ 9223372036854775807 then (if ((((((⟨#[109, 101, 101, 116, 105, 110, 103, 32]⟩ : ByteArray) ++ t105) ++ (⟨#[32, 114, 101, 103, 105, 111, 110, 115, 32]⟩ : ByteArray)) ++ t107) ++ (⟨#[32, 98, 111, 117, 110, 100, 101, 100, 32]⟩ : ByteArray)) ++ t109).size + 10 ≤ 9223372036854775807 then ((spec_ParallelClasses.f k l0).bind fun t110 => ((spec_NumbersText.f k t110).bind fun t113 => (if (((((((⟨#[109, 101, 101, 116, 105, 110, 103, 32]⟩ : ByteArray) ++ t105) ++ (⟨#[32, 114, 101, 103, 105, 111, 110, 115, 32]⟩ : ByteArray)) ++ t107) ++ (⟨#[32, 98, 111, 117, 110, 100, 101, 100, 32]⟩ : ByteArray)) ++ t109) ++ (⟨#[32, 112, 97, 114, 97, 108, 108, 101, 108, 32]⟩ : ByteArray)).size + t113.size ≤ 9223372036854775807 then (if ((((((((⟨#[109, 101, 101, 116, 105, 110, 103, 32]⟩ : ByteArray) ++ t105) ++ (⟨#[32, 114, 101, 103, 105, 111, 110, 115, 32]⟩ : ByteArray)) ++ t107) ++ (⟨#[32, 98, 111, 117, 110, 100, 101, 100, 32]⟩ : ByteArray)) ++ t109) ++ (⟨#[32, 112, 97, 114, 97, 108, 108, 101, 108, 32]⟩ : ByteArray)) ++ t113).size + 6 ≤ 9223372036854775807 then ((spec_LinePoly.f k l0).bind fun t114 => ((spec_NumbersText.f k t114).bind fun t117 => (if (((((((((⟨#[109, 101, 101, 116, 105, 110, 103, 32]⟩ : ByteArray) ++ t105) ++ (⟨#[32, 114, 101, 103, 105, 111, 110, 115, 32]⟩ : ByteArray)) ++ t107) ++ (⟨#[32, 98, 111, 117, 110, 100, 101, 100, 32]⟩ : ByteArray)) ++ t109) ++ (⟨#[32, 112, 97, 114, 97, 108, 108, 101, 108, 32]⟩ : ByteArray)) ++ t113) ++ (⟨#[32, 112, 111, 108, 121, 32]⟩ : ByteArray)).size + t117.size ≤ 9223372036854775807 then (some ((((((((((⟨#[109, 101, 101, 116, 105, 110, 103, 32]⟩ : ByteArray) ++ t105) ++ (⟨#[32, 114, 101, 103, 105, 111, 110, 115, 32]⟩ : ByteArray)) ++ t107) ++ (⟨#[32, 98, 111, 117, 110, 100, 101, 100, 32]⟩ : ByteArray)) ++ t109) ++ (⟨#[32, 112, 97, 114, 97, 108, 108, 101, 108, 32]⟩ : ByteArray)) ++ t113) ++ (⟨#[32, 112, 111, 108, 121, 32]⟩ : ByteArray)) ++ t117)) else (none)))) else (none)) else (none)))) else (none)) else (none)))) else (none)) else (none)))) else (none)) else (none))) = some r := H
  have A4 := Aside0.mk A40
  clear A40
  replace H := Option.bind_eq_some_iff.mp H
  obtain ⟨t105, A50, H⟩ := H
  replace H : (if 8 + t105.size ≤ 9223372036854775807 then (if ((⟨#[109, 101, 101, 116, 105, 110, 103, 32]⟩ : ByteArray) ++ t105).size + 9 ≤ 9223372036854775807 then ((spec_CountRegions.f k l0).bind fun t106 => ((spec_FormatInt.f k t106).bind fun t107 => (if (((⟨#[109, 101, 101, 116, 105, 110, 103, 32]⟩ : ByteArray) ++ t105) ++ (⟨#[32, 114, 101, 103, 105, 111, 110, 115, 32]⟩ : ByteArray)).size + t107.size ≤ 9223372036854775807 then (if ((((⟨#[109, 101, 101, 116, 105, 110, 103, 32]⟩ : ByteArray) ++ t105) ++ (⟨#[32, 114, 101, 103, 105, 111, 110, 115, 32]⟩ : ByteArray)) ++ t107).size + 9 ≤ 9223372036854775807 then ((spec_CountBounded.f k l0).bind fun t108 => ((spec_FormatInt.f k t108).bind fun t109 => (if (((((⟨#[109, 101, 101, 116, 105, 110, 103, 32]⟩ : ByteArray) ++ t105) ++ (⟨#[32, 114, 101, 103, 105, 111, 110, 115, 32]⟩ : ByteArray)) ++ t107) ++ (⟨#[32, 98, 111, 117, 110, 100, 101, 100, 32]⟩ : ByteArray)).size + t109.size ≤ 9223372036854775807 then (if ((((((⟨#[109, 101, 101, 116, 105, 110, 103, 32]⟩ : ByteArray) ++ t105) ++ (⟨#[32, 114, 101, 103, 105, 111, 110, 115, 32]⟩ : ByteArray)) ++ t107) ++ (⟨#[32, 98, 111, 117, 110, 100, 101, 100, 32]⟩ : ByteArray)) ++ t109).size + 10 ≤ 9223372036854775807 then ((spec_ParallelClasses.f k l0).bind fun t110 => ((spec_NumbersText.f k t110).bind fun t113 => (if (((((((⟨#[109, 101, 101, 116, 105, 110, 103, 32]⟩ : ByteArray) ++ t105) ++ (⟨#[32, 114, 101, 103, 105, 111, 110, 115, 32]⟩ : ByteArray)) ++ t107) ++ (⟨#[32, 98, 111, 117, 110, 100, 101, 100, 32]⟩ : ByteArray)) ++ t109) ++ (⟨#[32, 112, 97, 114, 97, 108, 108, 101, 108, 32]⟩ : ByteArray)).size + t113.size ≤ 9223372036854775807 then (if ((((((((⟨#[109, 101, 101, 116, 105, 110, 103, 32]⟩ : ByteArray) ++ t105) ++ (⟨#[32, 114, 101, 103, 105, 111, 110, 115, 32]⟩ : ByteArray)) ++ t107) ++ (⟨#[32, 98, 111, 117, 110, 100, 101, 100, 32]⟩ : ByteArray)) ++ t109) ++ (⟨#[32, 112, 97, 114, 97, 108, 108, 101, 108, 32]⟩ : ByteArray)) ++ t113).size + 6 ≤ 9223372036854775807 then ((spec_LinePoly.f k l0).bind fun t114 => ((spec_NumbersText.f k t114).bind fun t117 => (if (((((((((⟨#[109, 101, 101, 116, 105, 110, 103, 32]⟩ : ByteArray) ++ t105) ++ (⟨#[32, 114, 101, 103, 105, 111, 110, 115, 32]⟩ : ByteArray)) ++ t107) ++ (⟨#[32, 98, 111, 117, 110, 100, 101, 100, 32]⟩ : ByteArray)) ++ t109) ++ (⟨#[32, 112, 97, 114, 97, 108, 108, 101, 108, 32]⟩ : ByteArray)) ++ t113) ++ (⟨#[32, 112, 111, 108, 121, 32]⟩ : ByteArray)).size + t117.size ≤ 9223372036854775807 then (some ((((((((((⟨#[109, 101, 101, 116, 105, 110, 103, 32]⟩ : ByteArray) ++ t105) ++ (⟨#[32, 114, 101, 103, 105, 111, 110, 115, 32]⟩ : ByteArray)) ++ t107) ++ (⟨#[32, 98, 111, 117, 110, 100, 101, 100, 32]⟩ : ByteArray)) ++ t109) ++ (⟨#[32, 112, 97, 114, 97, 108, 108, 101, 108, 32]⟩ : ByteArray)) ++ t113) ++ (⟨#[32, 112, 111, 108, 121, 32]⟩ : ByteArray)) ++ t117)) else (none)))) else (none)) else (none)))) else (none)) else (none)))) else (none)) else (none)))) else (none)) else (none)) = some r := H
  have A5 := Aside0.mk A50
  clear A50
  by_cases c6 : 8 + t105.size ≤ 9223372036854775807
  ·rw [if_pos c6] at H
   have c6b0 := eq_true c6
   have c6b1 : decide (8 + t105.size ≤ 9223372036854775807) = true := decide_eq_true c6
   try have c6b2 : (9223372036854775807 < 8 + t105.size) = False := eq_false (Nat.not_lt.2 c6)
   by_cases c7 : ((⟨#[109, 101, 101, 116, 105, 110, 103, 32]⟩ : ByteArray) ++ t105).size + 9 ≤ 9223372036854775807
   ·rw [if_pos c7] at H
    have c7b0 := eq_true c7
    have c7b1 : decide (((⟨#[109, 101, 101, 116, 105, 110, 103, 32]⟩ : ByteArray) ++ t105).size + 9 ≤ 9223372036854775807) = true := decide_eq_true c7
    try have c7b2 : (9223372036854775807 < ((⟨#[109, 101, 101, 116, 105, 110, 103, 32]⟩ : ByteArray) ++ t105).size + 9) = False := eq_false (Nat.not_lt.2 c7)
    have c7s2 : (9223372036854775807 < 8 + t105.size + 9) = False := eq_false (Nat.not_lt.2 (by have h_ := c7; simp only [ByteArray.size_append] at h_; exact h_))
    replace H := Option.bind_eq_some_iff.mp H
    obtain ⟨t106, A80, H⟩ := H
    replace H : ((spec_FormatInt.f k t106).bind fun t107 => (if (((⟨#[109, 101, 101, 116, 105, 110, 103, 32]⟩ : ByteArray) ++ t105) ++ (⟨#[32, 114, 101, 103, 105, 111, 110, 115, 32]⟩ : ByteArray)).size + t107.size ≤ 9223372036854775807 then (if ((((⟨#[109, 101, 101, 116, 105, 110, 103, 32]⟩ : ByteArray) ++ t105) ++ (⟨#[32, 114, 101, 103, 105, 111, 110, 115, 32]⟩ : ByteArray)) ++ t107).size + 9 ≤ 9223372036854775807 then ((spec_CountBounded.f k l0).bind fun t108 => ((spec_FormatInt.f k t108).bind fun t109 => (if (((((⟨#[109, 101, 101, 116, 105, 110, 103, 32]⟩ : ByteArray) ++ t105) ++ (⟨#[32, 114, 101, 103, 105, 111, 110, 115, 32]⟩ : ByteArray)) ++ t107) ++ (⟨#[32, 98, 111, 117, 110, 100, 101, 100, 32]⟩ : ByteArray)).size + t109.size ≤ 9223372036854775807 then (if ((((((⟨#[109, 101, 101, 116, 105, 110, 103, 32]⟩ : ByteArray) ++ t105) ++ (⟨#[32, 114, 101, 103, 105, 111, 110, 115, 32]⟩ : ByteArray)) ++ t107) ++ (⟨#[32, 98, 111, 117, 110, 100, 101, 100, 32]⟩ : ByteArray)) ++ t109).size + 10 ≤ 9223372036854775807 then ((spec_ParallelClasses.f k l0).bind fun t110 => ((spec_NumbersText.f k t110).bind fun t113 => (if (((((((⟨#[109, 101, 101, 116, 105, 110, 103, 32]⟩ : ByteArray) ++ t105) ++ (⟨#[32, 114, 101, 103, 105, 111, 110, 115, 32]⟩ : ByteArray)) ++ t107) ++ (⟨#[32, 98, 111, 117, 110, 100, 101, 100, 32]⟩ : ByteArray)) ++ t109) ++ (⟨#[32, 112, 97, 114, 97, 108, 108, 101, 108, 32]⟩ : ByteArray)).size + t113.size ≤ 9223372036854775807 then (if ((((((((⟨#[109, 101, 101, 116, 105, 110, 103, 32]⟩ : ByteArray) ++ t105) ++ (⟨#[32, 114, 101, 103, 105, 111, 110, 115, 32]⟩ : ByteArray)) ++ t107) ++ (⟨#[32, 98, 111, 117, 110, 100, 101, 100, 32]⟩ : ByteArray)) ++ t109) ++ (⟨#[32, 112, 97, 114, 97, 108, 108, 101, 108, 32]⟩ : ByteArray)) ++ t113).size + 6 ≤ 9223372036854775807 then ((spec_LinePoly.f k l0).bind fun t114 => ((spec_NumbersText.f k t114).bind fun t117 => (if (((((((((⟨#[109, 101, 101, 116, 105, 110, 103, 32]⟩ : ByteArray) ++ t105) ++ (⟨#[32, 114, 101, 103, 105, 111, 110, 115, 32]⟩ : ByteArray)) ++ t107) ++ (⟨#[32, 98, 111, 117, 110, 100, 101, 100, 32]⟩ : ByteArray)) ++ t109) ++ (⟨#[32, 112, 97, 114, 97, 108, 108, 101, 108, 32]⟩ : ByteArray)) ++ t113) ++ (⟨#[32, 112, 111, 108, 121, 32]⟩ : ByteArray)).size + t117.size ≤ 9223372036854775807 then (some ((((((((((⟨#[109, 101, 101, 116, 105, 110, 103, 32]⟩ : ByteArray) ++ t105) ++ (⟨#[32, 114, 101, 103, 105, 111, 110, 115, 32]⟩ : ByteArray)) ++ t107) ++ (⟨#[32, 98, 111, 117, 110, 100, 101, 100, 32]⟩ : ByteArray)) ++ t109) ++ (⟨#[32, 112, 97, 114, 97, 108, 108, 101, 108, 32]⟩ : ByteArray)) ++ t113) ++ (⟨#[32, 112, 111, 108, 121, 32]⟩ : ByteArray)) ++ t117)) else (none)))) else (none)) else (none)))) else (none)) else (none)))) else (none)) else (none))) = some r := H
    have A8 := Aside0.mk A80
    clear A80
    replace H := Option.bind_eq_some_iff.mp H
    obtain ⟨t107, A90, H⟩ := H
    replace H : (if (((⟨#[109, 101, 101, 116, 105, 110, 103, 32]⟩ : ByteArray) ++ t105) ++ (⟨#[32, 114, 101, 103, 105, 111, 110, 115, 32]⟩ : ByteArray)).size + t107.size ≤ 9223372036854775807 then (if ((((⟨#[109, 101, 101, 116, 105, 110, 103, 32]⟩ : ByteArray) ++ t105) ++ (⟨#[32, 114, 101, 103, 105, 111, 110, 115, 32]⟩ : ByteArray)) ++ t107).size + 9 ≤ 9223372036854775807 then ((spec_CountBounded.f k l0).bind fun t108 => ((spec_FormatInt.f k t108).bind fun t109 => (if (((((⟨#[109, 101, 101, 116, 105, 110, 103, 32]⟩ : ByteArray) ++ t105) ++ (⟨#[32, 114, 101, 103, 105, 111, 110, 115, 32]⟩ : ByteArray)) ++ t107) ++ (⟨#[32, 98, 111, 117, 110, 100, 101, 100, 32]⟩ : ByteArray)).size + t109.size ≤ 9223372036854775807 then (if ((((((⟨#[109, 101, 101, 116, 105, 110, 103, 32]⟩ : ByteArray) ++ t105) ++ (⟨#[32, 114, 101, 103, 105, 111, 110, 115, 32]⟩ : ByteArray)) ++ t107) ++ (⟨#[32, 98, 111, 117, 110, 100, 101, 100, 32]⟩ : ByteArray)) ++ t109).size + 10 ≤ 9223372036854775807 then ((spec_ParallelClasses.f k l0).bind fun t110 => ((spec_NumbersText.f k t110).bind fun t113 => (if (((((((⟨#[109, 101, 101, 116, 105, 110, 103, 32]⟩ : ByteArray) ++ t105) ++ (⟨#[32, 114, 101, 103, 105, 111, 110, 115, 32]⟩ : ByteArray)) ++ t107) ++ (⟨#[32, 98, 111, 117, 110, 100, 101, 100, 32]⟩ : ByteArray)) ++ t109) ++ (⟨#[32, 112, 97, 114, 97, 108, 108, 101, 108, 32]⟩ : ByteArray)).size + t113.size ≤ 9223372036854775807 then (if ((((((((⟨#[109, 101, 101, 116, 105, 110, 103, 32]⟩ : ByteArray) ++ t105) ++ (⟨#[32, 114, 101, 103, 105, 111, 110, 115, 32]⟩ : ByteArray)) ++ t107) ++ (⟨#[32, 98, 111, 117, 110, 100, 101, 100, 32]⟩ : ByteArray)) ++ t109) ++ (⟨#[32, 112, 97, 114, 97, 108, 108, 101, 108, 32]⟩ : ByteArray)) ++ t113).size + 6 ≤ 9223372036854775807 then ((spec_LinePoly.f k l0).bind fun t114 => ((spec_NumbersText.f k t114).bind fun t117 => (if (((((((((⟨#[109, 101, 101, 116, 105, 110, 103, 32]⟩ : ByteArray) ++ t105) ++ (⟨#[32, 114, 101, 103, 105, 111, 110, 115, 32]⟩ : ByteArray)) ++ t107) ++ (⟨#[32, 98, 111, 117, 110, 100, 101, 100, 32]⟩ : ByteArray)) ++ t109) ++ (⟨#[32, 112, 97, 114, 97, 108, 108, 101, 108, 32]⟩ : ByteArray)) ++ t113) ++ (⟨#[32, 112, 111, 108, 121, 32]⟩ : ByteArray)).size + t117.size ≤ 9223372036854775807 then (some ((((((((((⟨#[109, 101, 101, 116, 105, 110, 103, 32]⟩ : ByteArray) ++ t105) ++ (⟨#[32, 114, 101, 103, 105, 111, 110, 115, 32]⟩ : ByteArray)) ++ t107) ++ (⟨#[32, 98, 111, 117, 110, 100, 101, 100, 32]⟩ : ByteArray)) ++ t109) ++ (⟨#[32, 112, 97, 114, 97, 108, 108, 101, 108, 32]⟩ : ByteArray)) ++ t113) ++ (⟨#[32, 112, 111, 108, 121, 32]⟩ : ByteArray)) ++ t117)) else (none)))) else (none)) else (none)))) else (none)) else (none)))) else (none)) else (none)) = some r := H
    have A9 := Aside0.mk A90
    clear A90
    by_cases c10 : (((⟨#[109, 101, 101, 116, 105, 110, 103, 32]⟩ : ByteArray) ++ t105) ++ (⟨#[32, 114, 101, 103, 105, 111, 110, 115, 32]⟩ : ByteArray)).size + t107.size ≤ 9223372036854775807
    ·rw [if_pos c10] at H
     have c10b0 := eq_true c10
     have c10b1 : decide ((((⟨#[109, 101, 101, 116, 105, 110, 103, 32]⟩ : ByteArray) ++ t105) ++ (⟨#[32, 114, 101, 103, 105, 111, 110, 115, 32]⟩ : ByteArray)).size + t107.size ≤ 9223372036854775807) = true := decide_eq_true c10
     try have c10b2 : (9223372036854775807 < (((⟨#[109, 101, 101, 116, 105, 110, 103, 32]⟩ : ByteArray) ++ t105) ++ (⟨#[32, 114, 101, 103, 105, 111, 110, 115, 32]⟩ : ByteArray)).size + t107.size) = False := eq_false (Nat.not_lt.2 c10)
     have c10s2 : (9223372036854775807 < 8 + t105.size + 9 + t107.size) = False := eq_false (Nat.not_lt.2 (by have h_ := c10; simp only [ByteArray.size_append] at h_; exact h_))
     by_cases c11 : ((((⟨#[109, 101, 101, 116, 105, 110, 103, 32]⟩ : ByteArray) ++ t105) ++ (⟨#[32, 114, 101, 103, 105, 111, 110, 115, 32]⟩ : ByteArray)) ++ t107).size + 9 ≤ 9223372036854775807
     ·rw [if_pos c11] at H
      have c11b0 := eq_true c11
      have c11b1 : decide (((((⟨#[109, 101, 101, 116, 105, 110, 103, 32]⟩ : ByteArray) ++ t105) ++ (⟨#[32, 114, 101, 103, 105, 111, 110, 115, 32]⟩ : ByteArray)) ++ t107).size + 9 ≤ 9223372036854775807) = true := decide_eq_true c11
      try have c11b2 : (9223372036854775807 < ((((⟨#[109, 101, 101, 116, 105, 110, 103, 32]⟩ : ByteArray) ++ t105) ++ (⟨#[32, 114, 101, 103, 105, 111, 110, 115, 32]⟩ : ByteArray)) ++ t107).size + 9) = False := eq_false (Nat.not_lt.2 c11)
      have c11s2 : (9223372036854775807 < 8 + t105.size + 9 + t107.size + 9) = False := eq_false (Nat.not_lt.2 (by have h_ := c11; simp only [ByteArray.size_append] at h_; exact h_))
      replace H := Option.bind_eq_some_iff.mp H
      obtain ⟨t108, A120, H⟩ := H
      replace H : ((spec_FormatInt.f k t108).bind fun t109 => (if (((((⟨#[109, 101, 101, 116, 105, 110, 103, 32]⟩ : ByteArray) ++ t105) ++ (⟨#[32, 114, 101, 103, 105, 111, 110, 115, 32]⟩ : ByteArray)) ++ t107) ++ (⟨#[32, 98, 111, 117, 110, 100, 101, 100, 32]⟩ : ByteArray)).size + t109.size ≤ 9223372036854775807 then (if ((((((⟨#[109, 101, 101, 116, 105, 110, 103, 32]⟩ : ByteArray) ++ t105) ++ (⟨#[32, 114, 101, 103, 105, 111, 110, 115, 32]⟩ : ByteArray)) ++ t107) ++ (⟨#[32, 98, 111, 117, 110, 100, 101, 100, 32]⟩ : ByteArray)) ++ t109).size + 10 ≤ 9223372036854775807 then ((spec_ParallelClasses.f k l0).bind fun t110 => ((spec_NumbersText.f k t110).bind fun t113 => (if (((((((⟨#[109, 101, 101, 116, 105, 110, 103, 32]⟩ : ByteArray) ++ t105) ++ (⟨#[32, 114, 101, 103, 105, 111, 110, 115, 32]⟩ : ByteArray)) ++ t107) ++ (⟨#[32, 98, 111, 117, 110, 100, 101, 100, 32]⟩ : ByteArray)) ++ t109) ++ (⟨#[32, 112, 97, 114, 97, 108, 108, 101, 108, 32]⟩ : ByteArray)).size + t113.size ≤ 9223372036854775807 then (if ((((((((⟨#[109, 101, 101, 116, 105, 110, 103, 32]⟩ : ByteArray) ++ t105) ++ (⟨#[32, 114, 101, 103, 105, 111, 110, 115, 32]⟩ : ByteArray)) ++ t107) ++ (⟨#[32, 98, 111, 117, 110, 100, 101, 100, 32]⟩ : ByteArray)) ++ t109) ++ (⟨#[32, 112, 97, 114, 97, 108, 108, 101, 108, 32]⟩ : ByteArray)) ++ t113).size + 6 ≤ 9223372036854775807 then ((spec_LinePoly.f k l0).bind fun t114 => ((spec_NumbersText.f k t114).bind fun t117 => (if (((((((((⟨#[109, 101, 101, 116, 105, 110, 103, 32]⟩ : ByteArray) ++ t105) ++ (⟨#[32, 114, 101, 103, 105, 111, 110, 115, 32]⟩ : ByteArray)) ++ t107) ++ (⟨#[32, 98, 111, 117, 110, 100, 101, 100, 32]⟩ : ByteArray)) ++ t109) ++ (⟨#[32, 112, 97, 114, 97, 108, 108, 101, 108, 32]⟩ : ByteArray)) ++ t113) ++ (⟨#[32, 112, 111, 108, 121, 32]⟩ : ByteArray)).size + t117.size ≤ 9223372036854775807 then (some ((((((((((⟨#[109, 101, 101, 116, 105, 110, 103, 32]⟩ : ByteArray) ++ t105) ++ (⟨#[32, 114, 101, 103, 105, 111, 110, 115, 32]⟩ : ByteArray)) ++ t107) ++ (⟨#[32, 98, 111, 117, 110, 100, 101, 100, 32]⟩ : ByteArray)) ++ t109) ++ (⟨#[32, 112, 97, 114, 97, 108, 108, 101, 108, 32]⟩ : ByteArray)) ++ t113) ++ (⟨#[32, 112, 111, 108, 121, 32]⟩ : ByteArray)) ++ t117)) else (none)))) else (none)) else (none)))) else (none)) else (none))) = some r := H
      have A12 := Aside0.mk A120
      clear A120
      replace H := Option.bind_eq_some_iff.mp H
      obtain ⟨t109, A130, H⟩ := H
      replace H : (if (((((⟨#[109, 101, 101, 116, 105, 110, 103, 32]⟩ : ByteArray) ++ t105) ++ (⟨#[32, 114, 101, 103, 105, 111, 110, 115, 32]⟩ : ByteArray)) ++ t107) ++ (⟨#[32, 98, 111, 117, 110, 100, 101, 100, 32]⟩ : ByteArray)).size + t109.size ≤ 9223372036854775807 then (if ((((((⟨#[109, 101, 101, 116, 105, 110, 103, 32]⟩ : ByteArray) ++ t105) ++ (⟨#[32, 114, 101, 103, 105, 111, 110, 115, 32]⟩ : ByteArray)) ++ t107) ++ (⟨#[32, 98, 111, 117, 110, 100, 101, 100, 32]⟩ : ByteArray)) ++ t109).size + 10 ≤ 9223372036854775807 then ((spec_ParallelClasses.f k l0).bind fun t110 => ((spec_NumbersText.f k t110).bind fun t113 => (if (((((((⟨#[109, 101, 101, 116, 105, 110, 103, 32]⟩ : ByteArray) ++ t105) ++ (⟨#[32, 114, 101, 103, 105, 111, 110, 115, 32]⟩ : ByteArray)) ++ t107) ++ (⟨#[32, 98, 111, 117, 110, 100, 101, 100, 32]⟩ : ByteArray)) ++ t109) ++ (⟨#[32, 112, 97, 114, 97, 108, 108, 101, 108, 32]⟩ : ByteArray)).size + t113.size ≤ 9223372036854775807 then (if ((((((((⟨#[109, 101, 101, 116, 105, 110, 103, 32]⟩ : ByteArray) ++ t105) ++ (⟨#[32, 114, 101, 103, 105, 111, 110, 115, 32]⟩ : ByteArray)) ++ t107) ++ (⟨#[32, 98, 111, 117, 110, 100, 101, 100, 32]⟩ : ByteArray)) ++ t109) ++ (⟨#[32, 112, 97, 114, 97, 108, 108, 101, 108, 32]⟩ : ByteArray)) ++ t113).size + 6 ≤ 9223372036854775807 then ((spec_LinePoly.f k l0).bind fun t114 => ((spec_NumbersText.f k t114).bind fun t117 => (if (((((((((⟨#[109, 101, 101, 116, 105, 110, 103, 32]⟩ : ByteArray) ++ t105) ++ (⟨#[32, 114, 101, 103, 105, 111, 110, 115, 32]⟩ : ByteArray)) ++ t107) ++ (⟨#[32, 98, 111, 117, 110, 100, 101, 100, 32]⟩ : ByteArray)) ++ t109) ++ (⟨#[32, 112, 97, 114, 97, 108, 108, 101, 108, 32]⟩ : ByteArray)) ++ t113) ++ (⟨#[32, 112, 111, 108, 121, 32]⟩ : ByteArray)).size + t117.size ≤ 9223372036854775807 then (some ((((((((((⟨#[109, 101, 101, 116, 105, 110, 103, 32]⟩ : ByteArray) ++ t105) ++ (⟨#[32, 114, 101, 103, 105, 111, 110, 115, 32]⟩ : ByteArray)) ++ t107) ++ (⟨#[32, 98, 111, 117, 110, 100, 101, 100, 32]⟩ : ByteArray)) ++ t109) ++ (⟨#[32, 112, 97, 114, 97, 108, 108, 101, 108, 32]⟩ : ByteArray)) ++ t113) ++ (⟨#[32, 112, 111, 108, 121, 32]⟩ : ByteArray)) ++ t117)) else (none)))) else (none)) else (none)))) else (none)) else (none)) = some r := H
      have A13 := Aside0.mk A130
      clear A130
      by_cases c14 : (((((⟨#[109, 101, 101, 116, 105, 110, 103, 32]⟩ : ByteArray) ++ t105) ++ (⟨#[32, 114, 101, 103, 105, 111, 110, 115, 32]⟩ : ByteArray)) ++ t107) ++ (⟨#[32, 98, 111, 117, 110, 100, 101, 100, 32]⟩ : ByteArray)).size + t109.size ≤ 9223372036854775807
      ·rw [if_pos c14] at H
       have c14b0 := eq_true c14
       have c14b1 : decide ((((((⟨#[109, 101, 101, 116, 105, 110, 103, 32]⟩ : ByteArray) ++ t105) ++ (⟨#[32, 114, 101, 103, 105, 111, 110, 115, 32]⟩ : ByteArray)) ++ t107) ++ (⟨#[32, 98, 111, 117, 110, 100, 101, 100, 32]⟩ : ByteArray)).size + t109.size ≤ 9223372036854775807) = true := decide_eq_true c14
       try have c14b2 : (9223372036854775807 < (((((⟨#[109, 101, 101, 116, 105, 110, 103, 32]⟩ : ByteArray) ++ t105) ++ (⟨#[32, 114, 101, 103, 105, 111, 110, 115, 32]⟩ : ByteArray)) ++ t107) ++ (⟨#[32, 98, 111, 117, 110, 100, 101, 100, 32]⟩ : ByteArray)).size + t109.size) = False := eq_false (Nat.not_lt.2 c14)
       have c14s2 : (9223372036854775807 < 8 + t105.size + 9 + t107.size + 9 + t109.size) = False := eq_false (Nat.not_lt.2 (by have h_ := c14; simp only [ByteArray.size_append] at h_; exact h_))
       by_cases c15 : ((((((⟨#[109, 101, 101, 116, 105, 110, 103, 32]⟩ : ByteArray) ++ t105) ++ (⟨#[32, 114, 101, 103, 105, 111, 110, 115, 32]⟩ : ByteArray)) ++ t107) ++ (⟨#[32, 98, 111, 117, 110, 100, 101, 100, 32]⟩ : ByteArray)) ++ t109).size + 10 ≤ 9223372036854775807
       ·rw [if_pos c15] at H
        have c15b0 := eq_true c15
        have c15b1 : decide (((((((⟨#[109, 101, 101, 116, 105, 110, 103, 32]⟩ : ByteArray) ++ t105) ++ (⟨#[32, 114, 101, 103, 105, 111, 110, 115, 32]⟩ : ByteArray)) ++ t107) ++ (⟨#[32, 98, 111, 117, 110, 100, 101, 100, 32]⟩ : ByteArray)) ++ t109).size + 10 ≤ 9223372036854775807) = true := decide_eq_true c15
        try have c15b2 : (9223372036854775807 < ((((((⟨#[109, 101, 101, 116, 105, 110, 103, 32]⟩ : ByteArray) ++ t105) ++ (⟨#[32, 114, 101, 103, 105, 111, 110, 115, 32]⟩ : ByteArray)) ++ t107) ++ (⟨#[32, 98, 111, 117, 110, 100, 101, 100, 32]⟩ : ByteArray)) ++ t109).size + 10) = False := eq_false (Nat.not_lt.2 c15)
        have c15s2 : (9223372036854775807 < 8 + t105.size + 9 + t107.size + 9 + t109.size + 10) = False := eq_false (Nat.not_lt.2 (by have h_ := c15; simp only [ByteArray.size_append] at h_; exact h_))
        replace H := Option.bind_eq_some_iff.mp H
        obtain ⟨t110, A160, H⟩ := H
        replace H : ((spec_NumbersText.f k t110).bind fun t113 => (if (((((((⟨#[109, 101, 101, 116, 105, 110, 103, 32]⟩ : ByteArray) ++ t105) ++ (⟨#[32, 114, 101, 103, 105, 111, 110, 115, 32]⟩ : ByteArray)) ++ t107) ++ (⟨#[32, 98, 111, 117, 110, 100, 101, 100, 32]⟩ : ByteArray)) ++ t109) ++ (⟨#[32, 112, 97, 114, 97, 108, 108, 101, 108, 32]⟩ : ByteArray)).size + t113.size ≤ 9223372036854775807 then (if ((((((((⟨#[109, 101, 101, 116, 105, 110, 103, 32]⟩ : ByteArray) ++ t105) ++ (⟨#[32, 114, 101, 103, 105, 111, 110, 115, 32]⟩ : ByteArray)) ++ t107) ++ (⟨#[32, 98, 111, 117, 110, 100, 101, 100, 32]⟩ : ByteArray)) ++ t109) ++ (⟨#[32, 112, 97, 114, 97, 108, 108, 101, 108, 32]⟩ : ByteArray)) ++ t113).size + 6 ≤ 9223372036854775807 then ((spec_LinePoly.f k l0).bind fun t114 => ((spec_NumbersText.f k t114).bind fun t117 => (if (((((((((⟨#[109, 101, 101, 116, 105, 110, 103, 32]⟩ : ByteArray) ++ t105) ++ (⟨#[32, 114, 101, 103, 105, 111, 110, 115, 32]⟩ : ByteArray)) ++ t107) ++ (⟨#[32, 98, 111, 117, 110, 100, 101, 100, 32]⟩ : ByteArray)) ++ t109) ++ (⟨#[32, 112, 97, 114, 97, 108, 108, 101, 108, 32]⟩ : ByteArray)) ++ t113) ++ (⟨#[32, 112, 111, 108, 121, 32]⟩ : ByteArray)).size + t117.size ≤ 9223372036854775807 then (some ((((((((((⟨#[109, 101, 101, 116, 105, 110, 103, 32]⟩ : ByteArray) ++ t105) ++ (⟨#[32, 114, 101, 103, 105, 111, 110, 115, 32]⟩ : ByteArray)) ++ t107) ++ (⟨#[32, 98, 111, 117, 110, 100, 101, 100, 32]⟩ : ByteArray)) ++ t109) ++ (⟨#[32, 112, 97, 114, 97, 108, 108, 101, 108, 32]⟩ : ByteArray)) ++ t113) ++ (⟨#[32, 112, 111, 108, 121, 32]⟩ : ByteArray)) ++ t117)) else (none)))) else (none)) else (none))) = some r := H
        have A16 := Aside0.mk A160
        clear A160
        replace H := Option.bind_eq_some_iff.mp H
        obtain ⟨t113, A170, H⟩ := H
        replace H : (if (((((((⟨#[109, 101, 101, 116, 105, 110, 103, 32]⟩ : ByteArray) ++ t105) ++ (⟨#[32, 114, 101, 103, 105, 111, 110, 115, 32]⟩ : ByteArray)) ++ t107) ++ (⟨#[32, 98, 111, 117, 110, 100, 101, 100, 32]⟩ : ByteArray)) ++ t109) ++ (⟨#[32, 112, 97, 114, 97, 108, 108, 101, 108, 32]⟩ : ByteArray)).size + t113.size ≤ 9223372036854775807 then (if ((((((((⟨#[109, 101, 101, 116, 105, 110, 103, 32]⟩ : ByteArray) ++ t105) ++ (⟨#[32, 114, 101, 103, 105, 111, 110, 115, 32]⟩ : ByteArray)) ++ t107) ++ (⟨#[32, 98, 111, 117, 110, 100, 101, 100, 32]⟩ : ByteArray)) ++ t109) ++ (⟨#[32, 112, 97, 114, 97, 108, 108, 101, 108, 32]⟩ : ByteArray)) ++ t113).size + 6 ≤ 9223372036854775807 then ((spec_LinePoly.f k l0).bind fun t114 => ((spec_NumbersText.f k t114).bind fun t117 => (if (((((((((⟨#[109, 101, 101, 116, 105, 110, 103, 32]⟩ : ByteArray) ++ t105) ++ (⟨#[32, 114, 101, 103, 105, 111, 110, 115, 32]⟩ : ByteArray)) ++ t107) ++ (⟨#[32, 98, 111, 117, 110, 100, 101, 100, 32]⟩ : ByteArray)) ++ t109) ++ (⟨#[32, 112, 97, 114, 97, 108, 108, 101, 108, 32]⟩ : ByteArray)) ++ t113) ++ (⟨#[32, 112, 111, 108, 121, 32]⟩ : ByteArray)).size + t117.size ≤ 9223372036854775807 then (some ((((((((((⟨#[109, 101, 101, 116, 105, 110, 103, 32]⟩ : ByteArray) ++ t105) ++ (⟨#[32, 114, 101, 103, 105, 111, 110, 115, 32]⟩ : ByteArray)) ++ t107) ++ (⟨#[32, 98, 111, 117, 110, 100, 101, 100, 32]⟩ : ByteArray)) ++ t109) ++ (⟨#[32, 112, 97, 114, 97, 108, 108, 101, 108, 32]⟩ : ByteArray)) ++ t113) ++ (⟨#[32, 112, 111, 108, 121, 32]⟩ : ByteArray)) ++ t117)) else (none)))) else (none)) else (none)) = some r := H
        have A17 := Aside0.mk A170
        clear A170
        by_cases c18 : (((((((⟨#[109, 101, 101, 116, 105, 110, 103, 32]⟩ : ByteArray) ++ t105) ++ (⟨#[32, 114, 101, 103, 105, 111, 110, 115, 32]⟩ : ByteArray)) ++ t107) ++ (⟨#[32, 98, 111, 117, 110, 100, 101, 100, 32]⟩ : ByteArray)) ++ t109) ++ (⟨#[32, 112, 97, 114, 97, 108, 108, 101, 108, 32]⟩ : ByteArray)).size + t113.size ≤ 9223372036854775807
        ·rw [if_pos c18] at H
         have c18b0 := eq_true c18
         have c18b1 : decide ((((((((⟨#[109, 101, 101, 116, 105, 110, 103, 32]⟩ : ByteArray) ++ t105) ++ (⟨#[32, 114, 101, 103, 105, 111, 110, 115, 32]⟩ : ByteArray)) ++ t107) ++ (⟨#[32, 98, 111, 117, 110, 100, 101, 100, 32]⟩ : ByteArray)) ++ t109) ++ (⟨#[32, 112, 97, 114, 97, 108, 108, 101, 108, 32]⟩ : ByteArray)).size + t113.size ≤ 9223372036854775807) = true := decide_eq_true c18
         try have c18b2 : (9223372036854775807 < (((((((⟨#[109, 101, 101, 116, 105, 110, 103, 32]⟩ : ByteArray) ++ t105) ++ (⟨#[32, 114, 101, 103, 105, 111, 110, 115, 32]⟩ : ByteArray)) ++ t107) ++ (⟨#[32, 98, 111, 117, 110, 100, 101, 100, 32]⟩ : ByteArray)) ++ t109) ++ (⟨#[32, 112, 97, 114, 97, 108, 108, 101, 108, 32]⟩ : ByteArray)).size + t113.size) = False := eq_false (Nat.not_lt.2 c18)
         have c18s2 : (9223372036854775807 < 8 + t105.size + 9 + t107.size + 9 + t109.size + 10 + t113.size) = False := eq_false (Nat.not_lt.2 (by have h_ := c18; simp only [ByteArray.size_append] at h_; exact h_))
         by_cases c19 : ((((((((⟨#[109, 101, 101, 116, 105, 110, 103, 32]⟩ : ByteArray) ++ t105) ++ (⟨#[32, 114, 101, 103, 105, 111, 110, 115, 32]⟩ : ByteArray)) ++ t107) ++ (⟨#[32, 98, 111, 117, 110, 100, 101, 100, 32]⟩ : ByteArray)) ++ t109) ++ (⟨#[32, 112, 97, 114, 97, 108, 108, 101, 108, 32]⟩ : ByteArray)) ++ t113).size + 6 ≤ 9223372036854775807
         ·rw [if_pos c19] at H
          have c19b0 := eq_true c19
          have c19b1 : decide (((((((((⟨#[109, 101, 101, 116, 105, 110, 103, 32]⟩ : ByteArray) ++ t105) ++ (⟨#[32, 114, 101, 103, 105, 111, 110, 115, 32]⟩ : ByteArray)) ++ t107) ++ (⟨#[32, 98, 111, 117, 110, 100, 101, 100, 32]⟩ : ByteArray)) ++ t109) ++ (⟨#[32, 112, 97, 114, 97, 108, 108, 101, 108, 32]⟩ : ByteArray)) ++ t113).size + 6 ≤ 9223372036854775807) = true := decide_eq_true c19
          try have c19b2 : (9223372036854775807 < ((((((((⟨#[109, 101, 101, 116, 105, 110, 103, 32]⟩ : ByteArray) ++ t105) ++ (⟨#[32, 114, 101, 103, 105, 111, 110, 115, 32]⟩ : ByteArray)) ++ t107) ++ (⟨#[32, 98, 111, 117, 110, 100, 101, 100, 32]⟩ : ByteArray)) ++ t109) ++ (⟨#[32, 112, 97, 114, 97, 108, 108, 101, 108, 32]⟩ : ByteArray)) ++ t113).size + 6) = False := eq_false (Nat.not_lt.2 c19)
          have c19s2 : (9223372036854775807 < 8 + t105.size + 9 + t107.size + 9 + t109.size + 10 + t113.size + 6) = False := eq_false (Nat.not_lt.2 (by have h_ := c19; simp only [ByteArray.size_append] at h_; exact h_))
          replace H := Option.bind_eq_some_iff.mp H
          obtain ⟨t114, A200, H⟩ := H
          replace H : ((spec_NumbersText.f k t114).bind fun t117 => (if (((((((((⟨#[109, 101, 101, 116, 105, 110, 103, 32]⟩ : ByteArray) ++ t105) ++ (⟨#[32, 114, 101, 103, 105, 111, 110, 115, 32]⟩ : ByteArray)) ++ t107) ++ (⟨#[32, 98, 111, 117, 110, 100, 101, 100, 32]⟩ : ByteArray)) ++ t109) ++ (⟨#[32, 112, 97, 114, 97, 108, 108, 101, 108, 32]⟩ : ByteArray)) ++ t113) ++ (⟨#[32, 112, 111, 108, 121, 32]⟩ : ByteArray)).size + t117.size ≤ 9223372036854775807 then (some ((((((((((⟨#[109, 101, 101, 116, 105, 110, 103, 32]⟩ : ByteArray) ++ t105) ++ (⟨#[32, 114, 101, 103, 105, 111, 110, 115, 32]⟩ : ByteArray)) ++ t107) ++ (⟨#[32, 98, 111, 117, 110, 100, 101, 100, 32]⟩ : ByteArray)) ++ t109) ++ (⟨#[32, 112, 97, 114, 97, 108, 108, 101, 108, 32]⟩ : ByteArray)) ++ t113) ++ (⟨#[32, 112, 111, 108, 121, 32]⟩ : ByteArray)) ++ t117)) else (none))) = some r := H
          have A20 := Aside0.mk A200
          clear A200
          replace H := Option.bind_eq_some_iff.mp H
          obtain ⟨t117, A210, H⟩ := H
          replace H : (if (((((((((⟨#[109, 101, 101, 116, 105, 110, 103, 32]⟩ : ByteArray) ++ t105) ++ (⟨#[32, 114, 101, 103, 105, 111, 110, 115, 32]⟩ : ByteArray)) ++ t107) ++ (⟨#[32, 98, 111, 117, 110, 100, 101, 100, 32]⟩ : ByteArray)) ++ t109) ++ (⟨#[32, 112, 97, 114, 97, 108, 108, 101, 108, 32]⟩ : ByteArray)) ++ t113) ++ (⟨#[32, 112, 111, 108, 121, 32]⟩ : ByteArray)).size + t117.size ≤ 9223372036854775807 then (some ((((((((((⟨#[109, 101, 101, 116, 105, 110, 103, 32]⟩ : ByteArray) ++ t105) ++ (⟨#[32, 114, 101, 103, 105, 111, 110, 115, 32]⟩ : ByteArray)) ++ t107) ++ (⟨#[32, 98, 111, 117, 110, 100, 101, 100, 32]⟩ : ByteArray)) ++ t109) ++ (⟨#[32, 112, 97, 114, 97, 108, 108, 101, 108, 32]⟩ : ByteArray)) ++ t113) ++ (⟨#[32, 112, 111, 108, 121, 32]⟩ : ByteArray)) ++ t117)) else (none)) = some r := H
          have A21 := Aside0.mk A210
          clear A210
          by_cases c22 : (((((((((⟨#[109, 101, 101, 116, 105, 110, 103, 32]⟩ : ByteArray) ++ t105) ++ (⟨#[32, 114, 101, 103, 105, 111, 110, 115, 32]⟩ : ByteArray)) ++ t107) ++ (⟨#[32, 98, 111, 117, 110, 100, 101, 100, 32]⟩ : ByteArray)) ++ t109) ++ (⟨#[32, 112, 97, 114, 97, 108, 108, 101, 108, 32]⟩ : ByteArray)) ++ t113) ++ (⟨#[32, 112, 111, 108, 121, 32]⟩ : ByteArray)).size + t117.size ≤ 9223372036854775807
          ·rw [if_pos c22] at H
           have c22b0 := eq_true c22
           have c22b1 : decide ((((((((((⟨#[109, 101, 101, 116, 105, 110, 103, 32]⟩ : ByteArray) ++ t105) ++ (⟨#[32, 114, 101, 103, 105, 111, 110, 115, 32]⟩ : ByteArray)) ++ t107) ++ (⟨#[32, 98, 111, 117, 110, 100, 101, 100, 32]⟩ : ByteArray)) ++ t109) ++ (⟨#[32, 112, 97, 114, 97, 108, 108, 101, 108, 32]⟩ : ByteArray)) ++ t113) ++ (⟨#[32, 112, 111, 108, 121, 32]⟩ : ByteArray)).size + t117.size ≤ 9223372036854775807) = true := decide_eq_true c22
           try have c22b2 : (9223372036854775807 < (((((((((⟨#[109, 101, 101, 116, 105, 110, 103, 32]⟩ : ByteArray) ++ t105) ++ (⟨#[32, 114, 101, 103, 105, 111, 110, 115, 32]⟩ : ByteArray)) ++ t107) ++ (⟨#[32, 98, 111, 117, 110, 100, 101, 100, 32]⟩ : ByteArray)) ++ t109) ++ (⟨#[32, 112, 97, 114, 97, 108, 108, 101, 108, 32]⟩ : ByteArray)) ++ t113) ++ (⟨#[32, 112, 111, 108, 121, 32]⟩ : ByteArray)).size + t117.size) = False := eq_false (Nat.not_lt.2 c22)
           have c22s2 : (9223372036854775807 < 8 + t105.size + 9 + t107.size + 9 + t109.size + 10 + t113.size + 6 + t117.size) = False := eq_false (Nat.not_lt.2 (by have h_ := c22; simp only [ByteArray.size_append] at h_; exact h_))
           obtain rfl := Option.some.inj H
           go_enter Tryd.func5, Tryd.ntmps5
           go_wp2_with (first | ((with_reducible refine gate_callee (f := 9) rfl ?_); refine goesL_ (some 5) rfl rfl Tryd.func9 (by kernel_rfl) rfl #[.slice A0 l0.length c0] rfl (by (try simp only [List.map_toArray, List.map_cons, List.map_nil]); first | done | rfl | (simp only [List.length_drop, List.length_take]; rfl)) ?_; (with_reducible refine (spec_AreLines.calls k _ _ l0 true _ ?side1 ?side2 A2.out).mono ?_); (case side1 => repeat (first | exact HR0.out | (with_reducible refine Kd.C_alloc ?_ _) | (with_reducible refine Kd.C_drewN ?_ _) | (with_reducible refine Kd.C_drew ?_))); (case side2 => exact HC0.out); rintro e w23 ⟨rfl, hb⟩; refine ⟨_, rfl, ?_⟩; have n0_ := Aside0.mk (below_step (by repeat (first | (with_reducible first | exact HB.out | apply below_alloc | apply pw_below_drewN | apply below_drew1) | exact HB.out)) hb); clear HB; have HB := n0_; clear n0_; (try clear hb); (try clear hb2); (try clear hk); (try clear hi)) | ((with_reducible refine gate_callee (f := 11) rfl ?_); refine goesL_ (some 8) rfl rfl Tryd.func11 (by kernel_rfl) rfl #[.slice A0 l0.length c0] rfl (by (try simp only [List.map_toArray, List.map_cons, List.map_nil]); first | done | rfl | (simp only [List.length_drop, List.length_take]; rfl)) ?_; (with_reducible refine (spec_MeetingRow.calls k _ _ l0 t102 _ ?side1 ?side2 A4.out).mono ?_); (case side1 => repeat (first | exact (Kd.C_below HR0.out HB.out) | (with_reducible refine Kd.C_alloc ?_ _) | (with_reducible refine Kd.C_drewN ?_ _) | (with_reducible refine Kd.C_drew ?_))); (case side2 => exact HC0.out); rintro e w24 ⟨v103, rfl, ho0, hb⟩; refine ⟨_, rfl, ?_⟩; have n0_ := Aside0.mk (Kd.R_lower ho0 (below_size (by repeat (first | (with_reducible first | exact HB.out | apply below_alloc | apply pw_below_drewN | apply below_drew1) | exact HB.out)))); have n1_ := Aside0.mk (below_step (by repeat (first | (with_reducible first | exact HB.out | apply below_alloc | apply pw_below_drewN | apply below_drew1) | exact HB.out)) hb); clear HB; have HO104 := n0_; have HB := n1_; clear n0_ n1_; (try clear hb); (try clear hb2); (try clear hk); (try clear hi); (try clear ho0); obtain ⟨Ao25, co25, eo25⟩ := Kd.R_slice HO104.out; subst eo25) | ((with_reducible refine gate_callee (f := 10) rfl ?_); refine goesL_ (some 9) rfl rfl Tryd.func10 (by kernel_rfl) rfl #[.slice Ao25 t102.length co25] rfl (by (try simp only [List.map_toArray, List.map_cons, List.map_nil]); first | done | rfl | (simp only [List.length_drop, List.length_take]; rfl)) ?_; (with_reducible refine (spec_NumbersText.calls k _ _ t102 t105 _ ?side1 ?side2 A5.out).mono ?_); (case side1 => repeat (first | exact (Kd.R_reads' HO104.out).2.2 | (with_reducible refine Kd.C_alloc ?_ _) | (with_reducible refine Kd.C_drewN ?_ _) | (with_reducible refine Kd.C_drew ?_))); (case side2 => exact (Kd.R_reads' HO104.out).2.1); rintro e w26 ⟨rfl, hb⟩; refine ⟨_, rfl, ?_⟩; have n0_ := Aside0.mk (Kd.R_below (by (with_reducible repeat (first | apply Kd.R_alloc | apply Kd.R_drewN | apply Kd.R_drew)); exact HO104.out) hb); have n1_ := Aside0.mk (below_step (by repeat (first | (with_reducible first | exact HB.out | apply below_alloc | apply pw_below_drewN | apply below_drew1) | exact HB.out)) hb); clear HO104; clear HB; have HO104 := n0_; have HB := n1_; clear n0_ n1_; (try clear hb); (try clear hb2); (try clear hk); (try clear hi)) | ((with_reducible refine gate_callee (f := 13) rfl ?_); refine goesL_ (some 13) rfl rfl Tryd.func13 (by kernel_rfl) rfl #[.slice A0 l0.length c0] rfl (by (try simp only [List.map_toArray, List.map_cons, List.map_nil]); first | done | rfl | (simp only [List.length_drop, List.length_take]; rfl)) ?_; (with_reducible refine (spec_CountRegions.calls k _ _ l0 t106 _ ?side1 ?side2 A8.out).mono ?_); (case side1 => repeat (first | exact (Kd.C_below HR0.out HB.out) | (with_reducible refine Kd.C_alloc ?_ _) | (with_reducible refine Kd.C_drewN ?_ _) | (with_reducible refine Kd.C_drew ?_))); (case side2 => exact HC0.out); rintro e w27 ⟨rfl, hb⟩; refine ⟨_, rfl, ?_⟩; have n0_ := Aside0.mk (Kd.R_below (by (with_reducible repeat (first | apply Kd.R_alloc | apply Kd.R_drewN | apply Kd.R_drew)); exact HO104.out) hb); have n1_ := Aside0.mk (below_step (by repeat (first | (with_reducible first | exact HB.out | apply below_alloc | apply pw_below_drewN | apply below_drew1) | exact HB.out)) hb); clear HO104; clear HB; have HO104 := n0_; have HB := n1_; clear n0_ n1_; (try clear hb); (try clear hb2); (try clear hk); (try clear hi)) | ((with_reducible refine gate_callee (f := 12) rfl ?_); refine goesL_ (some 14) rfl rfl Tryd.func12 (by kernel_rfl) rfl #[.int .i64 t106] rfl (by (try simp only [List.map_toArray, List.map_cons, List.map_nil]); first | done | rfl | (simp only [List.length_drop, List.length_take]; rfl)) ?_; (with_reducible refine (spec_FormatInt.calls k t106 t107 _ A9.out).mono ?_); rintro e w28 ⟨rfl, hb⟩; refine ⟨_, rfl, ?_⟩; have n0_ := Aside0.mk (Kd.R_below (by (with_reducible repeat (first | apply Kd.R_alloc | apply Kd.R_drewN | apply Kd.R_drew)); exact HO104.out) hb); have n1_ := Aside0.mk (below_step (by repeat (first | (with_reducible first | exact HB.out | apply below_alloc | apply pw_below_drewN | apply below_drew1) | exact HB.out)) hb); clear HO104; clear HB; have HO104 := n0_; have HB := n1_; clear n0_ n1_; (try clear hb); (try clear hb2); (try clear hk); (try clear hi)) | ((with_reducible refine gate_callee (f := 14) rfl ?_); refine goesL_ (some 18) rfl rfl Tryd.func14 (by kernel_rfl) rfl #[.slice A0 l0.length c0] rfl (by (try simp only [List.map_toArray, List.map_cons, List.map_nil]); first | done | rfl | (simp only [List.length_drop, List.length_take]; rfl)) ?_; (with_reducible refine (spec_CountBounded.calls k _ _ l0 t108 _ ?side1 ?side2 A12.out).mono ?_); (case side1 => repeat (first | exact (Kd.C_below HR0.out HB.out) | (with_reducible refine Kd.C_alloc ?_ _) | (with_reducible refine Kd.C_drewN ?_ _) | (with_reducible refine Kd.C_drew ?_))); (case side2 => exact HC0.out); rintro e w29 ⟨rfl, hb⟩; refine ⟨_, rfl, ?_⟩; have n0_ := Aside0.mk (Kd.R_below (by (with_reducible repeat (first | apply Kd.R_alloc | apply Kd.R_drewN | apply Kd.R_drew)); exact HO104.out) hb); have n1_ := Aside0.mk (below_step (by repeat (first | (with_reducible first | exact HB.out | apply below_alloc | apply pw_below_drewN | apply below_drew1) | exact HB.out)) hb); clear HO104; clear HB; have HO104 := n0_; have HB := n1_; clear n0_ n1_; (try clear hb); (try clear hb2); (try clear hk); (try clear hi)) | ((with_reducible refine gate_callee (f := 12) rfl ?_); refine goesL_ (some 19) rfl rfl Tryd.func12 (by kernel_rfl) rfl #[.int .i64 t108] rfl (by (try simp only [List.map_toArray, List.map_cons, List.map_nil]); first | done | rfl | (simp only [List.length_drop, List.length_take]; rfl)) ?_; (with_reducible refine (spec_FormatInt.calls k t108 t109 _ A13.out).mono ?_); rintro e w30 ⟨rfl, hb⟩; refine ⟨_, rfl, ?_⟩; have n0_ := Aside0.mk (Kd.R_below (by (with_reducible repeat (first | apply Kd.R_alloc | apply Kd.R_drewN | apply Kd.R_drew)); exact HO104.out) hb); have n1_ := Aside0.mk (below_step (by repeat (first | (with_reducible first | exact HB.out | apply below_alloc | apply pw_below_drewN | apply below_drew1) | exact HB.out)) hb); clear HO104; clear HB; have HO104 := n0_; have HB := n1_; clear n0_ n1_; (try clear hb); (try clear hb2); (try clear hk); (try clear hi)) | ((with_reducible refine gate_callee (f := 15) rfl ?_); refine goesL_ (some 24) rfl rfl Tryd.func15 (by kernel_rfl) rfl #[.slice A0 l0.length c0] rfl (by (try simp only [List.map_toArray, List.map_cons, List.map_nil]); first | done | rfl | (simp only [List.length_drop, List.length_take]; rfl)) ?_; (with_reducible refine (spec_ParallelClasses.calls k _ _ l0 t110 _ ?side1 ?side2 A16.out).mono ?_); (case side1 => repeat (first | exact (Kd.C_below HR0.out HB.out) | (with_reducible refine Kd.C_alloc ?_ _) | (with_reducible refine Kd.C_drewN ?_ _) | (with_reducible refine Kd.C_drew ?_))); (case side2 => exact HC0.out); rintro e w31 ⟨v111, rfl, ho0, hb⟩; refine ⟨_, rfl, ?_⟩; have n0_ := Aside0.mk (Kd.R_elder' (by (with_reducible repeat (first | apply Kd.R_alloc | apply Kd.R_drewN | apply Kd.R_drew)); exact HO104.out) (Kd.R_base ho0) hb); have n1_ := Aside0.mk (Kd.R_lower (Kd.R_new' ho0 (Kd.R_lt (by (with_reducible repeat (first | apply Kd.R_alloc | apply Kd.R_drewN | apply Kd.R_drew)); exact HO104.out))) (below_size (by repeat (first | (with_reducible first | exact HB.out | apply below_alloc | apply pw_below_drewN | apply below_drew1) | exact HB.out)))); have n2_ := Aside0.mk (below_step (by repeat (first | (with_reducible first | exact HB.out | apply below_alloc | apply pw_below_drewN | apply below_drew1) | exact HB.out)) hb); clear HO104; clear HB; have HO104 := n0_; have HO112 := n1_; have HB := n2_; clear n0_ n1_ n2_; (try clear hb); (try clear hb2); (try clear hk); (try clear hi); (try clear ho0); obtain ⟨Ao32, co32, eo32⟩ := Kd.R_slice HO112.out; subst eo32) | ((with_reducible refine gate_callee (f := 10) rfl ?_); refine goesL_ (some 25) rfl rfl Tryd.func10 (by kernel_rfl) rfl #[.slice Ao32 t110.length co32] rfl (by (try simp only [List.map_toArray, List.map_cons, List.map_nil]); first | done | rfl | (simp only [List.length_drop, List.length_take]; rfl)) ?_; (with_reducible refine (spec_NumbersText.calls k _ _ t110 t113 _ ?side1 ?side2 A17.out).mono ?_); (case side1 => repeat (first | exact (Kd.R_reads' HO112.out).2.2 | (with_reducible refine Kd.C_alloc ?_ _) | (with_reducible refine Kd.C_drewN ?_ _) | (with_reducible refine Kd.C_drew ?_))); (case side2 => exact (Kd.R_reads' HO112.out).2.1); rintro e w33 ⟨rfl, hb⟩; refine ⟨_, rfl, ?_⟩; have n0_ := Aside0.mk (Kd.R_below (by (with_reducible repeat (first | apply Kd.R_alloc | apply Kd.R_drewN | apply Kd.R_drew)); exact HO104.out) hb); have n1_ := Aside0.mk (Kd.R_below (by (with_reducible repeat (first | apply Kd.R_alloc | apply Kd.R_drewN | apply Kd.R_drew)); exact HO112.out) hb); have n2_ := Aside0.mk (below_step (by repeat (first | (with_reducible first | exact HB.out | apply below_alloc | apply pw_below_drewN | apply below_drew1) | exact HB.out)) hb); clear HO104; clear HO112; clear HB; have HO104 := n0_; have HO112 := n1_; have HB := n2_; clear n0_ n1_ n2_; (try clear hb); (try clear hb2); (try clear hk); (try clear hi)) | ((with_reducible refine gate_callee (f := 16) rfl ?_); refine goesL_ (some 29) rfl rfl Tryd.func16 (by kernel_rfl) rfl #[.slice A0 l0.length c0] rfl (by (try simp only [List.map_toArray, List.map_cons, List.map_nil]); first | done | rfl | (simp only [List.length_drop, List.length_take]; rfl)) ?_; (with_reducible refine (spec_LinePoly.calls k _ _ l0 t114 _ ?side1 ?side2 A20.out).mono ?_); (case side1 => repeat (first | exact (Kd.C_below HR0.out HB.out) | (with_reducible refine Kd.C_alloc ?_ _) | (with_reducible refine Kd.C_drewN ?_ _) | (with_reducible refine Kd.C_drew ?_))); (case side2 => exact HC0.out); rintro e w34 ⟨v115, rfl, ho0, hb⟩; refine ⟨_, rfl, ?_⟩; have n0_ := Aside0.mk (Kd.R_elder' (by (with_reducible repeat (first | apply Kd.R_alloc | apply Kd.R_drewN | apply Kd.R_drew)); exact HO104.out) (Kd.R_base ho0) hb); have n1_ := Aside0.mk (Kd.R_elder' (by (with_reducible repeat (first | apply Kd.R_alloc | apply Kd.R_drewN | apply Kd.R_drew)); exact HO112.out) (Kd.R_base ho0) hb); have n2_ := Aside0.mk (Kd.R_lower (Kd.R_new' (Kd.R_new' ho0 (Kd.R_lt (by (with_reducible repeat (first | apply Kd.R_alloc | apply Kd.R_drewN | apply Kd.R_drew)); exact HO104.out))) (Kd.R_lt (by (with_reducible repeat (first | apply Kd.R_alloc | apply Kd.R_drewN | apply Kd.R_drew)); exact HO112.out))) (below_size (by repeat (first | (with_reducible first | exact HB.out | apply below_alloc | apply pw_below_drewN | apply below_drew1) | exact HB.out)))); have n3_ := Aside0.mk (below_step (by repeat (first | (with_reducible first | exact HB.out | apply below_alloc | apply pw_below_drewN | apply below_drew1) | exact HB.out)) hb); clear HO104; clear HO112; clear HB; have HO104 := n0_; have HO112 := n1_; have HO116 := n2_; have HB := n3_; clear n0_ n1_ n2_ n3_; (try clear hb); (try clear hb2); (try clear hk); (try clear hi); (try clear ho0); obtain ⟨Ao35, co35, eo35⟩ := Kd.R_slice HO116.out; subst eo35) | ((with_reducible refine gate_callee (f := 10) rfl ?_); refine goesL_ (some 30) rfl rfl Tryd.func10 (by kernel_rfl) rfl #[.slice Ao35 t114.length co35] rfl (by (try simp only [List.map_toArray, List.map_cons, List.map_nil]); first | done | rfl | (simp only [List.length_drop, List.length_take]; rfl)) ?_; (with_reducible refine (spec_NumbersText.calls k _ _ t114 t117 _ ?side1 ?side2 A21.out).mono ?_); (case side1 => repeat (first | exact (Kd.R_reads' HO116.out).2.2 | (with_reducible refine Kd.C_alloc ?_ _) | (with_reducible refine Kd.C_drewN ?_ _) | (with_reducible refine Kd.C_drew ?_))); (case side2 => exact (Kd.R_reads' HO116.out).2.1); rintro e w36 ⟨rfl, hb⟩; refine ⟨_, rfl, ?_⟩; have n0_ := Aside0.mk (Kd.R_below (by (with_reducible repeat (first | apply Kd.R_alloc | apply Kd.R_drewN | apply Kd.R_drew)); exact HO104.out) hb); have n1_ := Aside0.mk (Kd.R_below (by (with_reducible repeat (first | apply Kd.R_alloc | apply Kd.R_drewN | apply Kd.R_drew)); exact HO112.out) hb); have n2_ := Aside0.mk (Kd.R_below (by (with_reducible repeat (first | apply Kd.R_alloc | apply Kd.R_drewN | apply Kd.R_drew)); exact HO116.out) hb); have n3_ := Aside0.mk (below_step (by repeat (first | (with_reducible first | exact HB.out | apply below_alloc | apply pw_below_drewN | apply below_drew1) | exact HB.out)) hb); clear HO104; clear HO112; clear HO116; clear HB; have HO104 := n0_; have HO112 := n1_; have HO116 := n2_; have HB := n3_; clear n0_ n1_ n2_ n3_; (try clear hb); (try clear hb2); (try clear hk); (try clear hi)))
           go_ret
           exact ⟨by first | rfl | (simp [errW_none, errW_some] <;> rfl) | (simp [*, errW_none, errW_some] <;> rfl), by repeat (first | (with_reducible first | exact HB.out | apply below_alloc | apply pw_below_drewN | apply below_drew1) | exact HB.out)⟩
          ·rw [if_neg c22] at H
           exact absurd H (by simp)
         ·rw [if_neg c19] at H
          exact absurd H (by simp)
        ·rw [if_neg c18] at H
         exact absurd H (by simp)
       ·rw [if_neg c15] at H
        exact absurd H (by simp)
      ·rw [if_neg c14] at H
       exact absurd H (by simp)
     ·rw [if_neg c11] at H
      exact absurd H (by simp)
    ·rw [if_neg c10] at H
     exact absurd H (by simp)
   ·rw [if_neg c7] at H
    exact absurd H (by simp)
  ·rw [if_neg c6] at H
   exact absurd H (by simp)
 ·replace c3 := Bool.eq_false_iff.mpr c3
  subst c3
  have H1 : (some (⟨#[]⟩ : ByteArray)) = some r := by rw [if_neg (show ¬ (false = true) by decide)] at H; exact H
  clear H
  have H := H1
  clear H1
  obtain rfl := Option.some.inj H
  go_enter Tryd.func5, Tryd.ntmps5
  go_wp2_with (first | ((with_reducible refine gate_callee (f := 9) rfl ?_); refine goesL_ (some 5) rfl rfl Tryd.func9 (by kernel_rfl) rfl #[.slice A0 l0.length c0] rfl (by (try simp only [List.map_toArray, List.map_cons, List.map_nil]); first | done | rfl | (simp only [List.length_drop, List.length_take]; rfl)) ?_; (with_reducible refine (spec_AreLines.calls k _ _ l0 false _ ?side1 ?side2 A2.out).mono ?_); (case side1 => repeat (first | exact HR0.out | (with_reducible refine Kd.C_alloc ?_ _) | (with_reducible refine Kd.C_drewN ?_ _) | (with_reducible refine Kd.C_drew ?_))); (case side2 => exact HC0.out); rintro e w37 ⟨rfl, hb⟩; refine ⟨_, rfl, ?_⟩; have n0_ := Aside0.mk (below_step (by repeat (first | (with_reducible first | exact HB.out | apply below_alloc | apply pw_below_drewN | apply below_drew1) | exact HB.out)) hb); clear HB; have HB := n0_; clear n0_; (try clear hb); (try clear hb2); (try clear hk); (try clear hi)))
  go_ret
  exact ⟨by first | rfl | (simp [errW_none, errW_some] <;> rfl) | (simp [*, errW_none, errW_some] <;> rfl), by repeat (first | (with_reducible first | exact HB.out | apply below_alloc | apply pw_below_drewN | apply below_drew1) | exact HB.out)⟩
end Go.Proofs.YtecpobpcimehlaaDoor.P

namespace Go.Proofs.YtecpobpcimehlaaDoor.P
open Go.RowKit Go.Proofs.YtecpobpcimehlaaDoorW.PrintWords Go.Proofs.YtecpobpcimehlaaDoorW.PrintLast Go.Proofs.YtecpobpcimehlaaDoorW.PrintMore
attribute [local go_sem] max2_int min2_int max_two min_two max_three min_three max_four min_four   -- for this text's walks alone
set_option linter.unusedVariables false
set_option linter.unusedSimpArgs false
/-! ### laws_toLine: function 17 -/
def laws_toLine.f (a0_0 : Int) (a0_1 : Int) (a0_2 : Int) : Option (Int × Int × Int) := some (a0_0, a0_1, a0_2)
set_option maxHeartbeats 8000000 in
set_option maxRecDepth 100000 in
theorem laws_toLine.calls (a0_0 : Int) (a0_1 : Int) (a0_2 : Int) (r1 : Int) (r2 : Int) (r3 : Int) (w : World) (h : laws_toLine.f a0_0 a0_1 a0_2 = some (r1, r2, r3)) :
  Calls Tryd.prog 17 #[.agg #[.int .i64 a0_0, .int .i64 a0_1, .int .i64 a0_2]] w fun e w' => e = .returned (.agg #[.int .i64 r1, .int .i64 r2, .int .i64 r3]) ∧ Below w.heap.size w w' := by
 have hu38 := Tryd.underlying38
 have hu36 := Tryd.underlying36
 have HB := Aside0.mk (Below.refl w.heap.size w)
 have H : (some (a0_0, a0_1, a0_2)) = some (r1, r2, r3) := h
 clear h
 simp only [Option.some.injEq, Prod.mk.injEq] at H
 obtain ⟨rfl, rfl, rfl⟩ := H
 go_enter Tryd.func17, Tryd.ntmps17
 go_wp2_with (first | ((with_reducible refine gate_dst (N := 1) rfl ?_); refine box_event ?hg (N := 1) ?hd (cs := #[.int .i64 a0_0, .int .i64 a0_1, .int .i64 a0_2]) (t := 38) ?hr ?_; (case hd => rfl); (case hg => rfl); (case hr => first | (go_simp; done) | (go_simp; rfl)); intro gb101 hg w2 hbox hb; have n0_ := Aside0.mk (below_step (by repeat (first | (with_reducible first | exact HB.out | apply below_alloc | apply pw_below_drewN | apply below_drew1) | exact HB.out)) hb); have n1_ := Aside0.mk (hbox); have n2_ := Aside0.mk ((by rw [hg]; exact (below_size (by repeat (first | (with_reducible first | exact HB.out | apply below_alloc | apply pw_below_drewN | apply below_drew1) | exact HB.out))) : w.heap.size ≤ gb101)); have n3_ := Aside0.mk ((by rw [hg]; exact (below_size (by repeat (first | (with_reducible first | exact HB.out | apply below_alloc | apply pw_below_drewN | apply below_drew1) | exact HB.out))) : w.heap.size ≤ gb101)); clear HB; have HB := n0_; have BK101 := n1_; have GW101 := n2_; have GE101 := n3_; clear n0_ n1_ n2_ n3_; clear hb hbox hg) | ((with_reducible refine gate_dst (N := 2) rfl ?_); refine box_event ?hg (N := 2) ?hd (cs := #[.int .i64 0, .int .i64 0, .int .i64 0]) (t := 36) ?hr ?_; (case hd => rfl); (case hg => rfl); (case hr => first | (go_simp; done) | (go_simp; rfl)); intro gb102 hg w3 hbox hb; have n0_ := Aside0.mk (blk_below (g := gb101) (o := .cells #[.int .i64 a0_0, .int .i64 a0_1, .int .i64 a0_2] 38 (0, 0)) (by (with_reducible repeat (first | refine blk_drewN ?_ _ | refine blk_drew ?_ | refine blk_alloc ?_ _)); exact BK101.out) hb); have n1_ := Aside0.mk (below_step (by repeat (first | (with_reducible first | exact HB.out | apply below_alloc | apply pw_below_drewN | apply below_drew1 | refine below_set ?_ GE101.out) | exact HB.out)) hb); have n2_ := Aside0.mk (hbox); have n3_ := Aside0.mk ((by rw [hg]; exact (below_size (by repeat (first | (with_reducible first | exact HB.out | apply below_alloc | apply pw_below_drewN | apply below_drew1 | refine below_set ?_ GE101.out) | exact HB.out))) : w.heap.size ≤ gb102)); have n4_ := Aside0.mk ((by rw [hg]; exact (below_size (by repeat (first | (with_reducible first | exact HB.out | apply below_alloc | apply pw_below_drewN | apply below_drew1 | refine below_set ?_ GE101.out) | exact HB.out))) : w.heap.size ≤ gb102)); have n5_ := Aside0.mk ((by rw [hg]; exact Nat.ne_of_lt (blk_lt (g := gb101) (o := .cells #[.int .i64 a0_0, .int .i64 a0_1, .int .i64 a0_2] 38 (0, 0)) (by (with_reducible repeat (first | refine blk_drewN ?_ _ | refine blk_drew ?_ | refine blk_alloc ?_ _)); exact BK101.out)) : gb101 ≠ gb102)); have n6_ := Aside0.mk ((by rw [hg]; exact Nat.ne_of_gt (blk_lt (g := gb101) (o := .cells #[.int .i64 a0_0, .int .i64 a0_1, .int .i64 a0_2] 38 (0, 0)) (by (with_reducible repeat (first | refine blk_drewN ?_ _ | refine blk_drew ?_ | refine blk_alloc ?_ _)); exact BK101.out)) : gb102 ≠ gb101)); clear BK101; clear HB; have BK101 := n0_; have HB := n1_; have BK102 := n2_; have GW102 := n3_; have GE102 := n4_; have NB101_102 := n5_; have NB102_101 := n6_; clear n0_ n1_ n2_ n3_ n4_ n5_ n6_; clear hb hbox hg) | ((with_reducible refine gate_dst (N := 3) rfl ?_); refine box_event ?hg (N := 3) ?hd (cs := #[.int .i64 0, .int .i64 0, .int .i64 0]) (t := 36) ?hr ?_; (case hd => rfl); (case hg => rfl); (case hr => first | (go_simp; done) | (go_simp; rfl)); intro gb103 hg w4 hbox hb; have n0_ := Aside0.mk (blk_below (g := gb101) (o := .cells #[.int .i64 a0_0, .int .i64 a0_1, .int .i64 a0_2] 38 (0, 0)) (by (with_reducible repeat (first | refine blk_drewN ?_ _ | refine blk_drew ?_ | refine blk_alloc ?_ _)); exact BK101.out) hb); have n1_ := Aside0.mk (blk_below (g := gb102) (o := .cells #[.int .i64 0, .int .i64 0, .int .i64 0] 36 (0, 0)) (by (with_reducible repeat (first | refine blk_drewN ?_ _ | refine blk_drew ?_ | refine blk_alloc ?_ _)); exact BK102.out) hb); have n2_ := Aside0.mk (below_step (by repeat (first | (with_reducible first | exact HB.out | apply below_alloc | apply pw_below_drewN | apply below_drew1 | refine below_set ?_ GE101.out | refine below_set ?_ GE102.out) | exact HB.out)) hb); have n3_ := Aside0.mk (hbox); have n4_ := Aside0.mk ((by rw [hg]; exact (below_size (by repeat (first | (with_reducible first | exact HB.out | apply below_alloc | apply pw_below_drewN | apply below_drew1 | refine below_set ?_ GE101.out | refine below_set ?_ GE102.out) | exact HB.out))) : w.heap.size ≤ gb103)); have n5_ := Aside0.mk ((by rw [hg]; exact (below_size (by repeat (first | (with_reducible first | exact HB.out | apply below_alloc | apply pw_below_drewN | apply below_drew1 | refine below_set ?_ GE101.out | refine below_set ?_ GE102.out) | exact HB.out))) : w.heap.size ≤ gb103)); have n6_ := Aside0.mk ((by rw [hg]; exact Nat.ne_of_lt (blk_lt (g := gb101) (o := .cells #[.int .i64 a0_0, .int .i64 a0_1, .int .i64 a0_2] 38 (0, 0)) (by (with_reducible repeat (first | refine blk_drewN ?_ _ | refine blk_drew ?_ | refine blk_alloc ?_ _)); exact BK101.out)) : gb101 ≠ gb103)); have n7_ := Aside0.mk ((by rw [hg]; exact Nat.ne_of_gt (blk_lt (g := gb101) (o := .cells #[.int .i64 a0_0, .int .i64 a0_1, .int .i64 a0_2] 38 (0, 0)) (by (with_reducible repeat (first | refine blk_drewN ?_ _ | refine blk_drew ?_ | refine blk_alloc ?_ _)); exact BK101.out)) : gb103 ≠ gb101)); have n8_ := Aside0.mk ((by rw [hg]; exact Nat.ne_of_lt (blk_lt (g := gb102) (o := .cells #[.int .i64 0, .int .i64 0, .int .i64 0] 36 (0, 0)) (by (with_reducible repeat (first | refine blk_drewN ?_ _ | refine blk_drew ?_ | refine blk_alloc ?_ _)); exact BK102.out)) : gb102 ≠ gb103)); have n9_ := Aside0.mk ((by rw [hg]; exact Nat.ne_of_gt (blk_lt (g := gb102) (o := .cells #[.int .i64 0, .int .i64 0, .int .i64 0] 36 (0, 0)) (by (with_reducible repeat (first | refine blk_drewN ?_ _ | refine blk_drew ?_ | refine blk_alloc ?_ _)); exact BK102.out)) : gb103 ≠ gb102)); clear BK101; clear BK102; clear HB; have BK101 := n0_; have BK102 := n1_; have HB := n2_; have BK103 := n3_; have GW103 := n4_; have GE103 := n5_; have NB101_103 := n6_; have NB103_101 := n7_; have NB102_103 := n8_; have NB103_102 := n9_; clear n0_ n1_ n2_ n3_ n4_ n5_ n6_ n7_ n8_ n9_; clear hb hbox hg; have hnb5 := NB101_102.out; have hnc5 := NB102_101.out; have hnb6 := NB101_103.out; have hnc6 := NB103_101.out; have hcz7_0 : w4.cell? ⟨gb101, 0, none⟩ = some (.int .i64 a0_0) := (blk_cell BK101.out 0).trans rfl; have hcz7_1 : w4.cell? ⟨gb101, 1, none⟩ = some (.int .i64 a0_1) := (blk_cell BK101.out 1).trans rfl; have hcz7_2 : w4.cell? ⟨gb101, 2, none⟩ = some (.int .i64 a0_2) := (blk_cell BK101.out 2).trans rfl; have hfz7_0 := blk_frozen BK101.out 0; have hfz7_1 := blk_frozen BK101.out 1; have hfz7_2 := blk_frozen BK101.out 2; have hnb8 := NB103_102.out; have hnc8 := NB102_103.out; have hcz9_0 : w4.cell? ⟨gb103, 0, none⟩ = some (.int .i64 0) := (blk_cell BK103.out 0).trans rfl; have hcz9_1 : w4.cell? ⟨gb103, 1, none⟩ = some (.int .i64 0) := (blk_cell BK103.out 1).trans rfl; have hcz9_2 : w4.cell? ⟨gb103, 2, none⟩ = some (.int .i64 0) := (blk_cell BK103.out 2).trans rfl; have hfz9_0 := blk_frozen BK103.out 0; have hfz9_1 := blk_frozen BK103.out 1; have hfz9_2 := blk_frozen BK103.out 2; have hcz10_0 : w4.cell? ⟨gb102, 0, none⟩ = some (.int .i64 0) := (blk_cell BK102.out 0).trans rfl; have hcz10_1 : w4.cell? ⟨gb102, 1, none⟩ = some (.int .i64 0) := (blk_cell BK102.out 1).trans rfl; have hcz10_2 : w4.cell? ⟨gb102, 2, none⟩ = some (.int .i64 0) := (blk_cell BK102.out 2).trans rfl; have hfz10_0 := blk_frozen BK102.out 0; have hfz10_1 := blk_frozen BK102.out 1; have hfz10_2 := blk_frozen BK102.out 2))
 refine bodyPost_ret (results_cell_row rfl _ _ gb102 36 #[.int .i64 a0_0, .int .i64 a0_1, .int .i64 a0_2] (0, 0) _ rfl (by (with_reducible repeat (first | refine blk_drewN ?_ _ | refine blk_drew ?_ | refine blk_alloc ?_ _)); refine blk_put (cs := #[.int .i64 a0_0, .int .i64 a0_1, .int .i64 0]) ?_ 2 _ rfl; (with_reducible repeat (first | refine blk_drewN ?_ _ | refine blk_drew ?_ | refine blk_alloc ?_ _)); refine blk_put (cs := #[.int .i64 a0_0, .int .i64 0, .int .i64 0]) ?_ 1 _ rfl; (with_reducible repeat (first | refine blk_drewN ?_ _ | refine blk_drew ?_ | refine blk_alloc ?_ _)); refine blk_put (cs := #[.int .i64 0, .int .i64 0, .int .i64 0]) ?_ 0 _ rfl; (with_reducible repeat (first | refine blk_drewN ?_ _ | refine blk_drew ?_ | refine blk_alloc ?_ _)); refine blk_far ?_ NB102_103.out _; (with_reducible repeat (first | refine blk_drewN ?_ _ | refine blk_drew ?_ | refine blk_alloc ?_ _)); refine blk_far ?_ NB102_103.out _; (with_reducible repeat (first | refine blk_drewN ?_ _ | refine blk_drew ?_ | refine blk_alloc ?_ _)); refine blk_far ?_ NB102_103.out _; (with_reducible repeat (first | refine blk_drewN ?_ _ | refine blk_drew ?_ | refine blk_alloc ?_ _)); exact BK102.out) Tryd.underlying36 rfl (by kernel_rfl)) rfl ?_
 exact ⟨by first | rfl | (simp [errW_none, errW_some] <;> rfl) | (simp [*, errW_none, errW_some] <;> rfl), by repeat (first | (with_reducible first | exact HB.out | apply below_alloc | apply pw_below_drewN | apply below_drew1 | refine below_set ?_ GE101.out | refine below_set ?_ GE102.out | refine below_set ?_ GE103.out) | exact HB.out)⟩
end Go.Proofs.YtecpobpcimehlaaDoor.P

namespace Go.Proofs.YtecpobpcimehlaaDoor.P
open Go.RowKit Go.Proofs.YtecpobpcimehlaaDoorW.PrintWords Go.Proofs.YtecpobpcimehlaaDoorW.PrintLast Go.Proofs.YtecpobpcimehlaaDoorW.PrintMore
attribute [local go_sem] max2_int min2_int max_two min_two max_three min_three max_four min_four   -- for this text's walks alone
set_option linter.unusedVariables false
set_option linter.unusedSimpArgs false
/-! ### laws_toLineS: function 6 -/
def laws_toLineS.l0 : Nat → List (S38) → List (S36) → Int → Option ((List (S36)))
 | 0, _, _, _ => none
 | k + 1, x0, x3, x4 => if x4 < (x0.length : Int) then (if 0 ≤ x4 then ((laws_toLine.f ((rd_T38 x0 x4).f0) ((rd_T38 x0 x4).f1) ((rd_T38 x0 x4).f2)).bind fun bt105 => (if x4 < (x3.length : Int) then (laws_toLineS.l0 k x0 (x3.set (x4 : Int).toNat (⟨bt105.1, bt105.2.1, bt105.2.2⟩ : S36)) (wrap64 (x4 + 1))) else (none))) else (none)) else (some x3)
def laws_toLineS.f (k : Nat) (l0 : List (S38)) : Option ((List (S36))) := if 0 ≤ (l0.length : Int) then (if ((l0.length : Int) : Int).toNat ≤ 11728124029610 then (laws_toLineS.l0 k l0 (List.replicate ((l0.length : Int) : Int).toNat z36) 0) else (none)) else (none)
set_option maxHeartbeats 8000000 in
set_option maxRecDepth 100000 in
theorem laws_toLineS.calls (k : Nat) (A0 : Option Addr) (c0 : Nat) (l0 : List (S38)) (r : List (S36)) (w : World) (hr0 : Kd.C k38 w A0 l0.length l0) (hc0 : l0.length ≤ c0) (h : laws_toLineS.f k l0 = some r) :
  Calls Tryd.prog 6 #[.slice A0 l0.length c0] w fun e w' => ∃ v0_ : Value, e = .returned (v0_) ∧ Kd.R k36 36 w' w.heap.size (fun _ => True) v0_ r ∧ Below w.heap.size w w' := by
 have hu38 := Tryd.underlying38
 have hu36 := Tryd.underlying36
 have HR0 := Aside0.mk hr0
 have HC0 := Aside0.mk hc0
 clear hr0 hc0
 have HB := Aside0.mk (Below.refl w.heap.size w)
 have H : (if 0 ≤ (l0.length : Int) then (if ((l0.length : Int) : Int).toNat ≤ 11728124029610 then (laws_toLineS.l0 k l0 (List.replicate ((l0.length : Int) : Int).toNat z36) 0) else (none)) else (none)) = some r := h
 clear h
 by_cases c2 : 0 ≤ (l0.length : Int)
 ·rw [if_pos c2] at H
  have c2b0 := eq_true c2
  have c2b1 : decide (0 ≤ (l0.length : Int)) = true := decide_eq_true c2
  clear c2
  by_cases c3 : ((l0.length : Int) : Int).toNat ≤ 11728124029610
  ·rw [if_pos c3] at H
   have c3b0 := eq_true c3
   have c3b1 : decide (((l0.length : Int) : Int).toNat ≤ 11728124029610) = true := decide_eq_true c3
   clear c3
   obtain ⟨y101, hy101⟩ : ∃ y_ : List (S36), y_ = (List.replicate ((l0.length : Int) : Int).toNat z36) := ⟨_, rfl⟩
   replace H : (laws_toLineS.l0 k l0 y101 0) = some r := by first | (rw [hy101]; with_reducible exact H) | (have H2_ := (Option.bind_some _ _).symm.trans H; rw [hy101]; with_reducible exact H2_) | (have H2_ := (Option.bind_some _ _).symm.trans H; with_reducible exact H2_) | with_reducible exact H | (rw [hy101]; exact H) | exact H
   have Ny101 := Aside0.mk hy101
   clear hy101
   have H' := Aside0.mk H
   clear H
   go_enter Tryd.func6, Tryd.ntmps6
   go_wp2_with (first | ((with_reducible refine gate_dst (N := 7) rfl ?_); refine Kd.R_make k36 _ 36 rfl (N := 7) rfl 25 _ _ rfl (l0.length : Int) rfl rfl Tryd.underlying25 (.agg #[(.int .i64 0), (.int .i64 0), (.int .i64 0)]) 24 info36 rfl (by decide) (by omega) z36 (ok := fun _ => True) (okp := fun _ => True) (k36_mkM _ _ _ z36 ) (fun _ hk => hk) trivial (of_decide_eq_true (by first | (with_reducible assumption) | assumption)) (Nat.le_trans (Nat.mul_le_mul_right _ (of_decide_eq_true (by first | (with_reducible assumption) | assumption) : (l0.length : Int).toNat ≤ 11728124029610)) (by omega)) (Below.refl _ _) (Nat.le_refl _) ?_; intro v102 w4 ho5 hb hg_ hnew_; clear hg_ hnew_; (first | rw [← Ny101.out] at ho5 | (simp only [Int.reduceToNat] at ho5; rw [← Ny101.out] at ho5)); have n0_ := Aside0.mk (Kd.R_lower ho5 (below_size (by repeat (first | (with_reducible first | exact HB.out | apply below_alloc | apply pw_below_drewN | apply below_drew1) | exact HB.out)))); have n1_ := Aside0.mk (below_step (by repeat (first | (with_reducible first | exact HB.out | apply below_alloc | apply pw_below_drewN | apply below_drew1) | exact HB.out)) hb); clear HB; have HO103 := n0_; have HB := n1_; clear n0_ n1_; clear hb ho5))
   go_loopg [4] k (fun kq v4 w' => ∃ (x3_1 : List (S36)) (x4_1 : Int), v4 = .int .i64 x4_1 ∧ Aside0 (laws_toLineS.l0 kq l0 x3_1 x4_1 = some r) ∧ Aside0 (kq ≤ k) ∧ Aside0 (Kd.R k36 36 w' w.heap.size (fun _ => True) v102 x3_1) ∧ Aside0 (Below w.heap.size w w'))
   case atStart => exact ⟨(y101), (0), (by first | rfl | (simp; done) | (simp [*]; done)), H', ⟨Nat.le_refl _⟩, ⟨by (with_reducible repeat (first | apply Kd.R_alloc | apply Kd.R_drewN | apply Kd.R_drew)); exact HO103.out⟩, ⟨by repeat (first | (with_reducible first | exact HB.out | apply below_alloc | apply pw_below_drewN | apply below_drew1) | exact HB.out)⟩⟩
   case round =>
    clear H'
    try clear c2
    try clear c2b0
    try clear c2b1
    try clear c3
    try clear c3b0
    try clear c3b1
    obtain ⟨x3_1, x4_1, rfl, HA, HK1, HO_3, HB⟩ := hrel
    cases gk with
    | zero => exact absurd HA.out (by simp [laws_toLineS.l0])
    | succ k1 =>
     have H := HA.out
     clear HA
     simp only [laws_toLineS.l0] at H
     by_cases c6 : x4_1 < (l0.length : Int)
     ·rw [if_pos c6] at H
      have c6b0 : decide (x4_1 < (l0.length : Int)) = true := decide_eq_true c6
      clear c6
      by_cases c7 : 0 ≤ x4_1
      ·rw [if_pos c7] at H
       have c7b0 : decide (0 ≤ x4_1) = true := decide_eq_true c7
       clear c7
       replace H := Option.bind_eq_some_iff.mp H
       obtain ⟨⟨t105, t106, t107⟩, A80, H⟩ := H
       replace H : (if x4_1 < (x3_1.length : Int) then (laws_toLineS.l0 k1 l0 (x3_1.set (x4_1 : Int).toNat (⟨t105, t106, t107⟩ : S36)) (wrap64 (x4_1 + 1))) else (none)) = some r := H
       have A8 := Aside0.mk A80
       clear A80
       by_cases c9 : x4_1 < (x3_1.length : Int)
       ·rw [if_pos c9] at H
        have c9b0 : decide (x4_1 < (x3_1.length : Int)) = true := decide_eq_true c9
        clear c9
        obtain ⟨y108, hy108⟩ : ∃ y_ : List (S36), y_ = (x3_1.set (x4_1 : Int).toNat (⟨t105, t106, t107⟩ : S36)) := ⟨_, rfl⟩
        replace H : (laws_toLineS.l0 k1 l0 y108 (wrap64 (x4_1 + 1))) = some r := by first | (rw [hy108]; with_reducible exact H) | (have H2_ := (Option.bind_some _ _).symm.trans H; rw [hy108]; with_reducible exact H2_) | (have H2_ := (Option.bind_some _ _).symm.trans H; with_reducible exact H2_) | with_reducible exact H | (rw [hy108]; exact H) | exact H
        have Ny108 := Aside0.mk hy108
        clear hy108
        have H' := Aside0.mk H
        clear H
        have p104 : 0 ≤ (x4_1 : Int) := of_decide_eq_true (by first | (with_reducible assumption) | assumption)
        have q104 : x4_1 < (l0.length : Int) := of_decide_eq_true (by first | (with_reducible assumption) | assumption)
        obtain ⟨ad104, e104, hx104_0, hx104_1, hx104_2⟩ := at_T38 HR0.out x4_1 p104 q104
        cases e104
        replace hx104_0 := (HB.out.cell (World.block_lt_of_cell? w _ hx104_0)).trans hx104_0
        replace hx104_1 := (HB.out.cell (World.block_lt_of_cell? w _ hx104_1)).trans hx104_1
        replace hx104_2 := (HB.out.cell (World.block_lt_of_cell? w _ hx104_2)).trans hx104_2
        replace p104 := eq_true p104
        replace q104 := eq_true q104
        go_wp2_with (first | ((with_reducible refine gate_callee (f := 17) rfl ?_); refine goesL_ (some 20) rfl rfl Tryd.func17 (by kernel_rfl) rfl #[.agg #[.int .i64 ((rd_T38 l0 x4_1).f0), .int .i64 ((rd_T38 l0 x4_1).f1), .int .i64 ((rd_T38 l0 x4_1).f2)]] rfl (by (try simp only [List.map_toArray, List.map_cons, List.map_nil]); first | done | rfl | (simp only [List.length_drop, List.length_take]; rfl)) ?_; (with_reducible refine (laws_toLine.calls ((rd_T38 l0 x4_1).f0) ((rd_T38 l0 x4_1).f1) ((rd_T38 l0 x4_1).f2) t105 t106 t107 _ A8.out).mono ?_); rintro e w11 ⟨rfl, hb⟩; refine ⟨_, rfl, ?_⟩; have n0_ := Aside0.mk (Kd.R_below (by (with_reducible repeat (first | apply Kd.R_alloc | apply Kd.R_drewN | apply Kd.R_drew)); exact HO_3.out) hb); have n1_ := Aside0.mk (below_step (by repeat (first | (with_reducible first | exact HB.out | apply below_alloc | apply pw_below_drewN | apply below_drew1) | exact HB.out)) hb); clear HO_3; clear HB; have HO_3 := n0_; have HB := n1_; clear n0_ n1_; (try clear hb); (try clear hb2); (try clear hk); (try clear hi); have p10 : 0 ≤ (x4_1 : Int) := of_decide_eq_true (by first | (with_reducible assumption) | assumption); have q10 : (x4_1 : Int) < ((x3_1.length : Int) : Int) := of_decide_eq_true (by first | (with_reducible assumption) | assumption); obtain ⟨go10, co10, eo10, gb10, gl10, cl10, HG10⟩ := Kd.R_form HO_3.out (by omega); (first | cases eo10 | (injection eo10 with ea_ en_ ec_; (first | subst ea_ | (injection ea_ with ea_; subst ea_)); subst ec_; clear en_)); have GB10 := Aside0.mk gb10; have GG10 := Aside0.mk HG10; clear gb10 gl10 HG10; obtain ⟨ce10, hcl10, hM10, hcc10, hfr10⟩ := Kd.R_elem HO_3.out z36 (x4_1 : Int) p10 q10; obtain rfl := k36_openM hM10; have hx10_0 : w11.cell? ⟨go10, (x4_1 : Int).toNat * 3, none⟩ = some (.int .i64 ((rd_T36 x3_1 x4_1).f0)) := hcc10 0 _ rfl; have hx10_1 : w11.cell? ⟨go10, (x4_1 : Int).toNat * 3 + 1, none⟩ = some (.int .i64 ((rd_T36 x3_1 x4_1).f1)) := hcc10 1 _ rfl; have hx10_2 : w11.cell? ⟨go10, (x4_1 : Int).toNat * 3 + 2, none⟩ = some (.int .i64 ((rd_T36 x3_1 x4_1).f2)) := hcc10 2 _ rfl; have hf10_0 : w11.frozen? ⟨go10, (x4_1 : Int).toNat * 3, none⟩ = false := hfr10 0; have hf10_1 : w11.frozen? ⟨go10, (x4_1 : Int).toNat * 3 + 1, none⟩ = false := hfr10 1; have hf10_2 : w11.frozen? ⟨go10, (x4_1 : Int).toNat * 3 + 2, none⟩ = false := hfr10 2; clear hcl10 hcc10 hfr10 hM10; replace p10 := eq_true p10; replace q10 := eq_true q10; have HX12 := Aside0.mk (show Kd.R k36 36 w11 w.heap.size (fun _ => True) (.slice (some ⟨go10, 0, none⟩) x3_1.length co10) x3_1 from (by (with_reducible repeat (first | apply Kd.R_alloc | apply Kd.R_drewN | apply Kd.R_drew)); exact HO_3.out)); obtain ⟨ce12, hcl12, hM12, hcc12, hfr12⟩ := Kd.R_elem HX12.out z36 (x4_1 : Int) (of_decide_eq_true (by first | (with_reducible assumption) | assumption)) (by have h_ : (x4_1 : Int) < ((x3_1.length : Int) : Int) := of_decide_eq_true (by first | (with_reducible assumption) | assumption); first | exact h_ | (have e_ := (Kd.R_reads' HO_3.out).1; omega) | simpa using h_); obtain rfl := k36_openM hM12; have HP12 := Kd.R_seg HX12.out (x4_1 : Int) (of_decide_eq_true (by first | (with_reducible assumption) | assumption)) (by have h_ : (x4_1 : Int) < ((x3_1.length : Int) : Int) := of_decide_eq_true (by first | (with_reducible assumption) | assumption); first | exact h_ | (have e_ := (Kd.R_reads' HO_3.out).1; omega) | simpa using h_) (seg := [.int .i64 t105, .int .i64 t106, .int .i64 t107]) (j := 0) hcl12 hcc12 (show 3 ≤ 3 from by decide) (x' := (⟨t105, t106, t107⟩ : S36)) (k36_mkM _ _ _ (⟨t105, t106, t107⟩ : S36) ) (fun _ hk => hk); have hx12_0 := hcc12 0 _ rfl; (try simp only [show (k36).sz = 3 from rfl, Nat.mul_one, Nat.add_zero] at hx12_0); have hf12_0 := hfr12 0; (try simp only [show (k36).sz = 3 from rfl, Nat.mul_one, Nat.add_zero] at hf12_0); have hx12_1 := hcc12 1 _ rfl; (try simp only [show (k36).sz = 3 from rfl, Nat.mul_one, Nat.add_zero] at hx12_1); have hf12_1 := hfr12 1; (try simp only [show (k36).sz = 3 from rfl, Nat.mul_one, Nat.add_zero] at hf12_1); have hx12_2 := hcc12 2 _ rfl; (try simp only [show (k36).sz = 3 from rfl, Nat.mul_one, Nat.add_zero] at hx12_2); have hf12_2 := hfr12 2; (try simp only [show (k36).sz = 3 from rfl, Nat.mul_one, Nat.add_zero] at hf12_2); clear hcl12 hcc12 hfr12 hM12) | ((with_reducible refine gate_store (t := 36) (p := 21) rfl ?_); refine store_event (t := 36) (p := 21) (v := ?vo_w13) (w1 := (((w11.setCell ⟨go10, (x4_1 : Int).toNat * 3, none⟩ (.int .i64 t105)).setCell ⟨go10, (x4_1 : Int).toNat * 3 + 1, none⟩ (.int .i64 t106)).setCell ⟨go10, (x4_1 : Int).toNat * 3 + 2, none⟩ (.int .i64 t107))) ?hg ?ho ?hn ?hr ?_; (case ho => rfl); (case hg => rfl); (case hn => rfl); (case hr => first | (go_simp; done) | (go_simp; rfl)); intro w13 hw; have hg : w11.grownBy w13 (some go10) := (by rw [hw]; exact HP12.2); have hp_ : Kd.R k36 36 w13 w.heap.size (fun _ => True) (.slice (some ⟨go10, 0, none⟩) x3_1.length co10) y108 := (by rw [hw, Ny108.out]; exact HP12.1); clear HP12; have n0_ := Aside0.mk (hp_); have n1_ := Aside0.mk ((by rw [hw]; exact below_set (below_set (below_set (HB.out) GB10.out) GB10.out) GB10.out : Below w.heap.size w w13)); clear HO_3; clear HB; have HO_3 := n0_; have HB := n1_; clear n0_ n1_; clear hg hw hp_))
        go_roundg k1
        case measure => have := HK1.out; omega
        case rel => exact ⟨(y108), (wrap64 (x4_1 + 1)), (by first | rfl | (simp; done) | (simp [*]; done)), H', ⟨by have := HK1.out; omega⟩, ⟨by (with_reducible repeat (first | apply Kd.R_alloc | apply Kd.R_drewN | apply Kd.R_drew)); exact HO_3.out⟩, ⟨by repeat (first | (with_reducible first | exact HB.out | apply below_alloc | apply pw_below_drewN | apply below_drew1) | exact HB.out)⟩⟩
       ·rw [if_neg c9] at H
        exact absurd H (by simp)
      ·rw [if_neg c7] at H
       exact absurd H (by simp)
     ·rw [if_neg c6] at H
      have c6b0 : decide (x4_1 < (l0.length : Int)) = false := decide_eq_false c6
      clear c6
      obtain rfl := Option.some.inj H
      go_wp2
      go_ret
      exact ⟨_, by first | rfl | (simp [errW_none, errW_some] <;> rfl) | (simp [*, errW_none, errW_some] <;> rfl), by (with_reducible repeat (first | apply Kd.R_alloc | apply Kd.R_drewN | apply Kd.R_drew)); exact HO_3.out, by repeat (first | (with_reducible first | exact HB.out | apply below_alloc | apply pw_below_drewN | apply below_drew1) | exact HB.out)⟩
  ·rw [if_neg c3] at H
   exact absurd H (by simp)
 ·rw [if_neg c2] at H
  exact absurd H (by simp)
end Go.Proofs.YtecpobpcimehlaaDoor.P

namespace Go.Proofs
open Go.Shelf
def Tryd.lays156_ren : Go.Shelf.Ren := ⟨fun | 156 => 39 | 165 => 51 | 166 => 52 | 169 => 53 | 240 => 60 | 241 => 61 | 276 => 77 | 277 => 78 | n => n, fun | 31 => 40 | 9 => 9 | 3 => 3 | 4 => 4 | 0 => 0 | 20 => 20 | 72 => 61 | 76 => 65 | 70 => 59 | 37 => 46 | 75 => 64 | 127 => 75 | 164 => 90 | 5 => 5 | 80 => 67 | n => n, fun | n => n⟩
theorem Tryd.lays156 : Go.Proofs.Lays.n156 Tryd.prog Tryd.lays156_ren := {
  mixed := by kernel_rfl
  f156 := Tryd.func39.trans (congrArg some (by kernel_rfl))
  f165 := Tryd.func51.trans (congrArg some (by kernel_rfl))
  f166 := Tryd.func52.trans (congrArg some (by kernel_rfl))
  f169 := Tryd.func53.trans (congrArg some (by kernel_rfl))
  f240 := Tryd.func60.trans (congrArg some (by kernel_rfl))
  f241 := Tryd.func61.trans (congrArg some (by kernel_rfl))
  f276 := Tryd.func77.trans (congrArg some (by kernel_rfl))
  f277 := Tryd.func78.trans (congrArg some (by kernel_rfl))
  t0 := Tryd.underlying0
  a0 := Tryd.isAgg0
  z0 := Tryd.sizeOf0
  v0 := Tryd.zeroValue0
  t3 := Tryd.underlying3
  a3 := Tryd.isAgg3
  z3 := Tryd.sizeOf3
  v3 := Tryd.zeroValue3
  t4 := Tryd.underlying4
  a4 := Tryd.isAgg4
  z4 := Tryd.sizeOf4
  v4 := Tryd.zeroValue4
  t9 := Tryd.underlying9
  a9 := Tryd.isAgg9
  z9 := Tryd.sizeOf9
  v9 := Tryd.zeroValue9
  t20 := Tryd.underlying20
  a20 := Tryd.isAgg20
  z20 := Tryd.sizeOf20
  v20 := Tryd.zeroValue20
  t31 := Tryd.underlying40
  a31 := Tryd.isAgg40
  z31 := Tryd.sizeOf40
  v31 := Tryd.zeroValue40
  t37 := Tryd.underlying46
  a37 := Tryd.isAgg46
  z37 := Tryd.sizeOf46
  v37 := Tryd.zeroValue46
  t70 := Tryd.underlying59
  a70 := Tryd.isAgg59
  z70 := Tryd.sizeOf59
  v70 := Tryd.zeroValue59
  t72 := Tryd.underlying61
  a72 := Tryd.isAgg61
  z72 := Tryd.sizeOf61
  v72 := Tryd.zeroValue61
  t75 := Tryd.underlying64
  a75 := Tryd.isAgg64
  z75 := Tryd.sizeOf64
  v75 := Tryd.zeroValue64
  t76 := Tryd.underlying65
  a76 := Tryd.isAgg65
  z76 := Tryd.sizeOf65
  v76 := Tryd.zeroValue65
  t127 := Tryd.underlying75
  a127 := Tryd.isAgg75
  z127 := Tryd.sizeOf75
  v127 := Tryd.zeroValue75
  t164 := Tryd.underlying90
  a164 := Tryd.isAgg90
  z164 := Tryd.sizeOf90
  v164 := Tryd.zeroValue90 }
theorem Tryd.Builder_Extra_156 : Builder.Extra Tryd.prog Tryd.lays156_ren := {
  sizeBuilder := by kernel_rfl
  liesBuilder := by kernel_rfl
  t5 := Tryd.underlying5
  a5 := Tryd.isAgg5
  z5 := Tryd.sizeOf5
  v5 := Tryd.zeroValue5
  infoByte := by kernel_rfl
  cellsByte := by kernel_rfl
  sizeByte := by kernel_rfl
  neB5 := by decide }
open Go.RowKit in
/-- No element: the empty string; the world is as it was. (Whatever the slice's address and capacity: a nil slice too.) (LAID: no walk: one application.) -/
theorem Tryd.strings_Join_none (a : Option Addr) (c : Nat) (sep : ByteArray) (w : World) :
    Calls Tryd.prog 39 #[.slice a 0 c, .string sep] w fun e w' => e = .returned (.string ⟨#[]⟩) ∧ w' = w := Any.strings_Join_none Tryd.lays156 Tryd.Builder_Extra_156 a c sep w
open Go.RowKit in
/-- strings.Join: "Join concatenates the elements of its first argument to create a single string. The separator string sep is placed between elements in the resulting string.": HOWEVER MANY ELEMENTS. Below the heap's end the world is as it was. (LAID: no walk: one application.) -/
theorem Tryd.strings_Join (bk o c : Nat) (xs : List ByteArray) (sep : ByteArray) (w : World) (hcells : ∀ (j : Nat) x, xs[j]? = some x → w.cell? ⟨bk, o + j, none⟩ = some (.string x)) (hbk : bk < w.heap.size) (hN : xs.length ≤ 140737488355328) (hcap : xs.length ≤ c) (hlen : (Lib.join (xs.map (·.data.toList)) sep.data.toList).length ≤ 140737488355328) :
    Calls Tryd.prog 39 #[.slice (some ⟨bk, o, none⟩) xs.length c, .string sep] w fun e w' => e = .returned (.string ⟨(Lib.join (xs.map (·.data.toList)) sep.data.toList).toArray⟩) ∧ Below w.heap.size w w' := Any.strings_Join Tryd.lays156 Tryd.Builder_Extra_156 bk o c xs sep w hcells hbk hN hcap hlen
def Tryd.laysM171_ren : Go.Shelf.Ren := ⟨fun | 171 => 43 | 243 => 57 | 246 => 75 | 283 => 86 | 284 => 87 | 285 => 88 | 286 => 89 | 129 => 74 | 317 => 91 | 318 => 92 | 319 => 93 | 320 => 94 | 337 => 95 | 338 => 96 | n => n, fun | 3 => 3 | 9 => 9 | 2 => 2 | 4 => 4 | 171 => 100 | 0 => 0 | 53 => 88 | 37 => 46 | 5 => 5 | 173 => 102 | 212 => 107 | 51 => 86 | 20 => 20 | 213 => 108 | 46 => 72 | 232 => 109 | 233 => 110 | n => n, fun | 17 => 1 | 18 => 2 | 19 => 3 | n => n⟩
theorem Tryd.laysM171 : Go.Proofs.LaysM.n171 Tryd.prog Tryd.laysM171_ren := {
  mixed := by kernel_rfl
  f129 := Tryd.func74.trans (congrArg some (by kernel_rfl))
  f171 := Tryd.func43.trans (congrArg some (by kernel_rfl))
  f243 := Tryd.func57.trans (congrArg some (by kernel_rfl))
  f246 := Tryd.func75.trans (congrArg some (by kernel_rfl))
  f283 := Tryd.func86.trans (congrArg some (by kernel_rfl))
  f284 := Tryd.func87.trans (congrArg some (by kernel_rfl))
  f285 := Tryd.func88.trans (congrArg some (by kernel_rfl))
  f286 := Tryd.func89.trans (congrArg some (by kernel_rfl))
  f317 := Tryd.func91.trans (congrArg some (by kernel_rfl))
  f318 := Tryd.func92.trans (congrArg some (by kernel_rfl))
  f319 := Tryd.func93.trans (congrArg some (by kernel_rfl))
  f320 := Tryd.func94.trans (congrArg some (by kernel_rfl))
  f337 := Tryd.func95.trans (congrArg some (by kernel_rfl))
  f338 := Tryd.func96.trans (congrArg some (by kernel_rfl))
  t0 := Tryd.underlying0
  a0 := Tryd.isAgg0
  z0 := Tryd.sizeOf0
  v0 := Tryd.zeroValue0
  t2 := Tryd.underlying2
  a2 := Tryd.isAgg2
  z2 := Tryd.sizeOf2
  v2 := Tryd.zeroValue2
  t3 := Tryd.underlying3
  a3 := Tryd.isAgg3
  z3 := Tryd.sizeOf3
  v3 := Tryd.zeroValue3
  t4 := Tryd.underlying4
  a4 := Tryd.isAgg4
  z4 := Tryd.sizeOf4
  v4 := Tryd.zeroValue4
  t5 := Tryd.underlying5
  a5 := Tryd.isAgg5
  z5 := Tryd.sizeOf5
  v5 := Tryd.zeroValue5
  t9 := Tryd.underlying9
  a9 := Tryd.isAgg9
  z9 := Tryd.sizeOf9
  v9 := Tryd.zeroValue9
  t20 := Tryd.underlying20
  a20 := Tryd.isAgg20
  z20 := Tryd.sizeOf20
  v20 := Tryd.zeroValue20
  t37 := Tryd.underlying46
  a37 := Tryd.isAgg46
  z37 := Tryd.sizeOf46
  v37 := Tryd.zeroValue46
  t46 := Tryd.underlying72
  a46 := Tryd.isAgg72
  z46 := Tryd.sizeOf72
  v46 := Tryd.zeroValue72
  t51 := Tryd.underlying86
  a51 := Tryd.isAgg86
  z51 := Tryd.sizeOf86
  v51 := Tryd.zeroValue86
  t53 := Tryd.underlying88
  a53 := Tryd.isAgg88
  z53 := Tryd.sizeOf88
  v53 := Tryd.zeroValue88
  t171 := Tryd.underlying100
  a171 := Tryd.isAgg100
  z171 := Tryd.sizeOf100
  v171 := Tryd.zeroValue100
  t173 := Tryd.underlying102
  a173 := Tryd.isAgg102
  z173 := Tryd.sizeOf102
  v173 := Tryd.zeroValue102
  t212 := Tryd.underlying107
  a212 := Tryd.isAgg107
  z212 := Tryd.sizeOf107
  v212 := Tryd.zeroValue107
  t213 := Tryd.underlying108
  a213 := Tryd.isAgg108
  z213 := Tryd.sizeOf108
  t232 := Tryd.underlying109
  a232 := Tryd.isAgg109
  z232 := Tryd.sizeOf109
  v232 := Tryd.zeroValue109
  t233 := Tryd.underlying110
  a233 := Tryd.isAgg110
  z233 := Tryd.sizeOf110
  v233 := Tryd.zeroValue110
  g17 := by kernel_rfl
  g18 := by kernel_rfl
  g19 := by kernel_rfl
  i0 := by kernel_rfl
  i2 := by kernel_rfl
  i3 := by kernel_rfl
  i4 := by kernel_rfl
  i5 := by kernel_rfl
  i9 := by kernel_rfl
  i20 := by kernel_rfl
  i37 := by kernel_rfl
  i46 := by kernel_rfl
  i51 := by kernel_rfl
  i53 := by kernel_rfl
  i171 := by kernel_rfl
  i173 := by kernel_rfl
  i212 := by kernel_rfl
  i232 := by kernel_rfl
  i233 := by kernel_rfl
  m17 := by kernel_rfl
  m18 := by kernel_rfl
  m19 := by kernel_rfl }
open Go.RowKit Go.Sort Go.Lib in
/-- strconv.Itoa: "Itoa is equivalent to FormatInt(int64(i), 10).": i's DECIMAL NUMERAL ('Lib.itoa': a '-' where i is negative, then the digits), FOR EVERY int. The world behind the call: the world before it, new blocks behind the heap (the library's 'var a [24]byte'), draws. (LAID: no walk: one application.) -/
theorem Tryd.strconv_Itoa (n : Int) (h0 : -9223372036854775808 ≤ n) (h1 : n ≤ 9223372036854775807) (w : World) (htab : Lib.TabIs Tryd.prog w "internal/strconv.uint64pow10" .u64 Lib.pow10Tab) :
    Calls Tryd.prog 43 #[.int .i64 n] w fun e w' => e = .returned (.string ⟨(Lib.itoa n).toArray⟩) ∧ ∃ k os, w' = grow (w.drewN k) os := Any.strconv_Itoa Tryd.laysM171 n h0 h1 w htab
def Tryd.lays189_ren : Go.Shelf.Ren := ⟨fun | 189 => 42 | 125 => 56 | 257 => 55 | 128 => 73 | 129 => 74 | 294 => 64 | 295 => 65 | 296 => 66 | 297 => 67 | 298 => 68 | 299 => 69 | 216 => 70 | 300 => 71 | 301 => 72 | 328 => 80 | 329 => 81 | 330 => 82 | 331 => 83 | 332 => 84 | 215 => 85 | 343 => 90 | n => n, fun | 28 => 31 | 3 => 3 | 46 => 72 | 0 => 0 | 51 => 86 | 53 => 88 | 4 => 4 | 183 => 79 | 182 => 78 | 131 => 83 | 5 => 5 | 9 => 9 | 218 => 93 | 222 => 97 | 228 => 104 | 229 => 105 | n => n, fun | n => n⟩
theorem Tryd.lays189 : Go.Proofs.Lays.n189 Tryd.prog Tryd.lays189_ren := {
  mixed := by kernel_rfl
  f125 := Tryd.func56.trans (congrArg some (by kernel_rfl))
  f128 := Tryd.func73.trans (congrArg some (by kernel_rfl))
  f129 := Tryd.func74.trans (congrArg some (by kernel_rfl))
  f189 := Tryd.func42.trans (congrArg some (by kernel_rfl))
  f215 := Tryd.func85.trans (congrArg some (by kernel_rfl))
  f216 := Tryd.func70.trans (congrArg some (by kernel_rfl))
  f257 := Tryd.func55.trans (congrArg some (by kernel_rfl))
  f294 := Tryd.func64.trans (congrArg some (by kernel_rfl))
  f295 := Tryd.func65.trans (congrArg some (by kernel_rfl))
  f296 := Tryd.func66.trans (congrArg some (by kernel_rfl))
  f297 := Tryd.func67.trans (congrArg some (by kernel_rfl))
  f298 := Tryd.func68.trans (congrArg some (by kernel_rfl))
  f299 := Tryd.func69.trans (congrArg some (by kernel_rfl))
  f300 := Tryd.func71.trans (congrArg some (by kernel_rfl))
  f301 := Tryd.func72.trans (congrArg some (by kernel_rfl))
  f328 := Tryd.func80.trans (congrArg some (by kernel_rfl))
  f329 := Tryd.func81.trans (congrArg some (by kernel_rfl))
  f330 := Tryd.func82.trans (congrArg some (by kernel_rfl))
  f331 := Tryd.func83.trans (congrArg some (by kernel_rfl))
  f332 := Tryd.func84.trans (congrArg some (by kernel_rfl))
  f343 := Tryd.func90.trans (congrArg some (by kernel_rfl))
  t0 := Tryd.underlying0
  a0 := Tryd.isAgg0
  z0 := Tryd.sizeOf0
  v0 := Tryd.zeroValue0
  t3 := Tryd.underlying3
  a3 := Tryd.isAgg3
  z3 := Tryd.sizeOf3
  v3 := Tryd.zeroValue3
  t4 := Tryd.underlying4
  a4 := Tryd.isAgg4
  z4 := Tryd.sizeOf4
  v4 := Tryd.zeroValue4
  t5 := Tryd.underlying5
  a5 := Tryd.isAgg5
  z5 := Tryd.sizeOf5
  v5 := Tryd.zeroValue5
  t9 := Tryd.underlying9
  a9 := Tryd.isAgg9
  z9 := Tryd.sizeOf9
  v9 := Tryd.zeroValue9
  t28 := Tryd.underlying31
  a28 := Tryd.isAgg31
  z28 := Tryd.sizeOf31
  v28 := Tryd.zeroValue31
  t46 := Tryd.underlying72
  a46 := Tryd.isAgg72
  z46 := Tryd.sizeOf72
  v46 := Tryd.zeroValue72
  t51 := Tryd.underlying86
  a51 := Tryd.isAgg86
  z51 := Tryd.sizeOf86
  v51 := Tryd.zeroValue86
  t53 := Tryd.underlying88
  a53 := Tryd.isAgg88
  z53 := Tryd.sizeOf88
  v53 := Tryd.zeroValue88
  t131 := Tryd.underlying83
  a131 := Tryd.isAgg83
  z131 := Tryd.sizeOf83
  v131 := Tryd.zeroValue83
  t182 := Tryd.underlying78
  a182 := Tryd.isAgg78
  z182 := Tryd.sizeOf78
  v182 := Tryd.zeroValue78
  t183 := Tryd.underlying79
  a183 := Tryd.isAgg79
  z183 := Tryd.sizeOf79
  v183 := Tryd.zeroValue79
  t218 := Tryd.underlying93
  a218 := Tryd.isAgg93
  z218 := Tryd.sizeOf93
  v218 := Tryd.zeroValue93
  t222 := Tryd.underlying97
  a222 := Tryd.isAgg97
  z222 := Tryd.sizeOf97
  v222 := Tryd.zeroValue97
  t228 := Tryd.underlying104
  a228 := Tryd.isAgg104
  z228 := Tryd.sizeOf104
  v228 := Tryd.zeroValue104
  t229 := Tryd.underlying105
  a229 := Tryd.isAgg105
  z229 := Tryd.sizeOf105
  v229 := Tryd.zeroValue105 }
open Go.Sort Go.RowKit in
theorem Tryd.slices_Sort_int (blk off cap : Nat) (zs : List Int) (w : World) (hH : Holds (Value.int .i64) w blk off zs.toArray) (hblk : blk < w.heap.size) (hsz : zs.length < 4611686018427387904) :
    Calls Tryd.prog 42 #[.slice (some ⟨blk, off, none⟩) zs.length cap] w fun e w' =>
      e = .returned (.tuple #[]) ∧ ∃ n os, w' = grow (putRow (Value.int .i64) (Sort.ahead w n) blk off (zs.mergeSort fun x y => decide (x ≤ y)).toArray) os := Any.slices_Sort_int Tryd.lays189 blk off cap zs w hH hblk hsz
open Go.RowKit Go.Sort in
/-- .. and plain. (LAID: no walk: one application.) -/
theorem Tryd.slices_Sort_int_none (p : Option Addr) (cap : Nat) (w : World) :
    Calls Tryd.prog 42 #[.slice p 0 cap] w fun e w' => e = .returned (.tuple #[]) ∧ w' = w := Any.slices_Sort_int_none Tryd.lays189 p cap w
end Go.Proofs

namespace Go.Proofs.YtecpobpcimehlaaDoor.P
open Go.RowKit Go.Proofs.YtecpobpcimehlaaDoorW.PrintWords Go.Proofs.YtecpobpcimehlaaDoorW.PrintLast Go.Proofs.YtecpobpcimehlaaDoorW.PrintMore
attribute [local go_sem] max2_int min2_int max_two min_two max_three min_three max_four min_four   -- for this text's walks alone
set_option linter.unusedVariables false
set_option linter.unusedSimpArgs false
/-! ### strconv_Itoa_43: function 43 -/
def Tab (w : World) : Prop := Lib.TabIs Tryd.prog w "internal/strconv.uint64pow10" .u64 Lib.pow10Tab
theorem Tab.on {w w' : World} (h : Tab w) (hb : Below w.heap.size w w') : Tab w' := (Lib.tabBelow_of_tabIs h) w' hb
def strconv_Itoa_43.f (a0 : Int) : Option ByteArray := if -9223372036854775808 ≤ a0 ∧ a0 ≤ 9223372036854775807 then some ⟨(Lib.itoa a0).toArray⟩ else none
theorem strconv_Itoa_43.calls (a0 : Int) (r : ByteArray) (w : World) (h : strconv_Itoa_43.f a0 = some r) (htab_ : Tab w) :
  Calls Tryd.prog 43 #[.int .i64 a0] w fun e w' => e = .returned (.string r) ∧ Below w.heap.size w w' := by
 unfold strconv_Itoa_43.f at h
 split at h
 ·rename_i h0
  obtain rfl := Option.some.inj h
  refine (Tryd.strconv_Itoa a0 h0.1 h0.2 w htab_).mono ?_
  rintro e w' ⟨rfl, k, os, rfl⟩
  exact ⟨rfl, Lib.below_grow _ _ (Nat.le_refl _) k os⟩
 ·cases h
theorem itoa_some (a0 : Int) (h0 : -9223372036854775808 ≤ a0) (h1 : a0 ≤ 9223372036854775807) : strconv_Itoa_43.f a0 = some ⟨(Lib.itoa a0).toArray⟩ := if_pos ⟨h0, h1⟩
end Go.Proofs.YtecpobpcimehlaaDoor.P

namespace Go.Proofs.YtecpobpcimehlaaDoor.P
open Go.RowKit Go.Proofs.YtecpobpcimehlaaDoorW.PrintWords Go.Proofs.YtecpobpcimehlaaDoorW.PrintLast Go.Proofs.YtecpobpcimehlaaDoorW.PrintMore
attribute [local go_sem] max2_int min2_int max_two min_two max_three min_three max_four min_four   -- for this text's walks alone
set_option linter.unusedVariables false
set_option linter.unusedSimpArgs false
/-! ### impl_isFar: function 35 -/
def impl_isFar.f (a0 : Int) (a1 : Int) : Option (Bool) := if a0 < (wrap64 (-a1)) then (some true) else (some (decide (a0 > a1)))
set_option maxHeartbeats 8000000 in
set_option maxRecDepth 100000 in
theorem impl_isFar.calls (a0 : Int) (a1 : Int) (r : Bool) (w : World) (h : impl_isFar.f a0 a1 = some r) :
  Calls Tryd.prog 35 #[.int .i64 a0, .int .i64 a1] w fun e w' => e = .returned (.bool r) ∧ Drawn0 w w' := by
 have H : (if a0 < (wrap64 (-a1)) then (some true) else (some (decide (a0 > a1)))) = some r := h
 clear h
 by_cases c3 : a0 < (wrap64 (-a1))
 ·rw [if_pos c3] at H
  have c3b0 : decide (a0 < (wrap64 (-a1))) = true := decide_eq_true c3
  clear c3
  obtain rfl := Option.some.inj H
  go_enter Tryd.func35, Tryd.ntmps35
  go_wp2
  go_ret
  exact ⟨by first | rfl | (simp; done) | (simp [*]; done), by repeat (first | exact Drawn0.refl _ | apply Drawn0.step)⟩
 ·rw [if_neg c3] at H
  have c3b0 : decide (a0 < (wrap64 (-a1))) = false := decide_eq_false c3
  clear c3
  obtain rfl := Option.some.inj H
  go_enter Tryd.func35, Tryd.ntmps35
  go_wp2
  go_ret
  exact ⟨by first | rfl | (simp; done) | (simp [*]; done), by repeat (first | exact Drawn0.refl _ | apply Drawn0.step)⟩
def farB (n most : Int) : Bool := (impl_isFar.f n most).getD false
theorem isFar_some (n most : Int) : impl_isFar.f n most = some (farB n most) := by
 unfold farB impl_isFar.f; split <;> rfl
theorem isFar_is (n most : Int) {b : Bool} (h : farB n most = b) : impl_isFar.f n most = some b := by rw [isFar_some, h]
end Go.Proofs.YtecpobpcimehlaaDoor.P

namespace Go.Proofs.YtecpobpcimehlaaDoor.P
open Go.RowKit Go.Proofs.YtecpobpcimehlaaDoorW.PrintWords Go.Proofs.YtecpobpcimehlaaDoorW.PrintLast Go.Proofs.YtecpobpcimehlaaDoorW.PrintMore
attribute [local go_sem] max2_int min2_int max_two min_two max_three min_three max_four min_four   -- for this text's walks alone
set_option linter.unusedVariables false
set_option linter.unusedSimpArgs false
/-! ### impl_Line_50: function 50 -/
def PredLine (g : Nat) (lb : Array Value) (p : S36 → Bool) (w : World) : Prop :=
 ∀ (W : World) (x : S36), Below w.heap.size w W → Calls Tryd.prog g (#[.agg #[.int .i64 x.f0, .int .i64 x.f1, .int .i64 x.f2]] ++ lb) W fun e w' => e = .returned (.bool (p x)) ∧ Below W.heap.size W w'
def idxLine (p : S36 → Bool) : List S36 → Nat → Int
 | [], _ => -1
 | x :: l, i => if p x then i else idxLine p l (i + 1)
theorem idxLine_skip (p : S36 → Bool) (l : List S36) (k i : Nat) (h : ∀ j, j < k → j < l.length → p (l.getD j z36) = false) (hk : k ≤ l.length) : idxLine p l i = idxLine p (l.drop k) (i + k) := by
 induction k generalizing l i with
 | zero => simp
 | succ k ih =>
  cases l with
  | nil => simp at hk
  | cons x l =>
   have hx : p x = false := by simpa using h 0 (by omega) (by simp)
   simp only [idxLine, hx, List.drop_succ_cons]
   rw [if_neg (by decide), ih l (i + 1) (fun j hj hl => by simpa using h (j + 1) (by omega) (by simpa using hl)) (by simpa using hk)]
   simp [Nat.add_assoc, Nat.add_comm 1 k]
theorem idxLine_any (p : S36 → Bool) (l : List S36) (i : Nat) : decide (0 ≤ idxLine p l i) = l.any p := by
 induction l generalizing i with
 | nil => rfl
 | cons x l ih =>
  simp only [idxLine, List.any_cons]
  by_cases h : p x = true
  ·simp [h]
  ·simp [h, ih]
set_option maxHeartbeats 1000000 in
set_option maxRecDepth 100000 in
theorem indexLine_calls (g : Nat) (lb : Array Value) (eg : ∀ args w, (callFunc g args).run Tryd.prog w = .ok (.enter g args) w) (p : S36 → Bool) (A : Option Addr) (c : Nat) (l : List S36) (w : World) (hr : Kd.C k36 w A l.length l) (hc : l.length ≤ c) (hp : PredLine g lb p w) :
  Calls Tryd.prog 50 #[.slice A l.length c, .func (.func g) #[] lb] w fun e w' => e = .returned (.int .i64 (idxLine p l 0)) ∧ Below w.heap.size w w' := by
 have hu36 := Tryd.underlying36
 have hmax : l.length ≤ 9223372036854775807 := hr.2.1
 have HR := Aside0.mk hr
 have HP := Aside0.mk hp
 clear hr hp
 go_enter Tryd.func50, Tryd.ntmps50
 go_wp2_with fail
 go_loopg [5, 8] l.length (fun gg _ s8 wr => ∃ kk : Nat, kk ≤ l.length ∧ l.length - kk ≤ gg ∧ s8 = .int .i64 kk ∧ Aside0 (Below w.heap.size w wr) ∧ Aside0 (∀ j, j < kk → j < l.length → p (l.getD j z36) = false))
 case atStart => exact ⟨0, Nat.zero_le _, by omega, rfl, ⟨Below.refl _ w⟩, ⟨fun j hj => absurd hj (Nat.not_lt_zero _)⟩⟩
 case round =>
  obtain ⟨kk, hkk, hg, rfl, BW, AA⟩ := hrel
  by_cases hlt : kk < l.length
  ·have hltz : (kk : Int) < (l.length : Int) := by omega
   obtain ⟨ad, rfl, hx0, hx1, hx2⟩ := at_T36 (Kd.C_below HR.out BW.out) (kk : Int) (by omega) hltz
   simp only [Int.toNat_natCast] at hx0 hx1 hx2
   have hcall := HP.out wr (rd_T36 l (kk : Int)) BW.out
   have hrdk : rd_T36 l (kk : Int) = l.getD kk z36 := rfl
   generalize hy : rd_T36 l (kk : Int) = y at hx0 hx1 hx2 hcall hrdk
   have HY := Aside0.mk hrdk
   clear hrdk hy
   cases hq : p y with
   | true =>
    rw [hq] at hcall
    have HQ := Aside0.mk hq
    clear hq
    go_wp2_with (go_at_fn g; refine hcall.mono ?_; rintro e w' ⟨rfl, hb'⟩)
    go_ret
    refine ⟨?_, below_step BW.out hb'⟩
    rw [idxLine_skip p l kk 0 AA.out hkk, List.drop_eq_getElem_cons hlt]
    have hyy : l[kk] = y := by rw [HY.out]; simp [List.getD, List.getElem?_eq_getElem hlt]
    simp only [idxLine, hyy, HQ.out]
    simp
   | false =>
    rw [hq] at hcall
    have HQ := Aside0.mk hq
    clear hq
    go_wp2_with (go_at_fn g; refine hcall.mono ?_; rintro e w' ⟨rfl, hb'⟩)
    go_roundg (l.length - (kk + 1))
    case measure => omega
    case rel =>
     refine ⟨kk + 1, by omega, by omega, by go_num, ⟨below_step BW.out hb'⟩, ⟨fun j hj hjl => ?_⟩⟩
     by_cases e : j = kk
     ·subst e
      rw [← HY.out]; exact HQ.out
     ·exact AA.out j (by omega) hjl
  ·have hltz : ¬ (kk : Int) < (l.length : Int) := by omega
   have hkl : kk = l.length := by omega
   subst hkl
   go_wp2_with fail
   go_ret
   refine ⟨?_, BW.out⟩
   rw [idxLine_skip p l l.length 0 AA.out (Nat.le_refl _), List.drop_length]
   rfl
end Go.Proofs.YtecpobpcimehlaaDoor.P

namespace Go.Proofs.YtecpobpcimehlaaDoor.P
open Go.RowKit Go.Proofs.YtecpobpcimehlaaDoorW.PrintWords Go.Proofs.YtecpobpcimehlaaDoorW.PrintLast Go.Proofs.YtecpobpcimehlaaDoorW.PrintMore
attribute [local go_sem] max2_int min2_int max_two min_two max_three min_three max_four min_four   -- for this text's walks alone
set_option linter.unusedVariables false
set_option linter.unusedSimpArgs false
/-! ### impl_Line_36: function 36 -/
theorem containsLine_calls (g : Nat) (lb : Array Value) (eg : ∀ args w, (callFunc g args).run Tryd.prog w = .ok (.enter g args) w) (p : S36 → Bool) (A : Option Addr) (c : Nat) (l : List S36) (w : World) (hr : Kd.C k36 w A l.length l) (hc : l.length ≤ c) (hp : PredLine g lb p w) :
  Calls Tryd.prog 36 #[.slice A l.length c, .func (.func g) #[] lb] w fun e w' => e = .returned (.bool (l.any p)) ∧ Below w.heap.size w w' := by
 have HR := Aside0.mk hr
 have HP := Aside0.mk hp
 have HA := Aside0.mk (idxLine_any p l 0)
 clear hr hp
 go_enter Tryd.func36, Tryd.ntmps36
 go_wp2_with fail
 (with_reducible refine (indexLine_calls g lb eg p A c l _ HR.out hc HP.out).mono ?_); rintro e w1 ⟨rfl, hb⟩
 go_wp2_with fail
 go_ret
 exact ⟨by rw [← HA.out]; rfl, hb⟩
end Go.Proofs.YtecpobpcimehlaaDoor.P

namespace Go.Proofs.YtecpobpcimehlaaDoor.P
open Go.RowKit Go.Proofs.YtecpobpcimehlaaDoorW.PrintWords Go.Proofs.YtecpobpcimehlaaDoorW.PrintLast Go.Proofs.YtecpobpcimehlaaDoorW.PrintMore
attribute [local go_sem] max2_int min2_int max_two min_two max_three min_three max_four min_four   -- for this text's walks alone
set_option linter.unusedVariables false
set_option linter.unusedSimpArgs false
/-! ### impl_areSame: function 38 -/
def impl_areSame.f (a0_0 : Int) (a0_1 : Int) (a0_2 : Int) (a1_0 : Int) (a1_1 : Int) (a1_2 : Int) : Option (Bool) := if (wrap64 (a0_0 * a1_1)) = (wrap64 (a0_1 * a1_0)) then (if (wrap64 (a0_0 * a1_2)) = (wrap64 (a0_2 * a1_0)) then (some ((wrap64 (a0_1 * a1_2)) == (wrap64 (a0_2 * a1_1)))) else (some false)) else (some false)
set_option maxHeartbeats 8000000 in
set_option maxRecDepth 100000 in
theorem impl_areSame.calls (a0_0 : Int) (a0_1 : Int) (a0_2 : Int) (a1_0 : Int) (a1_1 : Int) (a1_2 : Int) (r : Bool) (w : World) (h : impl_areSame.f a0_0 a0_1 a0_2 a1_0 a1_1 a1_2 = some r) :
  Calls Tryd.prog 38 #[.agg #[.int .i64 a0_0, .int .i64 a0_1, .int .i64 a0_2], .agg #[.int .i64 a1_0, .int .i64 a1_1, .int .i64 a1_2]] w fun e w' => e = .returned (.bool r) ∧ Below w.heap.size w w' := by
 have hu36 := Tryd.underlying36
 have HB := Aside0.mk (Below.refl w.heap.size w)
 have H : (if (wrap64 (a0_0 * a1_1)) = (wrap64 (a0_1 * a1_0)) then (if (wrap64 (a0_0 * a1_2)) = (wrap64 (a0_2 * a1_0)) then (some ((wrap64 (a0_1 * a1_2)) == (wrap64 (a0_2 * a1_1)))) else (some false)) else (some false)) = some r := h
 clear h
 by_cases c3 : (wrap64 (a0_0 * a1_1)) = (wrap64 (a0_1 * a1_0))
 ·rw [if_pos c3] at H
  have c3b0 : ((wrap64 (a0_0 * a1_1)) == (wrap64 (a0_1 * a1_0))) = true := beq_iff_eq.mpr c3
  have c3b1 : ((wrap64 (a0_0 * a1_1)) != (wrap64 (a0_1 * a1_0))) = false := bne_eq_false_iff_eq.mpr c3
  clear c3
  by_cases c4 : (wrap64 (a0_0 * a1_2)) = (wrap64 (a0_2 * a1_0))
  ·rw [if_pos c4] at H
   have c4b0 : ((wrap64 (a0_0 * a1_2)) == (wrap64 (a0_2 * a1_0))) = true := beq_iff_eq.mpr c4
   have c4b1 : ((wrap64 (a0_0 * a1_2)) != (wrap64 (a0_2 * a1_0))) = false := bne_eq_false_iff_eq.mpr c4
   clear c4
   obtain rfl := Option.some.inj H
   go_enter Tryd.func38, Tryd.ntmps38
   go_wp2_with (first | ((with_reducible refine gate_dst (N := 2) rfl ?_); refine box_event ?hg (N := 2) ?hd (cs := #[.int .i64 a0_0, .int .i64 a0_1, .int .i64 a0_2]) (t := 36) ?hr ?_; (case hd => rfl); (case hg => rfl); (case hr => first | (go_simp; done) | (go_simp; rfl)); intro gb101 hg w5 hbox hb; have n0_ := Aside0.mk (below_step (by repeat (first | (with_reducible first | exact HB.out | apply below_alloc | apply pw_below_drewN | apply below_drew1) | exact HB.out)) hb); have n1_ := Aside0.mk (hbox); have n2_ := Aside0.mk ((by rw [hg]; exact (below_size (by repeat (first | (with_reducible first | exact HB.out | apply below_alloc | apply pw_below_drewN | apply below_drew1) | exact HB.out))) : w.heap.size ≤ gb101)); have n3_ := Aside0.mk ((by rw [hg]; exact (below_size (by repeat (first | (with_reducible first | exact HB.out | apply below_alloc | apply pw_below_drewN | apply below_drew1) | exact HB.out))) : w.heap.size ≤ gb101)); clear HB; have HB := n0_; have BK101 := n1_; have GW101 := n2_; have GE101 := n3_; clear n0_ n1_ n2_ n3_; clear hb hbox hg) | ((with_reducible refine gate_dst (N := 3) rfl ?_); refine box_event ?hg (N := 3) ?hd (cs := #[.int .i64 a1_0, .int .i64 a1_1, .int .i64 a1_2]) (t := 36) ?hr ?_; (case hd => rfl); (case hg => rfl); (case hr => first | (go_simp; done) | (go_simp; rfl)); intro gb102 hg w6 hbox hb; have n0_ := Aside0.mk (blk_below (g := gb101) (o := .cells #[.int .i64 a0_0, .int .i64 a0_1, .int .i64 a0_2] 36 (0, 0)) (by (with_reducible repeat (first | refine blk_drewN ?_ _ | refine blk_drew ?_ | refine blk_alloc ?_ _)); exact BK101.out) hb); have n1_ := Aside0.mk (below_step (by repeat (first | (with_reducible first | exact HB.out | apply below_alloc | apply pw_below_drewN | apply below_drew1 | refine below_set ?_ GE101.out) | exact HB.out)) hb); have n2_ := Aside0.mk (hbox); have n3_ := Aside0.mk ((by rw [hg]; exact (below_size (by repeat (first | (with_reducible first | exact HB.out | apply below_alloc | apply pw_below_drewN | apply below_drew1 | refine below_set ?_ GE101.out) | exact HB.out))) : w.heap.size ≤ gb102)); have n4_ := Aside0.mk ((by rw [hg]; exact (below_size (by repeat (first | (with_reducible first | exact HB.out | apply below_alloc | apply pw_below_drewN | apply below_drew1 | refine below_set ?_ GE101.out) | exact HB.out))) : w.heap.size ≤ gb102)); have n5_ := Aside0.mk ((by rw [hg]; exact Nat.ne_of_lt (blk_lt (g := gb101) (o := .cells #[.int .i64 a0_0, .int .i64 a0_1, .int .i64 a0_2] 36 (0, 0)) (by (with_reducible repeat (first | refine blk_drewN ?_ _ | refine blk_drew ?_ | refine blk_alloc ?_ _)); exact BK101.out)) : gb101 ≠ gb102)); have n6_ := Aside0.mk ((by rw [hg]; exact Nat.ne_of_gt (blk_lt (g := gb101) (o := .cells #[.int .i64 a0_0, .int .i64 a0_1, .int .i64 a0_2] 36 (0, 0)) (by (with_reducible repeat (first | refine blk_drewN ?_ _ | refine blk_drew ?_ | refine blk_alloc ?_ _)); exact BK101.out)) : gb102 ≠ gb101)); clear BK101; clear HB; have BK101 := n0_; have HB := n1_; have BK102 := n2_; have GW102 := n3_; have GE102 := n4_; have NB101_102 := n5_; have NB102_101 := n6_; clear n0_ n1_ n2_ n3_ n4_ n5_ n6_; clear hb hbox hg; have hnb7 := NB101_102.out; have hnc7 := NB102_101.out; have hcz8_0 : w6.cell? ⟨gb101, 0, none⟩ = some (.int .i64 a0_0) := (blk_cell BK101.out 0).trans rfl; have hcz8_1 : w6.cell? ⟨gb101, 1, none⟩ = some (.int .i64 a0_1) := (blk_cell BK101.out 1).trans rfl; have hcz8_2 : w6.cell? ⟨gb101, 2, none⟩ = some (.int .i64 a0_2) := (blk_cell BK101.out 2).trans rfl; have hfz8_0 := blk_frozen BK101.out 0; have hfz8_1 := blk_frozen BK101.out 1; have hfz8_2 := blk_frozen BK101.out 2; have hcz9_0 : w6.cell? ⟨gb102, 0, none⟩ = some (.int .i64 a1_0) := (blk_cell BK102.out 0).trans rfl; have hcz9_1 : w6.cell? ⟨gb102, 1, none⟩ = some (.int .i64 a1_1) := (blk_cell BK102.out 1).trans rfl; have hcz9_2 : w6.cell? ⟨gb102, 2, none⟩ = some (.int .i64 a1_2) := (blk_cell BK102.out 2).trans rfl; have hfz9_0 := blk_frozen BK102.out 0; have hfz9_1 := blk_frozen BK102.out 1; have hfz9_2 := blk_frozen BK102.out 2))
   go_ret
   exact ⟨by first | rfl | (simp [errW_none, errW_some] <;> rfl) | (simp [*, errW_none, errW_some] <;> rfl), by repeat (first | (with_reducible first | exact HB.out | apply below_alloc | apply pw_below_drewN | apply below_drew1 | refine below_set ?_ GE101.out | refine below_set ?_ GE102.out) | exact HB.out)⟩
  ·rw [if_neg c4] at H
   have c4b0 : ((wrap64 (a0_0 * a1_2)) == (wrap64 (a0_2 * a1_0))) = false := beq_eq_false_iff_ne.mpr c4
   have c4b1 : ((wrap64 (a0_0 * a1_2)) != (wrap64 (a0_2 * a1_0))) = true := bne_iff_ne.mpr c4
   obtain rfl := Option.some.inj H
   go_enter Tryd.func38, Tryd.ntmps38
   go_wp2_with (first | ((with_reducible refine gate_dst (N := 2) rfl ?_); refine box_event ?hg (N := 2) ?hd (cs := #[.int .i64 a0_0, .int .i64 a0_1, .int .i64 a0_2]) (t := 36) ?hr ?_; (case hd => rfl); (case hg => rfl); (case hr => first | (go_simp; done) | (go_simp; rfl)); intro gb101 hg w10 hbox hb; have n0_ := Aside0.mk (below_step (by repeat (first | (with_reducible first | exact HB.out | apply below_alloc | apply pw_below_drewN | apply below_drew1) | exact HB.out)) hb); have n1_ := Aside0.mk (hbox); have n2_ := Aside0.mk ((by rw [hg]; exact (below_size (by repeat (first | (with_reducible first | exact HB.out | apply below_alloc | apply pw_below_drewN | apply below_drew1) | exact HB.out))) : w.heap.size ≤ gb101)); have n3_ := Aside0.mk ((by rw [hg]; exact (below_size (by repeat (first | (with_reducible first | exact HB.out | apply below_alloc | apply pw_below_drewN | apply below_drew1) | exact HB.out))) : w.heap.size ≤ gb101)); clear HB; have HB := n0_; have BK101 := n1_; have GW101 := n2_; have GE101 := n3_; clear n0_ n1_ n2_ n3_; clear hb hbox hg) | ((with_reducible refine gate_dst (N := 3) rfl ?_); refine box_event ?hg (N := 3) ?hd (cs := #[.int .i64 a1_0, .int .i64 a1_1, .int .i64 a1_2]) (t := 36) ?hr ?_; (case hd => rfl); (case hg => rfl); (case hr => first | (go_simp; done) | (go_simp; rfl)); intro gb102 hg w11 hbox hb; have n0_ := Aside0.mk (blk_below (g := gb101) (o := .cells #[.int .i64 a0_0, .int .i64 a0_1, .int .i64 a0_2] 36 (0, 0)) (by (with_reducible repeat (first | refine blk_drewN ?_ _ | refine blk_drew ?_ | refine blk_alloc ?_ _)); exact BK101.out) hb); have n1_ := Aside0.mk (below_step (by repeat (first | (with_reducible first | exact HB.out | apply below_alloc | apply pw_below_drewN | apply below_drew1 | refine below_set ?_ GE101.out) | exact HB.out)) hb); have n2_ := Aside0.mk (hbox); have n3_ := Aside0.mk ((by rw [hg]; exact (below_size (by repeat (first | (with_reducible first | exact HB.out | apply below_alloc | apply pw_below_drewN | apply below_drew1 | refine below_set ?_ GE101.out) | exact HB.out))) : w.heap.size ≤ gb102)); have n4_ := Aside0.mk ((by rw [hg]; exact (below_size (by repeat (first | (with_reducible first | exact HB.out | apply below_alloc | apply pw_below_drewN | apply below_drew1 | refine below_set ?_ GE101.out) | exact HB.out))) : w.heap.size ≤ gb102)); have n5_ := Aside0.mk ((by rw [hg]; exact Nat.ne_of_lt (blk_lt (g := gb101) (o := .cells #[.int .i64 a0_0, .int .i64 a0_1, .int .i64 a0_2] 36 (0, 0)) (by (with_reducible repeat (first | refine blk_drewN ?_ _ | refine blk_drew ?_ | refine blk_alloc ?_ _)); exact BK101.out)) : gb101 ≠ gb102)); have n6_ := Aside0.mk ((by rw [hg]; exact Nat.ne_of_gt (blk_lt (g := gb101) (o := .cells #[.int .i64 a0_0, .int .i64 a0_1, .int .i64 a0_2] 36 (0, 0)) (by (with_reducible repeat (first | refine blk_drewN ?_ _ | refine blk_drew ?_ | refine blk_alloc ?_ _)); exact BK101.out)) : gb102 ≠ gb101)); clear BK101; clear HB; have BK101 := n0_; have HB := n1_; have BK102 := n2_; have GW102 := n3_; have GE102 := n4_; have NB101_102 := n5_; have NB102_101 := n6_; clear n0_ n1_ n2_ n3_ n4_ n5_ n6_; clear hb hbox hg; have hnb12 := NB101_102.out; have hnc12 := NB102_101.out; have hcz13_0 : w11.cell? ⟨gb101, 0, none⟩ = some (.int .i64 a0_0) := (blk_cell BK101.out 0).trans rfl; have hcz13_1 : w11.cell? ⟨gb101, 1, none⟩ = some (.int .i64 a0_1) := (blk_cell BK101.out 1).trans rfl; have hcz13_2 : w11.cell? ⟨gb101, 2, none⟩ = some (.int .i64 a0_2) := (blk_cell BK101.out 2).trans rfl; have hfz13_0 := blk_frozen BK101.out 0; have hfz13_1 := blk_frozen BK101.out 1; have hfz13_2 := blk_frozen BK101.out 2; have hcz14_0 : w11.cell? ⟨gb102, 0, none⟩ = some (.int .i64 a1_0) := (blk_cell BK102.out 0).trans rfl; have hcz14_1 : w11.cell? ⟨gb102, 1, none⟩ = some (.int .i64 a1_1) := (blk_cell BK102.out 1).trans rfl; have hcz14_2 : w11.cell? ⟨gb102, 2, none⟩ = some (.int .i64 a1_2) := (blk_cell BK102.out 2).trans rfl; have hfz14_0 := blk_frozen BK102.out 0; have hfz14_1 := blk_frozen BK102.out 1; have hfz14_2 := blk_frozen BK102.out 2))
   go_ret
   exact ⟨by first | rfl | (simp [errW_none, errW_some] <;> rfl) | (simp [*, errW_none, errW_some] <;> rfl), by repeat (first | (with_reducible first | exact HB.out | apply below_alloc | apply pw_below_drewN | apply below_drew1 | refine below_set ?_ GE101.out | refine below_set ?_ GE102.out) | exact HB.out)⟩
 ·rw [if_neg c3] at H
  have c3b0 : ((wrap64 (a0_0 * a1_1)) == (wrap64 (a0_1 * a1_0))) = false := beq_eq_false_iff_ne.mpr c3
  have c3b1 : ((wrap64 (a0_0 * a1_1)) != (wrap64 (a0_1 * a1_0))) = true := bne_iff_ne.mpr c3
  obtain rfl := Option.some.inj H
  go_enter Tryd.func38, Tryd.ntmps38
  go_wp2_with (first | ((with_reducible refine gate_dst (N := 2) rfl ?_); refine box_event ?hg (N := 2) ?hd (cs := #[.int .i64 a0_0, .int .i64 a0_1, .int .i64 a0_2]) (t := 36) ?hr ?_; (case hd => rfl); (case hg => rfl); (case hr => first | (go_simp; done) | (go_simp; rfl)); intro gb101 hg w15 hbox hb; have n0_ := Aside0.mk (below_step (by repeat (first | (with_reducible first | exact HB.out | apply below_alloc | apply pw_below_drewN | apply below_drew1) | exact HB.out)) hb); have n1_ := Aside0.mk (hbox); have n2_ := Aside0.mk ((by rw [hg]; exact (below_size (by repeat (first | (with_reducible first | exact HB.out | apply below_alloc | apply pw_below_drewN | apply below_drew1) | exact HB.out))) : w.heap.size ≤ gb101)); have n3_ := Aside0.mk ((by rw [hg]; exact (below_size (by repeat (first | (with_reducible first | exact HB.out | apply below_alloc | apply pw_below_drewN | apply below_drew1) | exact HB.out))) : w.heap.size ≤ gb101)); clear HB; have HB := n0_; have BK101 := n1_; have GW101 := n2_; have GE101 := n3_; clear n0_ n1_ n2_ n3_; clear hb hbox hg) | ((with_reducible refine gate_dst (N := 3) rfl ?_); refine box_event ?hg (N := 3) ?hd (cs := #[.int .i64 a1_0, .int .i64 a1_1, .int .i64 a1_2]) (t := 36) ?hr ?_; (case hd => rfl); (case hg => rfl); (case hr => first | (go_simp; done) | (go_simp; rfl)); intro gb102 hg w16 hbox hb; have n0_ := Aside0.mk (blk_below (g := gb101) (o := .cells #[.int .i64 a0_0, .int .i64 a0_1, .int .i64 a0_2] 36 (0, 0)) (by (with_reducible repeat (first | refine blk_drewN ?_ _ | refine blk_drew ?_ | refine blk_alloc ?_ _)); exact BK101.out) hb); have n1_ := Aside0.mk (below_step (by repeat (first | (with_reducible first | exact HB.out | apply below_alloc | apply pw_below_drewN | apply below_drew1 | refine below_set ?_ GE101.out) | exact HB.out)) hb); have n2_ := Aside0.mk (hbox); have n3_ := Aside0.mk ((by rw [hg]; exact (below_size (by repeat (first | (with_reducible first | exact HB.out | apply below_alloc | apply pw_below_drewN | apply below_drew1 | refine below_set ?_ GE101.out) | exact HB.out))) : w.heap.size ≤ gb102)); have n4_ := Aside0.mk ((by rw [hg]; exact (below_size (by repeat (first | (with_reducible first | exact HB.out | apply below_alloc | apply pw_below_drewN | apply below_drew1 | refine below_set ?_ GE101.out) | exact HB.out))) : w.heap.size ≤ gb102)); have n5_ := Aside0.mk ((by rw [hg]; exact Nat.ne_of_lt (blk_lt (g := gb101) (o := .cells #[.int .i64 a0_0, .int .i64 a0_1, .int .i64 a0_2] 36 (0, 0)) (by (with_reducible repeat (first | refine blk_drewN ?_ _ | refine blk_drew ?_ | refine blk_alloc ?_ _)); exact BK101.out)) : gb101 ≠ gb102)); have n6_ := Aside0.mk ((by rw [hg]; exact Nat.ne_of_gt (blk_lt (g := gb101) (o := .cells #[.int .i64 a0_0, .int .i64 a0_1, .int .i64 a0_2] 36 (0, 0)) (by (with_reducible repeat (first | refine blk_drewN ?_ _ | refine blk_drew ?_ | refine blk_alloc ?_ _)); exact BK101.out)) : gb102 ≠ gb101)); clear BK101; clear HB; have BK101 := n0_; have HB := n1_; have BK102 := n2_; have GW102 := n3_; have GE102 := n4_; have NB101_102 := n5_; have NB102_101 := n6_; clear n0_ n1_ n2_ n3_ n4_ n5_ n6_; clear hb hbox hg; have hnb17 := NB101_102.out; have hnc17 := NB102_101.out; have hcz18_0 : w16.cell? ⟨gb101, 0, none⟩ = some (.int .i64 a0_0) := (blk_cell BK101.out 0).trans rfl; have hcz18_1 : w16.cell? ⟨gb101, 1, none⟩ = some (.int .i64 a0_1) := (blk_cell BK101.out 1).trans rfl; have hcz18_2 : w16.cell? ⟨gb101, 2, none⟩ = some (.int .i64 a0_2) := (blk_cell BK101.out 2).trans rfl; have hfz18_0 := blk_frozen BK101.out 0; have hfz18_1 := blk_frozen BK101.out 1; have hfz18_2 := blk_frozen BK101.out 2; have hcz19_0 : w16.cell? ⟨gb102, 0, none⟩ = some (.int .i64 a1_0) := (blk_cell BK102.out 0).trans rfl; have hcz19_1 : w16.cell? ⟨gb102, 1, none⟩ = some (.int .i64 a1_1) := (blk_cell BK102.out 1).trans rfl; have hcz19_2 : w16.cell? ⟨gb102, 2, none⟩ = some (.int .i64 a1_2) := (blk_cell BK102.out 2).trans rfl; have hfz19_0 := blk_frozen BK102.out 0; have hfz19_1 := blk_frozen BK102.out 1; have hfz19_2 := blk_frozen BK102.out 2))
  go_ret
  exact ⟨by first | rfl | (simp [errW_none, errW_some] <;> rfl) | (simp [*, errW_none, errW_some] <;> rfl), by repeat (first | (with_reducible first | exact HB.out | apply below_alloc | apply pw_below_drewN | apply below_drew1 | refine below_set ?_ GE101.out | refine below_set ?_ GE102.out) | exact HB.out)⟩
end Go.Proofs.YtecpobpcimehlaaDoor.P

namespace Go.Proofs.YtecpobpcimehlaaDoor.P
open Go.RowKit Go.Proofs.YtecpobpcimehlaaDoorW.PrintWords Go.Proofs.YtecpobpcimehlaaDoorW.PrintLast Go.Proofs.YtecpobpcimehlaaDoorW.PrintMore
attribute [local go_sem] max2_int min2_int max_two min_two max_three min_three max_four min_four   -- for this text's walks alone
set_option linter.unusedVariables false
set_option linter.unusedSimpArgs false
/-! ### impl_AreLines_1: function 37 -/
def sameB (a b : S36) : Bool := (impl_areSame.f a.f0 a.f1 a.f2 b.f0 b.f1 b.f2).getD false
theorem areSame_is (a b : S36) : impl_areSame.f a.f0 a.f1 a.f2 b.f0 b.f1 b.f2 = some (sameB a b) := by
 unfold sameB impl_areSame.f
 (repeat' split) <;> rfl
set_option maxHeartbeats 400000 in
theorem AreLines_lit (x y : S36) (B : Nat) (w : World) (hB : B < w.heap.size) (h0 : w.cell? ⟨B, 0, none⟩ = some (.int .i64 x.f0)) (h1 : w.cell? ⟨B, 1, none⟩ = some (.int .i64 x.f1)) (h2 : w.cell? ⟨B, 2, none⟩ = some (.int .i64 x.f2)) :
  Calls Tryd.prog 37 #[.agg #[.int .i64 y.f0, .int .i64 y.f1, .int .i64 y.f2], .pointer (some ⟨B, 0, none⟩)] w fun e w' => e = .returned (.bool (sameB x y)) ∧ Below w.heap.size w w' := by
 have hu36 := Tryd.underlying36
 go_enter Tryd.func37, Tryd.ntmps37
 go_wp2_with fail
 (with_reducible refine (impl_areSame.calls _ _ _ _ _ _ _ _ (areSame_is x y)).mono ?_); rintro e w1 ⟨rfl, hd⟩
 go_wp2_with fail
 go_ret
 exact ⟨rfl, below_step (by repeat (first | exact Below.refl _ _ | apply below_alloc | apply pw_below_drewN | apply below_drew1)) hd⟩
end Go.Proofs.YtecpobpcimehlaaDoor.P

namespace Go.Proofs.YtecpobpcimehlaaDoor.P
open Go.RowKit Go.Proofs.YtecpobpcimehlaaDoorW.PrintWords Go.Proofs.YtecpobpcimehlaaDoorW.PrintLast Go.Proofs.YtecpobpcimehlaaDoorW.PrintMore
attribute [local go_sem] max2_int min2_int max_two min_two max_three min_three max_four min_four   -- for this text's walks alone
set_option linter.unusedVariables false
set_option linter.unusedSimpArgs false
/-! ### impl_AreLines: function 18 -/
def badLine (l : S36) : Bool := farB l.f0 20 || (farB l.f1 20 || (farB l.f2 20 || (l.f0 == 0 && l.f1 == 0)))
def goodAt (l : List S36) (i : Nat) : Bool := !badLine (l.getD i z36) && !(l.take i).any (sameB (l.getD i z36))
def impl_AreLines.f (l0 : List S36) : Option Bool := some ((List.range l0.length).all (goodAt l0) && (decide (1 ≤ l0.length) && decide (l0.length ≤ 6)))
theorem goodAt_no (l : List S36) (i : Nat) (hi : i < l.length) (h : goodAt l i = false) (q : Bool) : ((List.range l.length).all (goodAt l) && q) = false := by
 have : (List.range l.length).all (goodAt l) = false := by
  rw [List.all_eq_false]; exact ⟨i, by simpa using hi, by simp [h]⟩
 rw [this]; rfl
theorem goodAt_all (l : List S36) (h : ∀ j, j < l.length → goodAt l j = true) (q : Bool) : ((List.range l.length).all (goodAt l) && q) = q := by
 have : (List.range l.length).all (goodAt l) = true := by rw [List.all_eq_true]; intro j hj; exact h j (by simpa using hj)
 rw [this]; rfl
theorem containsLine_calls' (g : Nat) (lb : Array Value) (eg : ∀ args w, (callFunc g args).run Tryd.prog w = .ok (.enter g args) w) (p : S36 → Bool) (A : Option Addr) (c : Nat) (l : List S36) (n : Nat) (w : World) (hn : n = l.length) (hr : Kd.C k36 w A l.length l) (hc : l.length ≤ c) (hp : PredLine g lb p w) :
  Calls Tryd.prog 36 #[.slice A n c, .func (.func g) #[] lb] w fun e w' => e = .returned (.bool (l.any p)) ∧ Below w.heap.size w w' := by
 subst hn; exact containsLine_calls g lb eg p A c l w hr hc hp
set_option maxHeartbeats 4000000 in
set_option maxRecDepth 100000 in
theorem impl_AreLines.calls (A0 : Option Addr) (c0 : Nat) (l0 : List S36) (r : Bool) (w : World) (hr0 : Kd.C k36 w A0 l0.length l0) (hc0 : l0.length ≤ c0) (h : impl_AreLines.f l0 = some r) :
  Calls Tryd.prog 18 #[.slice A0 l0.length c0] w fun e w' => e = .returned (.bool r) ∧ Below w.heap.size w w' := by
 have H : ((List.range l0.length).all (goodAt l0) && (decide (1 ≤ l0.length) && decide (l0.length ≤ 6))) = r := Option.some.inj h
 have HH := Aside0.mk H
 clear H h
 have hu36 := Tryd.underlying36
 have hmax : l0.length ≤ 9223372036854775807 := hr0.2.1
 have HR := Aside0.mk hr0
 clear hr0
 have eg : ∀ (args : Array Value) (w : World), (callFunc 37 args).run Tryd.prog w = .ok (.enter 37 args) w := enters_of Tryd.func37 (by kernel_rfl) rfl
 go_enter Tryd.func18, Tryd.ntmps18
 go_wp2_with fail
 go_loopg [7] l0.length (fun gg s7 wr => ∃ kk : Nat, kk ≤ l0.length ∧ l0.length - kk ≤ gg ∧ s7 = .int .i64 kk ∧ Aside0 (Below w.heap.size w wr) ∧ Aside0 (∀ j, j < kk → goodAt l0 j = true))
 case atStart => exact ⟨0, Nat.zero_le _, by omega, rfl, ⟨Below.refl _ w⟩, ⟨fun j hj => absurd hj (Nat.not_lt_zero _)⟩⟩
 case round =>
  obtain ⟨kk, hkk, hg, rfl, BW, AA⟩ := hrel
  by_cases hlt : kk < l0.length
  ·have hltz : (kk : Int) < (l0.length : Int) := by omega
   have hkc : kk ≤ c0 := by omega
   have hkl : kk ≤ l0.length := by omega
   obtain ⟨ad, rfl, hx0, hx1, hx2⟩ := at_T36 (Kd.C_below HR.out BW.out) (kk : Int) (by omega) hltz
   simp only [Int.toNat_natCast] at hx0 hx1 hx2
   have hrdk : rd_T36 l0 (kk : Int) = l0.getD kk z36 := rfl
   generalize hy : rd_T36 l0 (kk : Int) = y at hx0 hx1 hx2 hrdk
   have HY := Aside0.mk hrdk
   clear hrdk hy
   have HG := Aside0.mk (show goodAt l0 kk = (!badLine y && !(l0.take kk).any (sameB y)) by unfold goodAt; rw [← HY.out])
   cases hq : badLine y with
   | true =>
    have HN := Aside0.mk (show goodAt l0 kk = false by rw [HG.out, hq]; rfl)
    cases h0 : farB y.f0 20 with
    | true =>
     have Q0 := Aside0.mk h0
     clear hq h0
     go_wp2_with (first
      | ((with_reducible refine (impl_isFar.calls y.f0 20 _ _ (isFar_is _ 20 Q0.out)).mono ?_); rintro e w1 ⟨rfl, ⟨n1, rfl⟩⟩))
     go_ret
     exact ⟨by rw [← HH.out, goodAt_no l0 kk hlt HN.out]; rfl, by repeat (first | exact BW.out | apply below_alloc | apply pw_below_drewN | apply below_drew1)⟩
    | false =>
     have Q0 := Aside0.mk h0
     cases h1 : farB y.f1 20 with
     | true =>
      have Q1 := Aside0.mk h1
      clear hq h0 h1
      go_wp2_with (first
      | ((with_reducible refine (impl_isFar.calls y.f0 20 _ _ (isFar_is _ 20 Q0.out)).mono ?_); rintro e w1 ⟨rfl, ⟨n1, rfl⟩⟩)
      | ((with_reducible refine (impl_isFar.calls y.f1 20 _ _ (isFar_is _ 20 Q1.out)).mono ?_); rintro e w1 ⟨rfl, ⟨n2, rfl⟩⟩))
      go_ret
      exact ⟨by rw [← HH.out, goodAt_no l0 kk hlt HN.out]; rfl, by repeat (first | exact BW.out | apply below_alloc | apply pw_below_drewN | apply below_drew1)⟩
     | false =>
      have Q1 := Aside0.mk h1
      cases h2 : farB y.f2 20 with
      | true =>
       have Q2 := Aside0.mk h2
       clear hq h0 h1 h2
       go_wp2_with (first
      | ((with_reducible refine (impl_isFar.calls y.f0 20 _ _ (isFar_is _ 20 Q0.out)).mono ?_); rintro e w1 ⟨rfl, ⟨n1, rfl⟩⟩)
      | ((with_reducible refine (impl_isFar.calls y.f1 20 _ _ (isFar_is _ 20 Q1.out)).mono ?_); rintro e w1 ⟨rfl, ⟨n2, rfl⟩⟩)
      | ((with_reducible refine (impl_isFar.calls y.f2 20 _ _ (isFar_is _ 20 Q2.out)).mono ?_); rintro e w1 ⟨rfl, ⟨n3, rfl⟩⟩))
       go_ret
       exact ⟨by rw [← HH.out, goodAt_no l0 kk hlt HN.out]; rfl, by repeat (first | exact BW.out | apply below_alloc | apply pw_below_drewN | apply below_drew1)⟩
      | false =>
       have Q2 := Aside0.mk h2
       have hz : (y.f0 == 0) = true ∧ (y.f1 == 0) = true := by simpa [badLine, h0, h1, h2] using hq
       obtain ⟨z0b, z1b⟩ := hz
       clear hq h0 h1 h2
       go_wp2_with (first
      | ((with_reducible refine (impl_isFar.calls y.f0 20 _ _ (isFar_is _ 20 Q0.out)).mono ?_); rintro e w1 ⟨rfl, ⟨n1, rfl⟩⟩)
      | ((with_reducible refine (impl_isFar.calls y.f1 20 _ _ (isFar_is _ 20 Q1.out)).mono ?_); rintro e w1 ⟨rfl, ⟨n2, rfl⟩⟩)
      | ((with_reducible refine (impl_isFar.calls y.f2 20 _ _ (isFar_is _ 20 Q2.out)).mono ?_); rintro e w1 ⟨rfl, ⟨n3, rfl⟩⟩))
       go_ret
       exact ⟨by rw [← HH.out, goodAt_no l0 kk hlt HN.out]; rfl, by repeat (first | exact BW.out | apply below_alloc | apply pw_below_drewN | apply below_drew1)⟩
   | false =>
    have HQ := Aside0.mk hq
    have Q0 := Aside0.mk (show farB y.f0 20 = false by simp [badLine] at hq; exact hq.1)
    have Q1 := Aside0.mk (show farB y.f1 20 = false by simp [badLine] at hq; exact hq.2.1)
    have Q2 := Aside0.mk (show farB y.f2 20 = false by simp [badLine] at hq; exact hq.2.2.1)
    by_cases z0 : y.f0 = 0
    ·have z1 : ¬ y.f1 = 0 := by simp [badLine] at hq; exact hq.2.2.2 z0
     have z0b : (y.f0 == 0) = true := beq_iff_eq.mpr z0
     have z1b : (y.f1 == 0) = false := beq_eq_false_iff_ne.mpr z1
     clear z0 z1 hq
     go_wp2_with (first
      | ((with_reducible refine (impl_isFar.calls y.f0 20 _ _ (isFar_is _ 20 Q0.out)).mono ?_); rintro e w1 ⟨rfl, ⟨n1, rfl⟩⟩)
      | ((with_reducible refine (impl_isFar.calls y.f1 20 _ _ (isFar_is _ 20 Q1.out)).mono ?_); rintro e w1 ⟨rfl, ⟨n2, rfl⟩⟩)
      | ((with_reducible refine (impl_isFar.calls y.f2 20 _ _ (isFar_is _ 20 Q2.out)).mono ?_); rintro e w1 ⟨rfl, ⟨n3, rfl⟩⟩))
     cases hs : (l0.take kk).any (sameB y) with
     | true =>
      have HS := Aside0.mk hs
      clear hs
      (with_reducible refine (containsLine_calls' 37 _ eg (sameB y) (some ad) c0 (l0.take kk) kk _ (by rw [List.length_take]; omega) ?s1 ?s2 ?s3).mono ?_)
      case s1 => exact Kd.C_below (Kd.C_take HR.out (by omega)) (by repeat (first | exact BW.out | apply below_alloc | apply pw_below_drewN | apply below_drew1))
      case s2 => rw [List.length_take]; omega
      case s3 =>
       intro W x hb
       have hlw : wr.heap.size < W.heap.size := by have := hb.size; simp at this; omega
       exact AreLines_lit y x wr.heap.size W hlw ((hb.cell (p := ⟨wr.heap.size, 0, none⟩) (by simp)).trans (by simp)) ((hb.cell (p := ⟨wr.heap.size, 1, none⟩) (by simp)).trans (by simp)) ((hb.cell (p := ⟨wr.heap.size, 2, none⟩) (by simp)).trans (by simp))
      rintro e w2 ⟨rfl, hb2⟩
      rw [HS.out]
      have HN := Aside0.mk (show goodAt l0 kk = false by rw [HG.out, HQ.out, HS.out]; rfl)
      have HB2 := Aside0.mk (below_step (by repeat (first | exact BW.out | apply below_alloc | apply pw_below_drewN | apply below_drew1)) hb2)
      clear hb2
      go_wp2_with fail
      go_ret
      exact ⟨by rw [← HH.out, goodAt_no l0 kk hlt HN.out]; rfl, HB2.out⟩
     | false =>
      have HS := Aside0.mk hs
      clear hs
      (with_reducible refine (containsLine_calls' 37 _ eg (sameB y) (some ad) c0 (l0.take kk) kk _ (by rw [List.length_take]; omega) ?s1 ?s2 ?s3).mono ?_)
      case s1 => exact Kd.C_below (Kd.C_take HR.out (by omega)) (by repeat (first | exact BW.out | apply below_alloc | apply pw_below_drewN | apply below_drew1))
      case s2 => rw [List.length_take]; omega
      case s3 =>
       intro W x hb
       have hlw : wr.heap.size < W.heap.size := by have := hb.size; simp at this; omega
       exact AreLines_lit y x wr.heap.size W hlw ((hb.cell (p := ⟨wr.heap.size, 0, none⟩) (by simp)).trans (by simp)) ((hb.cell (p := ⟨wr.heap.size, 1, none⟩) (by simp)).trans (by simp)) ((hb.cell (p := ⟨wr.heap.size, 2, none⟩) (by simp)).trans (by simp))
      rintro e w2 ⟨rfl, hb2⟩
      rw [HS.out]
      have HN := Aside0.mk (show goodAt l0 kk = true by rw [HG.out, HQ.out, HS.out]; rfl)
      have HB2 := Aside0.mk (below_step (by repeat (first | exact BW.out | apply below_alloc | apply pw_below_drewN | apply below_drew1)) hb2)
      clear hb2
      go_wp2_with fail
      go_roundg (l0.length - (kk + 1))
      case measure => omega
      case rel =>
       refine ⟨kk + 1, by omega, by omega, by go_num, HB2, ⟨fun j hj => ?_⟩⟩
       by_cases e : j = kk
       ·subst e; exact HN.out
       ·exact AA.out j (by omega)
    ·have z0b : (y.f0 == 0) = false := beq_eq_false_iff_ne.mpr z0
     clear z0 hq
     go_wp2_with (first
      | ((with_reducible refine (impl_isFar.calls y.f0 20 _ _ (isFar_is _ 20 Q0.out)).mono ?_); rintro e w1 ⟨rfl, ⟨n1, rfl⟩⟩)
      | ((with_reducible refine (impl_isFar.calls y.f1 20 _ _ (isFar_is _ 20 Q1.out)).mono ?_); rintro e w1 ⟨rfl, ⟨n2, rfl⟩⟩)
      | ((with_reducible refine (impl_isFar.calls y.f2 20 _ _ (isFar_is _ 20 Q2.out)).mono ?_); rintro e w1 ⟨rfl, ⟨n3, rfl⟩⟩))
     cases hs : (l0.take kk).any (sameB y) with
     | true =>
      have HS := Aside0.mk hs
      clear hs
      (with_reducible refine (containsLine_calls' 37 _ eg (sameB y) (some ad) c0 (l0.take kk) kk _ (by rw [List.length_take]; omega) ?s1 ?s2 ?s3).mono ?_)
      case s1 => exact Kd.C_below (Kd.C_take HR.out (by omega)) (by repeat (first | exact BW.out | apply below_alloc | apply pw_below_drewN | apply below_drew1))
      case s2 => rw [List.length_take]; omega
      case s3 =>
       intro W x hb
       have hlw : wr.heap.size < W.heap.size := by have := hb.size; simp at this; omega
       exact AreLines_lit y x wr.heap.size W hlw ((hb.cell (p := ⟨wr.heap.size, 0, none⟩) (by simp)).trans (by simp)) ((hb.cell (p := ⟨wr.heap.size, 1, none⟩) (by simp)).trans (by simp)) ((hb.cell (p := ⟨wr.heap.size, 2, none⟩) (by simp)).trans (by simp))
      rintro e w2 ⟨rfl, hb2⟩
      rw [HS.out]
      have HN := Aside0.mk (show goodAt l0 kk = false by rw [HG.out, HQ.out, HS.out]; rfl)
      have HB2 := Aside0.mk (below_step (by repeat (first | exact BW.out | apply below_alloc | apply pw_below_drewN | apply below_drew1)) hb2)
      clear hb2
      go_wp2_with fail
      go_ret
      exact ⟨by rw [← HH.out, goodAt_no l0 kk hlt HN.out]; rfl, HB2.out⟩
     | false =>
      have HS := Aside0.mk hs
      clear hs
      (with_reducible refine (containsLine_calls' 37 _ eg (sameB y) (some ad) c0 (l0.take kk) kk _ (by rw [List.length_take]; omega) ?s1 ?s2 ?s3).mono ?_)
      case s1 => exact Kd.C_below (Kd.C_take HR.out (by omega)) (by repeat (first | exact BW.out | apply below_alloc | apply pw_below_drewN | apply below_drew1))
      case s2 => rw [List.length_take]; omega
      case s3 =>
       intro W x hb
       have hlw : wr.heap.size < W.heap.size := by have := hb.size; simp at this; omega
       exact AreLines_lit y x wr.heap.size W hlw ((hb.cell (p := ⟨wr.heap.size, 0, none⟩) (by simp)).trans (by simp)) ((hb.cell (p := ⟨wr.heap.size, 1, none⟩) (by simp)).trans (by simp)) ((hb.cell (p := ⟨wr.heap.size, 2, none⟩) (by simp)).trans (by simp))
      rintro e w2 ⟨rfl, hb2⟩
      rw [HS.out]
      have HN := Aside0.mk (show goodAt l0 kk = true by rw [HG.out, HQ.out, HS.out]; rfl)
      have HB2 := Aside0.mk (below_step (by repeat (first | exact BW.out | apply below_alloc | apply pw_below_drewN | apply below_drew1)) hb2)
      clear hb2
      go_wp2_with fail
      go_roundg (l0.length - (kk + 1))
      case measure => omega
      case rel =>
       refine ⟨kk + 1, by omega, by omega, by go_num, HB2, ⟨fun j hj => ?_⟩⟩
       by_cases e : j = kk
       ·subst e; exact HN.out
       ·exact AA.out j (by omega)
  ·have hltz : ¬ (kk : Int) < (l0.length : Int) := by omega
   have HE := Aside0.mk (goodAt_all l0 (fun j hj => AA.out j (by omega)))
   clear AA
   by_cases n1 : 1 ≤ l0.length
   ·have b1 : decide (1 ≤ l0.length) = true := decide_eq_true n1
    by_cases n2 : l0.length ≤ 6
    ·have b2 : decide (l0.length ≤ 6) = true := decide_eq_true n2
     have b3 : decide ((l0.length : Int) ≤ 6) = true := decide_eq_true (by omega)
     have HF := Aside0.mk (show r = true by rw [← HH.out, HE.out, b1, b2]; rfl)
     go_wp2_with fail
     go_ret
     exact ⟨by rw [HF.out]; rfl, by repeat (first | exact BW.out | apply below_alloc | apply pw_below_drewN | apply below_drew1)⟩
    ·have b2 : decide (l0.length ≤ 6) = false := decide_eq_false n2
     have b3 : decide ((l0.length : Int) ≤ 6) = false := decide_eq_false (by omega)
     have HF := Aside0.mk (show r = false by rw [← HH.out, HE.out, b1, b2]; rfl)
     go_wp2_with fail
     go_ret
     exact ⟨by rw [HF.out]; rfl, by repeat (first | exact BW.out | apply below_alloc | apply pw_below_drewN | apply below_drew1)⟩
   ·have b1 : decide (1 ≤ l0.length) = false := decide_eq_false n1
    have HF := Aside0.mk (show r = false by rw [← HH.out, HE.out, b1]; rfl)
    go_wp2_with fail
    go_ret
    exact ⟨by rw [HF.out]; rfl, by repeat (first | exact BW.out | apply below_alloc | apply pw_below_drewN | apply below_drew1)⟩
end Go.Proofs.YtecpobpcimehlaaDoor.P

namespace Go.Proofs.YtecpobpcimehlaaDoor.P
open Go.RowKit Go.Proofs.YtecpobpcimehlaaDoorW.PrintWords Go.Proofs.YtecpobpcimehlaaDoorW.PrintLast Go.Proofs.YtecpobpcimehlaaDoorW.PrintMore
attribute [local go_sem] max2_int min2_int max_two min_two max_three min_three max_four min_four   -- for this text's walks alone
set_option linter.unusedVariables false
set_option linter.unusedSimpArgs false
/-! ### strings_Join: function 39 -/
def joinOf (l : List ByteArray) (sep : ByteArray) : ByteArray := ⟨(Lib.join (l.map (·.data.toList)) sep.data.toList).toArray⟩
def strings_Join.f (l0 : List ByteArray) (a1 : ByteArray) : Option ByteArray := if l0.length ≤ 140737488355328 ∧ (Lib.join (l0.map (·.data.toList)) a1.data.toList).length ≤ 140737488355328 then some (joinOf l0 a1) else none
theorem strings_Join.calls (A0 : Option Addr) (c0 : Nat) (l0 : List ByteArray) (a1 : ByteArray) (r : ByteArray) (w : World) (hr0 : Kd.C Kd.string w A0 l0.length l0) (hc0 : l0.length ≤ c0) (h : strings_Join.f l0 a1 = some r) :
  Calls Tryd.prog 39 #[.slice A0 l0.length c0, .string a1] w fun e w' => e = .returned (.string r) ∧ Below w.heap.size w w' := by
 unfold strings_Join.f at h
 split at h
 ·rename_i hb
  obtain rfl := Option.some.inj h
  rcases Nat.eq_zero_or_pos l0.length with hl | hl
  ·obtain rfl := List.eq_nil_of_length_eq_zero hl
   refine (Tryd.strings_Join_none A0 c0 a1 w).mono ?_
   rintro e w' ⟨rfl, rfl⟩
   exact ⟨rfl, Below.refl _ _⟩
  ·obtain ⟨ad, rfl, _⟩ := Kd.at_string hr0 0 (Int.le_refl 0) (by omega)
   have hcell : ∀ (j : Nat) x, l0[j]? = some x → w.cell? (ad.add j) = some (.string x) := by
    intro j x hx
    have hj : j < l0.length := (List.getElem?_eq_some_iff.1 hx).1
    obtain ⟨ad', e, hc⟩ := Kd.at_string hr0 (j : Int) (by omega) (by omega)
    cases e
    rw [Int.toNat_natCast] at hc
    rw [hc]
    unfold rdOf
    rw [Int.toNat_natCast, List.getD_eq_getElem?_getD, hx]; rfl
   have h0 := hcell 0 l0[0] (List.getElem?_eq_getElem hl)
   obtain ⟨b, o, s⟩ := ad
   have hs : s = none := by
    cases s with
    | none => rfl
    | some q => simp [Addr.add, World.cell?] at h0; split at h0 <;> simp at h0
   subst hs
   have hbk : b < w.heap.size := World.block_lt_of_cell? _ _ h0
   refine (Tryd.strings_Join b o c0 l0 a1 w ?_ hbk hb.1 hc0 hb.2).mono ?_
   ·intro j x hx
    have h1 := hcell j x hx
    rcases Nat.eq_zero_or_pos j with rfl | hj
    ·simpa [Addr.add] using h1
    ·simpa [Addr.add, Nat.ne_of_gt hj] using h1
   ·rintro e w' ⟨rfl, hb'⟩
    exact ⟨rfl, hb'⟩
 ·cases h
theorem joinOf_some (l0 : List ByteArray) (a1 : ByteArray) (h0 : l0.length ≤ 140737488355328) (h1 : (Lib.join (l0.map (·.data.toList)) a1.data.toList).length ≤ 140737488355328) : strings_Join.f l0 a1 = some (joinOf l0 a1) := if_pos ⟨h0, h1⟩
end Go.Proofs.YtecpobpcimehlaaDoor.P

namespace Go.Proofs.YtecpobpcimehlaaDoor.P
open Go.RowKit Go.Proofs.YtecpobpcimehlaaDoorW.PrintWords Go.Proofs.YtecpobpcimehlaaDoorW.PrintLast Go.Proofs.YtecpobpcimehlaaDoorW.PrintMore
attribute [local go_sem] max2_int min2_int max_two min_two max_three min_three max_four min_four   -- for this text's walks alone
set_option linter.unusedVariables false
set_option linter.unusedSimpArgs false
/-! ### impl_Join: function 19 -/
def impl_Join.f (l0 : List ByteArray) (a1 : ByteArray) : Option (ByteArray) := (strings_Join.f l0 a1).bind fun t101 => (some t101)
set_option maxHeartbeats 8000000 in
set_option maxRecDepth 100000 in
theorem impl_Join.calls (A0 : Option Addr) (c0 : Nat) (l0 : List ByteArray) (a1 : ByteArray) (r : ByteArray) (w : World) (hr0 : Kd.C Kd.string w A0 l0.length l0) (hc0 : l0.length ≤ c0) (h : impl_Join.f l0 a1 = some r) :
  Calls Tryd.prog 19 #[.slice A0 l0.length c0, .string a1] w fun e w' => e = .returned (.string r) ∧ Below w.heap.size w w' := by
 have HR0 := Aside0.mk hr0
 have HC0 := Aside0.mk hc0
 clear hr0 hc0
 have HB := Aside0.mk (Below.refl w.heap.size w)
 have H : ((strings_Join.f l0 a1).bind fun t101 => (some t101)) = some r := h
 clear h
 replace H := Option.bind_eq_some_iff.mp H
 obtain ⟨t101, A30, H⟩ := H
 replace H : (some t101) = some r := H
 have A3 := Aside0.mk A30
 clear A30
 obtain rfl := Option.some.inj H
 go_enter Tryd.func19, Tryd.ntmps19
 go_wp2_with (first | ((with_reducible refine gate_callee (f := 39) rfl ?_); refine goesL_ (some 7) rfl rfl Tryd.func39 (by kernel_rfl) rfl #[.slice A0 l0.length c0, .string a1] rfl (by (try simp only [List.map_toArray, List.map_cons, List.map_nil]); first | done | rfl | (simp only [List.length_drop, List.length_take]; rfl)) ?_; (with_reducible refine (strings_Join.calls _ _ l0 a1 t101 _ ?side1 ?side2 A3.out).mono ?_); (case side1 => repeat (first | exact HR0.out | (with_reducible refine Kd.C_alloc ?_ _) | (with_reducible refine Kd.C_drewN ?_ _) | (with_reducible refine Kd.C_drew ?_))); (case side2 => exact HC0.out); rintro e w4 ⟨rfl, hb⟩; refine ⟨_, rfl, ?_⟩; have n0_ := Aside0.mk (below_step (by repeat (first | (with_reducible first | exact HB.out | apply below_alloc | apply pw_below_drewN | apply below_drew1) | exact HB.out)) hb); clear HB; have HB := n0_; clear n0_; (try clear hb); (try clear hb2); (try clear hk); (try clear hi)))
 go_ret
 exact ⟨by first | rfl | (simp [errW_none, errW_some] <;> rfl) | (simp [*, errW_none, errW_some] <;> rfl), by repeat (first | (with_reducible first | exact HB.out | apply below_alloc | apply pw_below_drewN | apply below_drew1) | exact HB.out)⟩
end Go.Proofs.YtecpobpcimehlaaDoor.P

namespace Go.Proofs.YtecpobpcimehlaaDoor.P
open Go.RowKit Go.Proofs.YtecpobpcimehlaaDoorW.PrintWords Go.Proofs.YtecpobpcimehlaaDoorW.PrintLast Go.Proofs.YtecpobpcimehlaaDoorW.PrintMore
attribute [local go_sem] max2_int min2_int max_two min_two max_three min_three max_four min_four   -- for this text's walks alone
set_option linter.unusedVariables false
set_option linter.unusedSimpArgs false
/-! ### impl_FormatInt: function 22 -/
def impl_FormatInt.f (a0 : Int) : Option (ByteArray) := (strconv_Itoa_43.f a0).bind fun t101 => (some t101)
set_option maxHeartbeats 8000000 in
set_option maxRecDepth 100000 in
theorem impl_FormatInt.calls (a0 : Int) (r : ByteArray) (w : World) (h : impl_FormatInt.f a0 = some r) (htab_ : Tab w) :
  Calls Tryd.prog 22 #[.int .i64 a0] w fun e w' => e = .returned (.string r) ∧ Below w.heap.size w w' := by
 have HTAB := Aside0.mk htab_
 clear htab_
 have HB := Aside0.mk (Below.refl w.heap.size w)
 have H : ((strconv_Itoa_43.f a0).bind fun t101 => (some t101)) = some r := h
 clear h
 replace H := Option.bind_eq_some_iff.mp H
 obtain ⟨t101, A20, H⟩ := H
 replace H : (some t101) = some r := H
 have A2 := Aside0.mk A20
 clear A20
 obtain rfl := Option.some.inj H
 go_enter Tryd.func22, Tryd.ntmps22
 go_wp2_with (first | ((with_reducible refine gate_callee (f := 43) rfl ?_); refine goesL_ (some 4) rfl rfl Tryd.func43 (by kernel_rfl) rfl #[.int .i64 a0] rfl (by (try simp only [List.map_toArray, List.map_cons, List.map_nil]); first | done | rfl | (simp only [List.length_drop, List.length_take]; rfl)) ?_; (with_reducible refine (strconv_Itoa_43.calls a0 t101 _ A2.out (Tab.on HTAB.out (by repeat (first | (with_reducible first | exact HB.out | apply below_alloc | apply pw_below_drewN | apply below_drew1) | exact HB.out)))).mono ?_); rintro e w3 ⟨rfl, hb⟩; refine ⟨_, rfl, ?_⟩; have n0_ := Aside0.mk (below_step (by repeat (first | (with_reducible first | exact HB.out | apply below_alloc | apply pw_below_drewN | apply below_drew1) | exact HB.out)) hb); clear HB; have HB := n0_; clear n0_; (try clear hb); (try clear hb2); (try clear hk); (try clear hi)))
 go_ret
 exact ⟨by first | rfl | (simp [errW_none, errW_some] <;> rfl) | (simp [*, errW_none, errW_some] <;> rfl), by repeat (first | (with_reducible first | exact HB.out | apply below_alloc | apply pw_below_drewN | apply below_drew1) | exact HB.out)⟩
end Go.Proofs.YtecpobpcimehlaaDoor.P

namespace Go.Proofs.YtecpobpcimehlaaDoor.P
open Go.RowKit Go.Proofs.YtecpobpcimehlaaDoorW.PrintWords Go.Proofs.YtecpobpcimehlaaDoorW.PrintLast Go.Proofs.YtecpobpcimehlaaDoorW.PrintMore
attribute [local go_sem] max2_int min2_int max_two min_two max_three min_three max_four min_four   -- for this text's walks alone
set_option linter.unusedVariables false
set_option linter.unusedSimpArgs false
/-! ### impl_NumbersText: function 20 -/
def impl_NumbersText.l0 : Nat → List ByteArray → List Int → Int → Int → Option (ByteArray)
 | 0, _, _, _, _ => none
 | k + 1, x3, x9, x10, x11 => if x11 < x10 then (if 0 ≤ x11 then (if x11 < (x9.length : Int) then ((impl_FormatInt.f (rd x9 x11)).bind fun t102 => (if x3.length < 8796093022208 then (impl_NumbersText.l0 k (x3 ++ [t102]) x9 x10 (wrap64 (x11 + 1))) else (none))) else (none)) else (none)) else ((impl_Join.f x3 (⟨#[44]⟩ : ByteArray)).bind fun t106 => (some t106))
def impl_NumbersText.f (k : Nat) (l0 : List Int) : Option (ByteArray) := if (l0.length : Int) = 0 then (some (⟨#[45]⟩ : ByteArray)) else (impl_NumbersText.l0 k ([] : List ByteArray) l0 (l0.length : Int) 0)
set_option maxHeartbeats 8000000 in
set_option maxRecDepth 100000 in
theorem impl_NumbersText.calls (k : Nat) (A0 : Option Addr) (c0 : Nat) (l0 : List Int) (r : ByteArray) (w : World) (hr0 : Kd.C (Kd.int .i64) w A0 l0.length l0) (hc0 : l0.length ≤ c0) (h : impl_NumbersText.f k l0 = some r) (htab_ : Tab w) :
  Calls Tryd.prog 20 #[.slice A0 l0.length c0] w fun e w' => e = .returned (.string r) ∧ Below w.heap.size w w' := by
 have HTAB := Aside0.mk htab_
 clear htab_
 have HR0 := Aside0.mk hr0
 have HC0 := Aside0.mk hc0
 clear hr0 hc0
 have HB := Aside0.mk (Below.refl w.heap.size w)
 have H : (if (l0.length : Int) = 0 then (some (⟨#[45]⟩ : ByteArray)) else (impl_NumbersText.l0 k ([] : List ByteArray) l0 (l0.length : Int) 0)) = some r := h
 clear h
 by_cases c2 : (l0.length : Int) = 0
 ·rw [if_pos c2] at H
  have c2b0 : ((l0.length : Int) == 0) = true := beq_iff_eq.mpr c2
  have c2b1 : ((l0.length : Int) != 0) = false := bne_eq_false_iff_eq.mpr c2
  clear c2
  obtain rfl := Option.some.inj H
  go_enter Tryd.func20, Tryd.ntmps20
  go_wp2
  go_ret
  exact ⟨by first | rfl | (simp [errW_none, errW_some] <;> rfl) | (simp [*, errW_none, errW_some] <;> rfl), by repeat (first | (with_reducible first | exact HB.out | apply below_alloc | apply pw_below_drewN | apply below_drew1) | exact HB.out)⟩
 ·rw [if_neg c2] at H
  have c2b0 : ((l0.length : Int) == 0) = false := beq_eq_false_iff_ne.mpr c2
  have c2b1 : ((l0.length : Int) != 0) = true := bne_iff_ne.mpr c2
  have c2b2 : ¬ (l0 = []) := fun h_ => c2 (by rw [h_]; rfl)
  have H' := Aside0.mk H
  clear H
  go_enter Tryd.func20, Tryd.ntmps20
  go_wp2
  go_loopg [3, 11] k (fun kq v3 v11 w' => ∃ (x3_1 : List ByteArray) (x11_1 : Int), v11 = .int .i64 x11_1 ∧ Aside0 (impl_NumbersText.l0 kq x3_1 l0 (l0.length : Int) x11_1 = some r) ∧ Aside0 (kq ≤ k) ∧ Aside0 (Kd.R Kd.string 9 w' w.heap.size (fun _ => True) v3 x3_1) ∧ Aside0 (Below w.heap.size w w'))
  case atStart => exact ⟨(([] : List ByteArray)), (0), (by first | rfl | (simp; done) | (simp [*]; done)), H', ⟨Nat.le_refl _⟩, ⟨by first | exact Kd.R_nil _ _ _ _ _ | exact Kd.N_nil _ _ _ _ _ | exact Kd.V_nil _ _ _ _ _ | exact Kd.Q_nil _ _ _ _ _ | exact Kd.S_nil _ _ _ _ _⟩, ⟨by repeat (first | (with_reducible first | exact HB.out | apply below_alloc | apply pw_below_drewN | apply below_drew1) | exact HB.out)⟩⟩
  case round =>
   clear H'
   try clear c2
   try clear c2b0
   try clear c2b1
   try clear c2b2
   obtain ⟨x3_1, x11_1, rfl, HA, HK1, HO_3, HB⟩ := hrel
   cases gk with
   | zero => exact absurd HA.out (by simp [impl_NumbersText.l0])
   | succ k1 =>
    have H := HA.out
    clear HA
    simp only [impl_NumbersText.l0] at H
    by_cases c3 : x11_1 < (l0.length : Int)
    ·rw [if_pos c3] at H
     have c3b0 : decide (x11_1 < (l0.length : Int)) = true := decide_eq_true c3
     clear c3
     by_cases c4 : 0 ≤ x11_1
     ·rw [if_pos c4] at H
      have c4b0 : decide (0 ≤ x11_1) = true := decide_eq_true c4
      clear c4
      by_cases c5 : x11_1 < (l0.length : Int)
      ·rw [if_pos c5] at H
       have c5b0 : decide (x11_1 < (l0.length : Int)) = true := decide_eq_true c5
       clear c5
       replace H := Option.bind_eq_some_iff.mp H
       obtain ⟨t102, A60, H⟩ := H
       replace H : (if x3_1.length < 8796093022208 then (impl_NumbersText.l0 k1 (x3_1 ++ [t102]) l0 (l0.length : Int) (wrap64 (x11_1 + 1))) else (none)) = some r := H
       have A6 := Aside0.mk A60
       clear A60
       by_cases c7 : x3_1.length < 8796093022208
       ·rw [if_pos c7] at H
        have LMc7 := Aside0.mk c7
        clear c7
        obtain ⟨y103, hy103⟩ : ∃ y_ : List ByteArray, y_ = (x3_1 ++ [t102]) := ⟨_, rfl⟩
        replace H : (impl_NumbersText.l0 k1 y103 l0 (l0.length : Int) (wrap64 (x11_1 + 1))) = some r := by first | (rw [hy103]; with_reducible exact H) | (have H2_ := (Option.bind_some _ _).symm.trans H; rw [hy103]; with_reducible exact H2_) | (have H2_ := (Option.bind_some _ _).symm.trans H; with_reducible exact H2_) | with_reducible exact H | (rw [hy103]; exact H) | exact H
        have Ny103 := Aside0.mk hy103
        clear hy103
        have H' := Aside0.mk H
        clear H
        have p101 : 0 ≤ (x11_1 : Int) := of_decide_eq_true (by first | (with_reducible assumption) | assumption)
        have q101 : x11_1 < (l0.length : Int) := of_decide_eq_true (by first | (with_reducible assumption) | assumption)
        obtain ⟨ad101, e101, hx101_0⟩ := Kd.at_int HR0.out x11_1 p101 q101
        cases e101
        replace hx101_0 := (HB.out.cell (World.block_lt_of_cell? w _ hx101_0)).trans hx101_0
        replace p101 := eq_true p101
        replace q101 := eq_true q101
        go_wp2_with (first | ((with_reducible refine gate_callee (f := 22) rfl ?_); refine goesL_ (some 17) rfl rfl Tryd.func22 (by kernel_rfl) rfl #[.int .i64 (rd l0 x11_1)] rfl (by (try simp only [List.map_toArray, List.map_cons, List.map_nil]); first | done | rfl | (simp only [List.length_drop, List.length_take]; rfl)) ?_; (with_reducible refine (impl_FormatInt.calls (rd l0 x11_1) t102 _ A6.out (Tab.on HTAB.out (by repeat (first | (with_reducible first | exact HB.out | apply below_alloc | apply pw_below_drewN | apply below_drew1) | exact HB.out)))).mono ?_); rintro e w8 ⟨rfl, hb⟩; refine ⟨_, rfl, ?_⟩; have n0_ := Aside0.mk (Kd.R_below (by (with_reducible repeat (first | apply Kd.R_alloc | apply Kd.R_drewN | apply Kd.R_drew)); exact HO_3.out) hb); have n1_ := Aside0.mk (below_step (by repeat (first | (with_reducible first | exact HB.out | apply below_alloc | apply pw_below_drewN | apply below_drew1) | exact HB.out)) hb); clear HO_3; clear HB; have HO_3 := n0_; have HB := n1_; clear n0_ n1_; (try clear hb); (try clear hb2); (try clear hk); (try clear hi)) | ((with_reducible refine gate_builtin (b := .append) (xs := #[.tmp 15, .tmp 18]) rfl ?_); at_builtin; refine Kd.R_append Kd.string (w0 := w) w.heap.size rfl (.tmp 15) (.tmp 18) 40 9 (.string ⟨#[]⟩) 16 rfl Tryd.underlying40 info9 rfl (by decide) (by omega) u3 x3_1 t102 [.string t102] (fun _ => True) (fun _ => False) rfl rfl ?aP (fun _ hk => hk.elim) ?aF ?aO ?aB ?aS ?aL ?_; (case aP => exact rfl); (case aB => exact (by repeat (first | (with_reducible first | exact HB.out | apply below_alloc | apply pw_below_drewN | apply below_drew1) | exact HB.out))); (case aF => exact (fun _ _ => trivial)); (case aO => exact (by (with_reducible repeat (first | apply Kd.R_alloc | apply Kd.R_drewN | apply Kd.R_drew)); exact HO_3.out)); (case aS => exact (below_size (by repeat (first | (with_reducible first | exact HB.out | apply below_alloc | apply pw_below_drewN | apply below_drew1) | exact HB.out)))); (case aL => have := LMc7.out; omega); intro v104 w9 ho hb hg hat; rw [← Ny103.out] at ho; have n0_ := Aside0.mk (hb); have n1_ := Aside0.mk (ho); clear HB; clear HO_3; have HB := n0_; have HO105 := n1_; clear n0_ n1_; clear ho hb hg hat))
        go_roundg k1
        case measure => have := HK1.out; omega
        case rel => exact ⟨(y103), (wrap64 (x11_1 + 1)), (by first | rfl | (simp; done) | (simp [*]; done)), H', ⟨by have := HK1.out; omega⟩, ⟨by (with_reducible repeat (first | apply Kd.R_alloc | apply Kd.R_drewN | apply Kd.R_drew)); exact HO105.out⟩, ⟨by repeat (first | (with_reducible first | exact HB.out | apply below_alloc | apply pw_below_drewN | apply below_drew1) | exact HB.out)⟩⟩
       ·rw [if_neg c7] at H
        exact absurd H (by simp)
      ·rw [if_neg c5] at H
       exact absurd H (by simp)
     ·rw [if_neg c4] at H
      exact absurd H (by simp)
    ·rw [if_neg c3] at H
     have c3b0 : decide (x11_1 < (l0.length : Int)) = false := decide_eq_false c3
     clear c3
     replace H := Option.bind_eq_some_iff.mp H
     obtain ⟨t106, A100, H⟩ := H
     replace H : (some t106) = some r := H
     have A10 := Aside0.mk A100
     clear A100
     obtain rfl := Option.some.inj H
     obtain ⟨Ao11, co11, eo11⟩ := Kd.R_slice HO_3.out
     subst eo11
     go_wp2_with (first | ((with_reducible refine gate_callee (f := 19) rfl ?_); refine goesL_ (some 22) rfl rfl Tryd.func19 (by kernel_rfl) rfl #[.slice Ao11 x3_1.length co11, .string (⟨#[44]⟩ : ByteArray)] rfl (by (try simp only [List.map_toArray, List.map_cons, List.map_nil]); first | done | rfl | (simp only [List.length_drop, List.length_take]; rfl)) ?_; (with_reducible refine (impl_Join.calls _ _ x3_1 (⟨#[44]⟩ : ByteArray) t106 _ ?side1 ?side2 A10.out).mono ?_); (case side1 => repeat (first | exact (Kd.R_reads' HO_3.out).2.2 | (with_reducible refine Kd.C_alloc ?_ _) | (with_reducible refine Kd.C_drewN ?_ _) | (with_reducible refine Kd.C_drew ?_))); (case side2 => exact (Kd.R_reads' HO_3.out).2.1); rintro e w12 ⟨rfl, hb⟩; refine ⟨_, rfl, ?_⟩; have n0_ := Aside0.mk (Kd.R_below (by (with_reducible repeat (first | apply Kd.R_alloc | apply Kd.R_drewN | apply Kd.R_drew)); exact HO_3.out) hb); have n1_ := Aside0.mk (below_step (by repeat (first | (with_reducible first | exact HB.out | apply below_alloc | apply pw_below_drewN | apply below_drew1) | exact HB.out)) hb); clear HO_3; clear HB; have HO_3 := n0_; have HB := n1_; clear n0_ n1_; (try clear hb); (try clear hb2); (try clear hk); (try clear hi)))
     go_ret
     exact ⟨by first | rfl | (simp [errW_none, errW_some] <;> rfl) | (simp [*, errW_none, errW_some] <;> rfl), by repeat (first | (with_reducible first | exact HB.out | apply below_alloc | apply pw_below_drewN | apply below_drew1) | exact HB.out)⟩
end Go.Proofs.YtecpobpcimehlaaDoor.P

namespace Go.Proofs.YtecpobpcimehlaaDoor.P
open Go.RowKit Go.Proofs.YtecpobpcimehlaaDoorW.PrintWords Go.Proofs.YtecpobpcimehlaaDoorW.PrintLast Go.Proofs.YtecpobpcimehlaaDoorW.PrintMore
attribute [local go_sem] max2_int min2_int max_two min_two max_three min_three max_four min_four   -- for this text's walks alone
set_option linter.unusedVariables false
set_option linter.unusedSimpArgs false
/-! ### impl_areParallel: function 45 -/
def impl_areParallel.f (a0_0 : Int) (a0_1 : Int) (a0_2 : Int) (a1_0 : Int) (a1_1 : Int) (a1_2 : Int) : Option (Bool) := some ((wrap64 (a0_0 * a1_1)) == (wrap64 (a0_1 * a1_0)))
set_option maxHeartbeats 8000000 in
set_option maxRecDepth 100000 in
theorem impl_areParallel.calls (a0_0 : Int) (a0_1 : Int) (a0_2 : Int) (a1_0 : Int) (a1_1 : Int) (a1_2 : Int) (r : Bool) (w : World) (h : impl_areParallel.f a0_0 a0_1 a0_2 a1_0 a1_1 a1_2 = some r) :
  Calls Tryd.prog 45 #[.agg #[.int .i64 a0_0, .int .i64 a0_1, .int .i64 a0_2], .agg #[.int .i64 a1_0, .int .i64 a1_1, .int .i64 a1_2]] w fun e w' => e = .returned (.bool r) ∧ Below w.heap.size w w' := by
 have hu36 := Tryd.underlying36
 have HB := Aside0.mk (Below.refl w.heap.size w)
 have H : (some ((wrap64 (a0_0 * a1_1)) == (wrap64 (a0_1 * a1_0)))) = some r := h
 clear h
 obtain rfl := Option.some.inj H
 go_enter Tryd.func45, Tryd.ntmps45
 go_wp2_with (first | ((with_reducible refine gate_dst (N := 2) rfl ?_); refine box_event ?hg (N := 2) ?hd (cs := #[.int .i64 a0_0, .int .i64 a0_1, .int .i64 a0_2]) (t := 36) ?hr ?_; (case hd => rfl); (case hg => rfl); (case hr => first | (go_simp; done) | (go_simp; rfl)); intro gb101 hg w3 hbox hb; have n0_ := Aside0.mk (below_step (by repeat (first | (with_reducible first | exact HB.out | apply below_alloc | apply pw_below_drewN | apply below_drew1) | exact HB.out)) hb); have n1_ := Aside0.mk (hbox); have n2_ := Aside0.mk ((by rw [hg]; exact (below_size (by repeat (first | (with_reducible first | exact HB.out | apply below_alloc | apply pw_below_drewN | apply below_drew1) | exact HB.out))) : w.heap.size ≤ gb101)); have n3_ := Aside0.mk ((by rw [hg]; exact (below_size (by repeat (first | (with_reducible first | exact HB.out | apply below_alloc | apply pw_below_drewN | apply below_drew1) | exact HB.out))) : w.heap.size ≤ gb101)); clear HB; have HB := n0_; have BK101 := n1_; have GW101 := n2_; have GE101 := n3_; clear n0_ n1_ n2_ n3_; clear hb hbox hg) | ((with_reducible refine gate_dst (N := 3) rfl ?_); refine box_event ?hg (N := 3) ?hd (cs := #[.int .i64 a1_0, .int .i64 a1_1, .int .i64 a1_2]) (t := 36) ?hr ?_; (case hd => rfl); (case hg => rfl); (case hr => first | (go_simp; done) | (go_simp; rfl)); intro gb102 hg w4 hbox hb; have n0_ := Aside0.mk (blk_below (g := gb101) (o := .cells #[.int .i64 a0_0, .int .i64 a0_1, .int .i64 a0_2] 36 (0, 0)) (by (with_reducible repeat (first | refine blk_drewN ?_ _ | refine blk_drew ?_ | refine blk_alloc ?_ _)); exact BK101.out) hb); have n1_ := Aside0.mk (below_step (by repeat (first | (with_reducible first | exact HB.out | apply below_alloc | apply pw_below_drewN | apply below_drew1 | refine below_set ?_ GE101.out) | exact HB.out)) hb); have n2_ := Aside0.mk (hbox); have n3_ := Aside0.mk ((by rw [hg]; exact (below_size (by repeat (first | (with_reducible first | exact HB.out | apply below_alloc | apply pw_below_drewN | apply below_drew1 | refine below_set ?_ GE101.out) | exact HB.out))) : w.heap.size ≤ gb102)); have n4_ := Aside0.mk ((by rw [hg]; exact (below_size (by repeat (first | (with_reducible first | exact HB.out | apply below_alloc | apply pw_below_drewN | apply below_drew1 | refine below_set ?_ GE101.out) | exact HB.out))) : w.heap.size ≤ gb102)); have n5_ := Aside0.mk ((by rw [hg]; exact Nat.ne_of_lt (blk_lt (g := gb101) (o := .cells #[.int .i64 a0_0, .int .i64 a0_1, .int .i64 a0_2] 36 (0, 0)) (by (with_reducible repeat (first | refine blk_drewN ?_ _ | refine blk_drew ?_ | refine blk_alloc ?_ _)); exact BK101.out)) : gb101 ≠ gb102)); have n6_ := Aside0.mk ((by rw [hg]; exact Nat.ne_of_gt (blk_lt (g := gb101) (o := .cells #[.int .i64 a0_0, .int .i64 a0_1, .int .i64 a0_2] 36 (0, 0)) (by (with_reducible repeat (first | refine blk_drewN ?_ _ | refine blk_drew ?_ | refine blk_alloc ?_ _)); exact BK101.out)) : gb102 ≠ gb101)); clear BK101; clear HB; have BK101 := n0_; have HB := n1_; have BK102 := n2_; have GW102 := n3_; have GE102 := n4_; have NB101_102 := n5_; have NB102_101 := n6_; clear n0_ n1_ n2_ n3_ n4_ n5_ n6_; clear hb hbox hg; have hnb5 := NB101_102.out; have hnc5 := NB102_101.out; have hcz6_0 : w4.cell? ⟨gb101, 0, none⟩ = some (.int .i64 a0_0) := (blk_cell BK101.out 0).trans rfl; have hcz6_1 : w4.cell? ⟨gb101, 1, none⟩ = some (.int .i64 a0_1) := (blk_cell BK101.out 1).trans rfl; have hcz6_2 : w4.cell? ⟨gb101, 2, none⟩ = some (.int .i64 a0_2) := (blk_cell BK101.out 2).trans rfl; have hfz6_0 := blk_frozen BK101.out 0; have hfz6_1 := blk_frozen BK101.out 1; have hfz6_2 := blk_frozen BK101.out 2; have hcz7_0 : w4.cell? ⟨gb102, 0, none⟩ = some (.int .i64 a1_0) := (blk_cell BK102.out 0).trans rfl; have hcz7_1 : w4.cell? ⟨gb102, 1, none⟩ = some (.int .i64 a1_1) := (blk_cell BK102.out 1).trans rfl; have hcz7_2 : w4.cell? ⟨gb102, 2, none⟩ = some (.int .i64 a1_2) := (blk_cell BK102.out 2).trans rfl; have hfz7_0 := blk_frozen BK102.out 0; have hfz7_1 := blk_frozen BK102.out 1; have hfz7_2 := blk_frozen BK102.out 2))
 go_ret
 exact ⟨by first | rfl | (simp [errW_none, errW_some] <;> rfl) | (simp [*, errW_none, errW_some] <;> rfl), by repeat (first | (with_reducible first | exact HB.out | apply below_alloc | apply pw_below_drewN | apply below_drew1 | refine below_set ?_ GE101.out | refine below_set ?_ GE102.out) | exact HB.out)⟩
end Go.Proofs.YtecpobpcimehlaaDoor.P

namespace Go.Proofs.YtecpobpcimehlaaDoor.P
open Go.RowKit Go.Proofs.YtecpobpcimehlaaDoorW.PrintWords Go.Proofs.YtecpobpcimehlaaDoorW.PrintLast Go.Proofs.YtecpobpcimehlaaDoorW.PrintMore
attribute [local go_sem] max2_int min2_int max_two min_two max_three min_three max_four min_four   -- for this text's walks alone
set_option linter.unusedVariables false
set_option linter.unusedSimpArgs false
/-! ### impl_divisor: function 62 -/
mutual
def impl_divisor.l0 : Nat → Int → List Int → Int → Int → Option (Int)
 | 0, _, _, _, _ => none
 | k + 1, x3, x6, x7, x8 => if x8 < x7 then (if 0 ≤ x8 then (if x8 < (x6.length : Int) then (impl_divisor.l1 k x3 (rd x6 x8) x6 x7 x8) else (none)) else (none)) else (some (mx x3 (wrap64 (-x3))))
def impl_divisor.l1 : Nat → Int → Int → List Int → Int → Int → Option (Int)
 | 0, _, _, _, _, _ => none
 | k + 1, x3, x5, x6, x7, x8 => if x5 = 0 then (impl_divisor.l0 k x3 x6 x7 (wrap64 (x8 + 1))) else (impl_divisor.l1 k x5 (Int.tmod x3 x5) x6 x7 x8)
end
def impl_divisor.f (k : Nat) (l0 : List Int) : Option (Int) := impl_divisor.l0 k 0 l0 (l0.length : Int) 0
set_option maxHeartbeats 8000000 in
set_option maxRecDepth 100000 in
theorem impl_divisor.calls (k : Nat) (A0 : Option Addr) (c0 : Nat) (l0 : List Int) (r : Int) (w : World) (hr0 : Kd.C (Kd.int .i64) w A0 l0.length l0) (hc0 : l0.length ≤ c0) (h : impl_divisor.f k l0 = some r) :
  Calls Tryd.prog 62 #[.slice A0 l0.length c0] w fun e w' => e = .returned (.int .i64 r) ∧ Below w.heap.size w w' := by
 have HR0 := Aside0.mk hr0
 have HC0 := Aside0.mk hc0
 clear hr0 hc0
 have HB := Aside0.mk (Below.refl w.heap.size w)
 have H : (impl_divisor.l0 k 0 l0 (l0.length : Int) 0) = some r := h
 clear h
 have H' := Aside0.mk H
 clear H
 go_enter Tryd.func62, Tryd.ntmps62
 go_wp2
 repeat (go_quiet (fail); try go_wp2)
 go_loopg [3, 8] k (fun kq v3 v8 w' => ∃ (x3_1 : Int) (x8_1 : Int), v3 = .int .i64 x3_1 ∧ v8 = .int .i64 x8_1 ∧ Aside0 (impl_divisor.l0 kq x3_1 l0 (l0.length : Int) x8_1 = some r) ∧ Aside0 (kq ≤ k) ∧ Aside0 (Below w.heap.size w w'))
 case atStart => exact ⟨(0), (0), (by first | rfl | (simp; done) | (simp [*]; done)), (by first | rfl | (simp; done) | (simp [*]; done)), H', ⟨Nat.le_refl _⟩, ⟨by repeat (first | (with_reducible first | exact HB.out | apply below_alloc | apply pw_below_drewN | apply below_drew1) | exact HB.out)⟩⟩
 case round =>
  clear H'
  obtain ⟨x3_1, x8_1, rfl, rfl, HA, HK1, HB⟩ := hrel
  cases gk with
  | zero => exact absurd HA.out (by simp [impl_divisor.l0])
  | succ k1 =>
   have H := HA.out
   clear HA
   simp only [impl_divisor.l0] at H
   by_cases c2 : x8_1 < (l0.length : Int)
   ·rw [if_pos c2] at H
    have c2b0 : decide (x8_1 < (l0.length : Int)) = true := decide_eq_true c2
    clear c2
    by_cases c3 : 0 ≤ x8_1
    ·rw [if_pos c3] at H
     have c3b0 : decide (0 ≤ x8_1) = true := decide_eq_true c3
     clear c3
     by_cases c4 : x8_1 < (l0.length : Int)
     ·rw [if_pos c4] at H
      have c4b0 : decide (x8_1 < (l0.length : Int)) = true := decide_eq_true c4
      clear c4
      have H' := Aside0.mk H
      clear H
      have p101 : 0 ≤ (x8_1 : Int) := of_decide_eq_true (by first | (with_reducible assumption) | assumption)
      have q101 : x8_1 < (l0.length : Int) := of_decide_eq_true (by first | (with_reducible assumption) | assumption)
      obtain ⟨ad101, e101, hx101_0⟩ := Kd.at_int HR0.out x8_1 p101 q101
      cases e101
      replace hx101_0 := (HB.out.cell (World.block_lt_of_cell? w _ hx101_0)).trans hx101_0
      replace p101 := eq_true p101
      replace q101 := eq_true q101
      go_wp2
      repeat (go_quiet (fail); try go_wp2)
      go_loopg [3, 5] k1 (fun kq v3 v5 w' => ∃ (x3_2 : Int) (x5_2 : Int), v3 = .int .i64 x3_2 ∧ v5 = .int .i64 x5_2 ∧ Aside0 (impl_divisor.l1 kq x3_2 x5_2 l0 (l0.length : Int) x8_1 = some r) ∧ Aside0 (kq ≤ k1) ∧ Aside0 (Below w.heap.size w w'))
      case atStart => exact ⟨(x3_1), (rd l0 x8_1), (by first | rfl | (simp; done) | (simp [*]; done)), (by first | rfl | (simp; done) | (simp [*]; done)), H', ⟨Nat.le_refl _⟩, ⟨by repeat (first | (with_reducible first | exact HB.out | apply below_alloc | apply pw_below_drewN | apply below_drew1) | exact HB.out)⟩⟩
      case round =>
       clear H'
       try clear c2
       try clear c2b0
       try clear c3
       try clear c3b0
       try clear c4
       try clear c4b0
       try clear hx101_0
       try clear p101
       try clear q101
       obtain ⟨x3_2, x5_2, rfl, rfl, HA, HK2, HB⟩ := hrel
       cases gk with
       | zero => exact absurd HA.out (by simp [impl_divisor.l1])
       | succ k2 =>
        have H := HA.out
        clear HA
        simp only [impl_divisor.l1] at H
        by_cases c5 : x5_2 = 0
        ·rw [if_pos c5] at H
         have c5b0 : (x5_2 == 0) = true := beq_iff_eq.mpr c5
         have c5b1 : (x5_2 != 0) = false := bne_eq_false_iff_eq.mpr c5
         clear c5
         have H' := Aside0.mk H
         clear H
         go_wp2
         repeat (go_quiet (fail); try go_wp2)
         go_roundg k2
         case measure => have := HK1.out; have := HK2.out; omega
         case rel => exact ⟨(x3_2), (wrap64 (x8_1 + 1)), (by first | rfl | (simp; done) | (simp [*]; done)), (by first | rfl | (simp; done) | (simp [*]; done)), H', ⟨by have := HK1.out; have := HK2.out; omega⟩, ⟨by repeat (first | (with_reducible first | exact HB.out | apply below_alloc | apply pw_below_drewN | apply below_drew1) | exact HB.out)⟩⟩
        ·rw [if_neg c5] at H
         have c5b0 : (x5_2 == 0) = false := beq_eq_false_iff_ne.mpr c5
         have c5b1 : (x5_2 != 0) = true := bne_iff_ne.mpr c5
         have H' := Aside0.mk H
         clear H
         go_wp2
         repeat (go_quiet (fail); try go_wp2)
         go_roundg k2
         case measure => have := HK1.out; have := HK2.out; omega
         case rel => exact ⟨(x5_2), (Int.tmod x3_2 x5_2), (by first | rfl | (simp; done) | (simp [*]; done)), (by first | rfl | (simp; done) | (simp [*]; done)), H', ⟨by have := HK1.out; have := HK2.out; omega⟩, ⟨by repeat (first | (with_reducible first | exact HB.out | apply below_alloc | apply pw_below_drewN | apply below_drew1) | exact HB.out)⟩⟩
     ·rw [if_neg c4] at H
      exact absurd H (by simp)
    ·rw [if_neg c3] at H
     exact absurd H (by simp)
   ·rw [if_neg c2] at H
    have c2b0 : decide (x8_1 < (l0.length : Int)) = false := decide_eq_false c2
    clear c2
    obtain ⟨ji6, hji6⟩ : ∃ j_ : Int, (mx x3_1 (wrap64 (-x3_1))) = j_ := ⟨_, rfl⟩
    replace H : (some ji6) = some r := by first | (rw [hji6] at H; exact H) | (simp only [hji6] at H ⊢; exact H)
    have hji6_ : (if x3_1 < (wrap64 (-x3_1)) then (wrap64 (-x3_1)) else x3_1) = ji6 := hji6
    obtain rfl := Option.some.inj H
    go_wp2
    repeat (go_quiet (fail); try go_wp2)
    go_ret
    exact ⟨by first | rfl | (simp [errW_none, errW_some] <;> rfl) | (simp only [← hji6]; first | rfl | (simp [errW_none, errW_some] <;> rfl)) | (simp [*, errW_none, errW_some] <;> rfl), by repeat (first | (with_reducible first | exact HB.out | apply below_alloc | apply pw_below_drewN | apply below_drew1) | exact HB.out)⟩
end Go.Proofs.YtecpobpcimehlaaDoor.P

namespace Go.Proofs.YtecpobpcimehlaaDoor.P
open Go.RowKit Go.Proofs.YtecpobpcimehlaaDoorW.PrintWords Go.Proofs.YtecpobpcimehlaaDoorW.PrintLast Go.Proofs.YtecpobpcimehlaaDoorW.PrintMore
attribute [local go_sem] max2_int min2_int max_two min_two max_three min_three max_four min_four   -- for this text's walks alone
set_option linter.unusedVariables false
set_option linter.unusedSimpArgs false
/-! ### cmp_isNaN_int: function 85 -/
def cmp_isNaN_int.f (a0 : Int) : Option (Bool) := some (a0 != a0)
set_option maxHeartbeats 8000000 in
set_option maxRecDepth 100000 in
theorem cmp_isNaN_int.calls (a0 : Int) (r : Bool) (w : World) (h : cmp_isNaN_int.f a0 = some r) :
  Calls Tryd.prog 85 #[.int .i64 a0] w fun e w' => e = .returned (.bool r) ∧ Drawn0 w w' := by
 have H : (some (a0 != a0)) = some r := h
 clear h
 obtain rfl := Option.some.inj H
 go_enter Tryd.func85, Tryd.ntmps85
 go_wp2
 go_ret
 exact ⟨by first | rfl | (simp; done) | (simp [*]; done), by repeat (first | exact Drawn0.refl _ | apply Drawn0.step)⟩
end Go.Proofs.YtecpobpcimehlaaDoor.P

namespace Go.Proofs.YtecpobpcimehlaaDoor.P
open Go.RowKit Go.Proofs.YtecpobpcimehlaaDoorW.PrintWords Go.Proofs.YtecpobpcimehlaaDoorW.PrintLast Go.Proofs.YtecpobpcimehlaaDoorW.PrintMore
attribute [local go_sem] max2_int min2_int max_two min_two max_three min_three max_four min_four   -- for this text's walks alone
set_option linter.unusedVariables false
set_option linter.unusedSimpArgs false
/-! ### cmp_Compare_int: function 79 -/
def cmp_Compare_int.f (a0 : Int) (a1 : Int) : Option (Int) := (cmp_isNaN_int.f a0).bind fun t101 => ((cmp_isNaN_int.f a1).bind fun t102 => (if t101 = true then (if t102 = true then (some 0) else (some (-1))) else (if t102 = true then (some 1) else (if a0 < a1 then (some (-1)) else (if a0 > a1 then (some 1) else (some 0))))))
set_option maxHeartbeats 8000000 in
set_option maxRecDepth 100000 in
theorem cmp_Compare_int.calls (a0 : Int) (a1 : Int) (r : Int) (w : World) (h : cmp_Compare_int.f a0 a1 = some r) :
  Calls Tryd.prog 79 #[.int .i64 a0, .int .i64 a1] w fun e w' => e = .returned (.int .i64 r) ∧ Drawn0 w w' := by
 have H : ((cmp_isNaN_int.f a0).bind fun t101 => ((cmp_isNaN_int.f a1).bind fun t102 => (if t101 = true then (if t102 = true then (some 0) else (some (-1))) else (if t102 = true then (some 1) else (if a0 < a1 then (some (-1)) else (if a0 > a1 then (some 1) else (some 0))))))) = some r := h
 clear h
 replace H := Option.bind_eq_some_iff.mp H
 obtain ⟨t101, A30, H⟩ := H
 replace H : ((cmp_isNaN_int.f a1).bind fun t102 => (if t101 = true then (if t102 = true then (some 0) else (some (-1))) else (if t102 = true then (some 1) else (if a0 < a1 then (some (-1)) else (if a0 > a1 then (some 1) else (some 0)))))) = some r := H
 have A3 := Aside0.mk A30
 clear A30
 replace H := Option.bind_eq_some_iff.mp H
 obtain ⟨t102, A40, H⟩ := H
 replace H : (if t101 = true then (if t102 = true then (some 0) else (some (-1))) else (if t102 = true then (some 1) else (if a0 < a1 then (some (-1)) else (if a0 > a1 then (some 1) else (some 0))))) = some r := H
 have A4 := Aside0.mk A40
 clear A40
 by_cases c5 : t101 = true
 ·subst c5
  have H1 : (if t102 = true then (some 0) else (some (-1))) = some r := by rw [if_pos rfl] at H; exact H
  clear H
  have H := H1
  clear H1
  by_cases c6 : t102 = true
  ·subst c6
   have H1 : (some 0) = some r := by rw [if_pos rfl] at H; exact H
   clear H
   have H := H1
   clear H1
   obtain rfl := Option.some.inj H
   go_enter Tryd.func79, Tryd.ntmps79
   go_wp2_with (first | ((with_reducible refine gate_callee (f := 85) rfl ?_); refine goesL_ (some 8) rfl rfl Tryd.func85 (by kernel_rfl) rfl #[.int .i64 a0] rfl (by (try simp only [List.map_toArray, List.map_cons, List.map_nil]); first | done | rfl | (simp only [List.length_drop, List.length_take]; rfl)) ?_; (with_reducible refine (cmp_isNaN_int.calls a0 true _ A3.out).mono ?_); rintro e w' ⟨rfl, ⟨nd, rfl⟩⟩; refine ⟨_, rfl, ?_⟩) | ((with_reducible refine gate_callee (f := 85) rfl ?_); refine goesL_ (some 10) rfl rfl Tryd.func85 (by kernel_rfl) rfl #[.int .i64 a1] rfl (by (try simp only [List.map_toArray, List.map_cons, List.map_nil]); first | done | rfl | (simp only [List.length_drop, List.length_take]; rfl)) ?_; (with_reducible refine (cmp_isNaN_int.calls a1 true _ A4.out).mono ?_); rintro e w' ⟨rfl, ⟨nd, rfl⟩⟩; refine ⟨_, rfl, ?_⟩))
   go_ret
   exact ⟨by first | rfl | (simp; done) | (simp [*]; done), by repeat (first | exact Drawn0.refl _ | apply Drawn0.step)⟩
  ·replace c6 := Bool.eq_false_iff.mpr c6
   subst c6
   have H1 : (some (-1)) = some r := by rw [if_neg (show ¬ (false = true) by decide)] at H; exact H
   clear H
   have H := H1
   clear H1
   obtain rfl := Option.some.inj H
   go_enter Tryd.func79, Tryd.ntmps79
   go_wp2_with (first | ((with_reducible refine gate_callee (f := 85) rfl ?_); refine goesL_ (some 8) rfl rfl Tryd.func85 (by kernel_rfl) rfl #[.int .i64 a0] rfl (by (try simp only [List.map_toArray, List.map_cons, List.map_nil]); first | done | rfl | (simp only [List.length_drop, List.length_take]; rfl)) ?_; (with_reducible refine (cmp_isNaN_int.calls a0 true _ A3.out).mono ?_); rintro e w' ⟨rfl, ⟨nd, rfl⟩⟩; refine ⟨_, rfl, ?_⟩) | ((with_reducible refine gate_callee (f := 85) rfl ?_); refine goesL_ (some 10) rfl rfl Tryd.func85 (by kernel_rfl) rfl #[.int .i64 a1] rfl (by (try simp only [List.map_toArray, List.map_cons, List.map_nil]); first | done | rfl | (simp only [List.length_drop, List.length_take]; rfl)) ?_; (with_reducible refine (cmp_isNaN_int.calls a1 false _ A4.out).mono ?_); rintro e w' ⟨rfl, ⟨nd, rfl⟩⟩; refine ⟨_, rfl, ?_⟩))
   go_ret
   exact ⟨by first | rfl | (simp; done) | (simp [*]; done), by repeat (first | exact Drawn0.refl _ | apply Drawn0.step)⟩
 ·replace c5 := Bool.eq_false_iff.mpr c5
  subst c5
  have H1 : (if t102 = true then (some 1) else (if a0 < a1 then (some (-1)) else (if a0 > a1 then (some 1) else (some 0)))) = some r := by rw [if_neg (show ¬ (false = true) by decide)] at H; exact H
  clear H
  have H := H1
  clear H1
  by_cases c7 : t102 = true
  ·subst c7
   have H1 : (some 1) = some r := by rw [if_pos rfl] at H; exact H
   clear H
   have H := H1
   clear H1
   obtain rfl := Option.some.inj H
   go_enter Tryd.func79, Tryd.ntmps79
   go_wp2_with (first | ((with_reducible refine gate_callee (f := 85) rfl ?_); refine goesL_ (some 8) rfl rfl Tryd.func85 (by kernel_rfl) rfl #[.int .i64 a0] rfl (by (try simp only [List.map_toArray, List.map_cons, List.map_nil]); first | done | rfl | (simp only [List.length_drop, List.length_take]; rfl)) ?_; (with_reducible refine (cmp_isNaN_int.calls a0 false _ A3.out).mono ?_); rintro e w' ⟨rfl, ⟨nd, rfl⟩⟩; refine ⟨_, rfl, ?_⟩) | ((with_reducible refine gate_callee (f := 85) rfl ?_); refine goesL_ (some 10) rfl rfl Tryd.func85 (by kernel_rfl) rfl #[.int .i64 a1] rfl (by (try simp only [List.map_toArray, List.map_cons, List.map_nil]); first | done | rfl | (simp only [List.length_drop, List.length_take]; rfl)) ?_; (with_reducible refine (cmp_isNaN_int.calls a1 true _ A4.out).mono ?_); rintro e w' ⟨rfl, ⟨nd, rfl⟩⟩; refine ⟨_, rfl, ?_⟩))
   go_ret
   exact ⟨by first | rfl | (simp; done) | (simp [*]; done), by repeat (first | exact Drawn0.refl _ | apply Drawn0.step)⟩
  ·replace c7 := Bool.eq_false_iff.mpr c7
   subst c7
   have H1 : (if a0 < a1 then (some (-1)) else (if a0 > a1 then (some 1) else (some 0))) = some r := by rw [if_neg (show ¬ (false = true) by decide)] at H; exact H
   clear H
   have H := H1
   clear H1
   by_cases c8 : a0 < a1
   ·rw [if_pos c8] at H
    have c8b0 : decide (a0 < a1) = true := decide_eq_true c8
    clear c8
    obtain rfl := Option.some.inj H
    go_enter Tryd.func79, Tryd.ntmps79
    go_wp2_with (first | ((with_reducible refine gate_callee (f := 85) rfl ?_); refine goesL_ (some 8) rfl rfl Tryd.func85 (by kernel_rfl) rfl #[.int .i64 a0] rfl (by (try simp only [List.map_toArray, List.map_cons, List.map_nil]); first | done | rfl | (simp only [List.length_drop, List.length_take]; rfl)) ?_; (with_reducible refine (cmp_isNaN_int.calls a0 false _ A3.out).mono ?_); rintro e w' ⟨rfl, ⟨nd, rfl⟩⟩; refine ⟨_, rfl, ?_⟩) | ((with_reducible refine gate_callee (f := 85) rfl ?_); refine goesL_ (some 10) rfl rfl Tryd.func85 (by kernel_rfl) rfl #[.int .i64 a1] rfl (by (try simp only [List.map_toArray, List.map_cons, List.map_nil]); first | done | rfl | (simp only [List.length_drop, List.length_take]; rfl)) ?_; (with_reducible refine (cmp_isNaN_int.calls a1 false _ A4.out).mono ?_); rintro e w' ⟨rfl, ⟨nd, rfl⟩⟩; refine ⟨_, rfl, ?_⟩))
    go_ret
    exact ⟨by first | rfl | (simp; done) | (simp [*]; done), by repeat (first | exact Drawn0.refl _ | apply Drawn0.step)⟩
   ·rw [if_neg c8] at H
    have c8b0 : decide (a0 < a1) = false := decide_eq_false c8
    clear c8
    by_cases c9 : a0 > a1
    ·rw [if_pos c9] at H
     have c9b0 : decide (a1 < a0) = true := decide_eq_true c9
     clear c9
     obtain rfl := Option.some.inj H
     go_enter Tryd.func79, Tryd.ntmps79
     go_wp2_with (first | ((with_reducible refine gate_callee (f := 85) rfl ?_); refine goesL_ (some 8) rfl rfl Tryd.func85 (by kernel_rfl) rfl #[.int .i64 a0] rfl (by (try simp only [List.map_toArray, List.map_cons, List.map_nil]); first | done | rfl | (simp only [List.length_drop, List.length_take]; rfl)) ?_; (with_reducible refine (cmp_isNaN_int.calls a0 false _ A3.out).mono ?_); rintro e w' ⟨rfl, ⟨nd, rfl⟩⟩; refine ⟨_, rfl, ?_⟩) | ((with_reducible refine gate_callee (f := 85) rfl ?_); refine goesL_ (some 10) rfl rfl Tryd.func85 (by kernel_rfl) rfl #[.int .i64 a1] rfl (by (try simp only [List.map_toArray, List.map_cons, List.map_nil]); first | done | rfl | (simp only [List.length_drop, List.length_take]; rfl)) ?_; (with_reducible refine (cmp_isNaN_int.calls a1 false _ A4.out).mono ?_); rintro e w' ⟨rfl, ⟨nd, rfl⟩⟩; refine ⟨_, rfl, ?_⟩))
     go_ret
     exact ⟨by first | rfl | (simp; done) | (simp [*]; done), by repeat (first | exact Drawn0.refl _ | apply Drawn0.step)⟩
    ·rw [if_neg c9] at H
     have c9b0 : decide (a1 < a0) = false := decide_eq_false c9
     clear c9
     obtain rfl := Option.some.inj H
     go_enter Tryd.func79, Tryd.ntmps79
     go_wp2_with (first | ((with_reducible refine gate_callee (f := 85) rfl ?_); refine goesL_ (some 8) rfl rfl Tryd.func85 (by kernel_rfl) rfl #[.int .i64 a0] rfl (by (try simp only [List.map_toArray, List.map_cons, List.map_nil]); first | done | rfl | (simp only [List.length_drop, List.length_take]; rfl)) ?_; (with_reducible refine (cmp_isNaN_int.calls a0 false _ A3.out).mono ?_); rintro e w' ⟨rfl, ⟨nd, rfl⟩⟩; refine ⟨_, rfl, ?_⟩) | ((with_reducible refine gate_callee (f := 85) rfl ?_); refine goesL_ (some 10) rfl rfl Tryd.func85 (by kernel_rfl) rfl #[.int .i64 a1] rfl (by (try simp only [List.map_toArray, List.map_cons, List.map_nil]); first | done | rfl | (simp only [List.length_drop, List.length_take]; rfl)) ?_; (with_reducible refine (cmp_isNaN_int.calls a1 false _ A4.out).mono ?_); rintro e w' ⟨rfl, ⟨nd, rfl⟩⟩; refine ⟨_, rfl, ?_⟩))
     go_ret
     exact ⟨by first | rfl | (simp; done) | (simp [*]; done), by repeat (first | exact Drawn0.refl _ | apply Drawn0.step)⟩
end Go.Proofs.YtecpobpcimehlaaDoor.P

namespace Go.Proofs.YtecpobpcimehlaaDoor.P
open Go.RowKit Go.Proofs.YtecpobpcimehlaaDoorW.PrintWords Go.Proofs.YtecpobpcimehlaaDoorW.PrintLast Go.Proofs.YtecpobpcimehlaaDoorW.PrintMore
attribute [local go_sem] max2_int min2_int max_two min_two max_three min_three max_four min_four   -- for this text's walks alone
set_option linter.unusedVariables false
set_option linter.unusedSimpArgs false
/-! ### impl_signOf: function 63 -/
def impl_signOf.f (a0 : Int) : Option (Int) := (cmp_Compare_int.f a0 0).bind fun t101 => (some t101)
set_option maxHeartbeats 8000000 in
set_option maxRecDepth 100000 in
theorem impl_signOf.calls (a0 : Int) (r : Int) (w : World) (h : impl_signOf.f a0 = some r) :
  Calls Tryd.prog 63 #[.int .i64 a0] w fun e w' => e = .returned (.int .i64 r) ∧ Drawn0 w w' := by
 have H : ((cmp_Compare_int.f a0 0).bind fun t101 => (some t101)) = some r := h
 clear h
 replace H := Option.bind_eq_some_iff.mp H
 obtain ⟨t101, A20, H⟩ := H
 replace H : (some t101) = some r := H
 have A2 := Aside0.mk A20
 clear A20
 obtain rfl := Option.some.inj H
 go_enter Tryd.func63, Tryd.ntmps63
 go_wp2_with (first | ((with_reducible refine gate_callee (f := 79) rfl ?_); refine goesL_ (some 4) rfl rfl Tryd.func79 (by kernel_rfl) rfl #[.int .i64 a0, .int .i64 0] rfl (by (try simp only [List.map_toArray, List.map_cons, List.map_nil]); first | done | rfl | (simp only [List.length_drop, List.length_take]; rfl)) ?_; (with_reducible refine (cmp_Compare_int.calls a0 0 t101 _ A2.out).mono ?_); rintro e w' ⟨rfl, ⟨nd, rfl⟩⟩; refine ⟨_, rfl, ?_⟩))
 go_ret
 exact ⟨by first | rfl | (simp; done) | (simp [*]; done), by repeat (first | exact Drawn0.refl _ | apply Drawn0.step)⟩
end Go.Proofs.YtecpobpcimehlaaDoor.P

