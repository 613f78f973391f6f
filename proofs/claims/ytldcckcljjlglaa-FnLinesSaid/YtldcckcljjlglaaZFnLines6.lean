/- A part of the proof of FnLines: printed contracts and plain laws, joined by a program of this session. -/
import Derived.Test.YtldcckcljjlglaaZFnLines5
namespace Go.Proofs.Ytldcckcljjlglaa.P
open Go.RowKit Go.Proofs.YtldcckcljjlglaaW.PrintWords Go.Proofs.YtldcckcljjlglaaW.PrintLast Go.Proofs.YtldcckcljjlglaaW.PrintMore
attribute [local go_sem] max2_int min2_int max_two min_two max_three min_three max_four min_four   -- for this text's walks alone
set_option linter.unusedVariables false
set_option linter.unusedSimpArgs false
/-! ### laws_FnLines: function 9 -/
mutual
def laws_FnLines.j0 : Nat → List (S40) → List Int → Int → Int → Int → Bool → List Int → List Int → Bool → Int → Int → Int → Int → Int → Int → Option (Bool)
 | 0, _, _, _, _, _, _, _, _, _, _, _, _, _, _, _ => none
 | k + 1, x3, x4, x7, x8, x9, x10, x20, x21, x148, x115000, x115001, x115002, x116000, x116001, x116002 => if x148 = true then (some false) else (if x10 = true then (if x9 < 1 then (laws_FnLines.j1 k x3 x4 x20 x21 true) else (if (wrap64 ((wrap64 (x115000 * x7)) + (wrap64 (x115001 * x8)))) = (wrap64 (x115002 * x9)) then (laws_FnLines.j1 k x3 x4 x20 x21 ((wrap64 ((wrap64 (x116000 * x7)) + (wrap64 (x116001 * x8)))) != (wrap64 (x116002 * x9)))) else (laws_FnLines.j1 k x3 x4 x20 x21 true))) else (laws_FnLines.j1 k x3 x4 x20 x21 false))
def laws_FnLines.j1 : Nat → List (S40) → List Int → List Int → List Int → Bool → Option (Bool)
 | 0, _, _, _, _, _ => none
 | k + 1, x3, x4, x20, x21, x185 => if x185 = true then (some false) else ((spec_AreLines.f k x3).bind fun t163 => (if t163 = true then (laws_FnLines.l0 k x3 x4 x20 x21 (x3.length : Int) 0 0) else (if (x4.length : Int) = 0 then (if (x21.length : Int) = 0 then ((impl_CountRegions.f k x3).bind fun t164 => (some (t164 == (-1)))) else (some false)) else (some false))))
def laws_FnLines.l0 : Nat → List (S40) → List Int → List Int → List Int → Int → Int → Int → Option (Bool)
 | 0, _, _, _, _, _, _, _ => none
 | k + 1, x3, x4, x20, x21, x22, x23, x24 => if x24 < (x4.length : Int) then (if 0 ≤ x24 then (laws_FnLines.l0 k x3 x4 x20 x21 x22 (wrap64 (x23 + (wrap64 (Int.tdiv (wrap64 ((rd x4 x24) * (wrap64 ((rd x4 x24) - 1)))) 2)))) (wrap64 (x24 + 1))) else (none)) else (laws_FnLines.l1 k x3 x4 x20 x21 x22 x23 0 0)
def laws_FnLines.l1 : Nat → List (S40) → List Int → List Int → List Int → Int → Int → Int → Int → Option (Bool)
 | 0, _, _, _, _, _, _, _, _ => none
 | k + 1, x3, x4, x20, x21, x22, x23, x25, x26 => if x26 < (x20.length : Int) then (if 0 ≤ x26 then (laws_FnLines.l1 k x3 x4 x20 x21 x22 x23 (wrap64 (x25 + (wrap64 (Int.tdiv (wrap64 ((rd x20 x26) * (wrap64 ((rd x20 x26) - 1)))) 2)))) (wrap64 (x26 + 1))) else (none)) else (if (wrap64 (x23 + x25)) = (wrap64 (Int.tdiv (wrap64 (x22 * (wrap64 (x22 - 1)))) 2)) then ((laws_total.f k x20).bind fun t169 => (if t169 = x22 then (if (x21.length : Int) = 3 then ((impl_CountRegions.f k x3).bind fun t170 => (if 0 < (x21.length : Int) then (if 1 < (x21.length : Int) then (if 2 < (x21.length : Int) then (laws_FnLines.j4 k x3 x4 x21 (t170 != (wrap64 ((wrap64 ((rd x21 0) - (rd x21 1))) + (rd x21 2))))) else (none)) else (none)) else (none))) else (laws_FnLines.j4 k x3 x4 x21 true)) else (laws_FnLines.j4 k x3 x4 x21 true))) else (laws_FnLines.j4 k x3 x4 x21 true))
def laws_FnLines.j4 : Nat → List (S40) → List Int → List Int → Bool → Option (Bool)
 | 0, _, _, _, _ => none
 | k + 1, x3, x4, x21, x277 => if x277 = true then (some false) else (if (x4.length : Int) = 0 then ((impl_CountBounded.f k x3).bind fun t174 => (if t174 = 0 then (some true) else ((impl_CountBounded.f k x3).bind fun t175 => (if 0 < (x21.length : Int) then (if 1 < (x21.length : Int) then (if 2 < (x21.length : Int) then (some (t175 == (wrap64 ((wrap64 ((rd x21 0) + (rd x21 1))) + (rd x21 2))))) else (none)) else (none)) else (none))))) else ((impl_CountBounded.f k x3).bind fun t179 => (if 0 < (x21.length : Int) then (if 1 < (x21.length : Int) then (if 2 < (x21.length : Int) then (some (t179 == (wrap64 ((wrap64 ((rd x21 0) + (rd x21 1))) + (rd x21 2))))) else (none)) else (none)) else (none))))
end
def laws_FnLines.f (k : Nat) (l0 : List Int) : Option (Bool) := (laws_big.f l0).bind fun t101 => (if t101 = true then (some true) else ((spec_DrawMeetingRow.f k l0).bind fun t102 => ((impl_MeetingRow.f k t102).bind fun t105 => ((spec_DrawMeetLines.f k l0).bind fun bt108 => ((impl_MeetLines.f k bt108.1 bt108.2.1 bt108.2.2.1 bt108.2.2.2.1 bt108.2.2.2.2.1 bt108.2.2.2.2.2).bind fun bt116 => ((spec_MeetLines.f k bt108.1 bt108.2.1 bt108.2.2.1 bt108.2.2.2.1 bt108.2.2.2.2.1 bt108.2.2.2.2.2).bind fun bt120 => ((spec_DrawEqualLines.f k l0).bind fun bt124 => ((spec_DrawSideText.f k l0).bind fun bt130 => ((impl_ParallelClasses.f t102).bind fun t135 => ((impl_LinePoly.f k t102).bind fun t138 => ((spec_MeetingRow.f k t102).bind fun t141 => ((laws_sameInts.f k t105 t141).bind fun t144 => (if t144 = true then (if (bt116.2.2.2 != bt120.2.2.2) = true then (laws_FnLines.j0 k t102 t105 bt116.1 bt116.2.1 bt116.2.2.1 bt116.2.2.2 t135 t138 true bt108.1 bt108.2.1 bt108.2.2.1 bt108.2.2.2.1 bt108.2.2.2.2.1 bt108.2.2.2.2.2) else (if bt116.1 = bt120.1 then (if bt116.2.1 = bt120.2.1 then (if bt116.2.2.1 = bt120.2.2.1 then ((impl_EqualLines.f k bt124.1 bt124.2).bind fun t145 => ((laws_sameLines.f k bt124.1 bt124.2).bind fun t146 => (if (t145 != t146) = true then (laws_FnLines.j0 k t102 t105 bt116.1 bt116.2.1 bt116.2.2.1 bt116.2.2.2 t135 t138 true bt108.1 bt108.2.1 bt108.2.2.1 bt108.2.2.2.1 bt108.2.2.2.2.1 bt108.2.2.2.2.2) else ((impl_SideText.f k bt130.1 bt130.2.1 bt130.2.2).bind fun t147 => ((spec_SideText.f k bt130.1 bt130.2.1 bt130.2.2).bind fun t148 => (if t147.toList = t148.toList then ((spec_ParallelClasses.f k t102).bind fun t149 => ((laws_sameInts.f k t135 t149).bind fun t152 => (if t152 = true then ((spec_LinePoly.f k t102).bind fun t153 => ((laws_sameInts.f k t138 t153).bind fun t156 => (if t156 = true then ((impl_CountRegions.f k t102).bind fun t157 => ((spec_CountRegions.f k t102).bind fun t158 => (if t157 = t158 then ((impl_CountBounded.f k t102).bind fun t159 => ((spec_CountBounded.f k t102).bind fun t160 => (if t159 = t160 then ((impl_AreLines.f t102).bind fun t161 => ((spec_AreLines.f k t102).bind fun t162 => (laws_FnLines.j0 k t102 t105 bt116.1 bt116.2.1 bt116.2.2.1 bt116.2.2.2 t135 t138 (t161 != t162) bt108.1 bt108.2.1 bt108.2.2.1 bt108.2.2.2.1 bt108.2.2.2.2.1 bt108.2.2.2.2.2))) else (laws_FnLines.j0 k t102 t105 bt116.1 bt116.2.1 bt116.2.2.1 bt116.2.2.2 t135 t138 true bt108.1 bt108.2.1 bt108.2.2.1 bt108.2.2.2.1 bt108.2.2.2.2.1 bt108.2.2.2.2.2)))) else (laws_FnLines.j0 k t102 t105 bt116.1 bt116.2.1 bt116.2.2.1 bt116.2.2.2 t135 t138 true bt108.1 bt108.2.1 bt108.2.2.1 bt108.2.2.2.1 bt108.2.2.2.2.1 bt108.2.2.2.2.2)))) else (laws_FnLines.j0 k t102 t105 bt116.1 bt116.2.1 bt116.2.2.1 bt116.2.2.2 t135 t138 true bt108.1 bt108.2.1 bt108.2.2.1 bt108.2.2.2.1 bt108.2.2.2.2.1 bt108.2.2.2.2.2)))) else (laws_FnLines.j0 k t102 t105 bt116.1 bt116.2.1 bt116.2.2.1 bt116.2.2.2 t135 t138 true bt108.1 bt108.2.1 bt108.2.2.1 bt108.2.2.2.1 bt108.2.2.2.2.1 bt108.2.2.2.2.2)))) else (laws_FnLines.j0 k t102 t105 bt116.1 bt116.2.1 bt116.2.2.1 bt116.2.2.2 t135 t138 true bt108.1 bt108.2.1 bt108.2.2.1 bt108.2.2.2.1 bt108.2.2.2.2.1 bt108.2.2.2.2.2))))))) else (laws_FnLines.j0 k t102 t105 bt116.1 bt116.2.1 bt116.2.2.1 bt116.2.2.2 t135 t138 true bt108.1 bt108.2.1 bt108.2.2.1 bt108.2.2.2.1 bt108.2.2.2.2.1 bt108.2.2.2.2.2)) else (laws_FnLines.j0 k t102 t105 bt116.1 bt116.2.1 bt116.2.2.1 bt116.2.2.2 t135 t138 true bt108.1 bt108.2.1 bt108.2.2.1 bt108.2.2.2.1 bt108.2.2.2.2.1 bt108.2.2.2.2.2)) else (laws_FnLines.j0 k t102 t105 bt116.1 bt116.2.1 bt116.2.2.1 bt116.2.2.2 t135 t138 true bt108.1 bt108.2.1 bt108.2.2.1 bt108.2.2.2.1 bt108.2.2.2.2.1 bt108.2.2.2.2.2))) else (laws_FnLines.j0 k t102 t105 bt116.1 bt116.2.1 bt116.2.2.1 bt116.2.2.2 t135 t138 true bt108.1 bt108.2.1 bt108.2.2.1 bt108.2.2.2.1 bt108.2.2.2.2.1 bt108.2.2.2.2.2))))))))))))))
def laws_FnLines.T23 : Bool × List (List Nat × List Nat) := (true, [([], []), ([], []), ([], []), ([1, 2], [1, 2]), ([3], [3]), ([], []), ([], []), ([5, 6], [5, 6]), ([7], [7]), ([8], [8]), ([4, 9], [4, 9]), ([10], [10]), ([0, 11], [0, 11]), ([12, 0, 1, 2, 3, 4, 5, 6, 7, 8, 9, 10, 11, 12], [0, 12])])
def laws_FnLines.B23 : List Nat := [0, 0, 0, 6, 14, 0, 0, 96, 224, 480, 1022, 2046, 4095, 8191]
theorem laws_FnLines.tab23 : rtab .any (opsOf Try.f9 23) = laws_FnLines.T23 := by kernel_rfl
theorem laws_FnLines.bits23 : waitsOk laws_FnLines.T23.2 laws_FnLines.B23 = true := by kernel_rfl
def laws_FnLines.T28 : Bool × List (List Nat × List Nat) := (true, [([], []), ([], []), ([], []), ([1, 2], [1, 2]), ([3], [3]), ([], []), ([], []), ([5, 6], [5, 6]), ([7], [7]), ([8], [8]), ([4, 9], [4, 9]), ([10], [10]), ([0, 11], [0, 11]), ([12, 0, 1, 2, 3, 4, 5, 6, 7, 8, 9, 10, 11, 12], [0, 12])])
def laws_FnLines.B28 : List Nat := [0, 0, 0, 6, 14, 0, 0, 96, 224, 480, 1022, 2046, 4095, 8191]
theorem laws_FnLines.tab28 : rtab .any (opsOf Try.f9 28) = laws_FnLines.T28 := by kernel_rfl
theorem laws_FnLines.bits28 : waitsOk laws_FnLines.T28.2 laws_FnLines.B28 = true := by kernel_rfl
def laws_FnLines.T29 : Bool × List (List Nat × List Nat) := (true, [([], []), ([], []), ([0, 1], [0, 1]), ([], []), ([], []), ([4], [4]), ([3, 5], [3, 5]), ([6], [6]), ([2, 7], [2, 7]), ([8], [8]), ([9], [9]), ([10, 9, 9], [9, 10]), ([9], [9]), ([11, 12, 9], [9, 11, 12]), ([9, 13], [9, 13]), ([14, 11], [14]), ([15], [15]), ([16, 15], [15, 16]), ([17, 15], [15, 17]), ([15, 18], [15, 18]), ([19, 15], [19]), ([20], [20]), ([21, 20, 20], [20, 21]), ([20], [20]), ([23, 20], [20, 23]), ([24, 20], [20, 24]), ([20], [20]), ([26, 20], [20, 26]), ([27, 20], [20, 27]), ([25, 28, 20], [20, 25, 28]), ([20], [20]), ([30, 20], [20, 30]), ([31, 20], [20, 31]), ([29, 32, 20], [20, 29, 32]), ([22, 33, 20], [20, 22, 33]), ([20, 34], [20, 34])])
def laws_FnLines.B29 : List Nat := [0, 0, 3, 0, 0, 16, 56, 120, 255, 511, 1023, 2047, 1023, 8191, 16383, 32767, 65535, 131071, 262143, 524287, 1048575, 2097151, 4194303, 2097151, 10485759, 27262975, 2097151, 69206015, 203423743, 530579455, 2097151, 1075838975, 3223322623, 8583643135, 17179869183, 34359738367]
theorem laws_FnLines.tab29 : rtab .any (opsOf Try.f9 29) = laws_FnLines.T29 := by kernel_rfl
theorem laws_FnLines.bits29 : waitsOk laws_FnLines.T29.2 laws_FnLines.B29 = true := by kernel_rfl
def laws_FnLines.T31 : Bool × List (List Nat × List Nat) := (true, [([], []), ([0], [0]), ([1], [1]), ([2], [2]), ([3], [3]), ([4, 3, 3], [3, 4]), ([5, 3], [3, 5]), ([3, 6], [3, 6]), ([7, 5], [7]), ([8], [8]), ([9, 8, 8], [8, 9]), ([8], [8]), ([11, 8], [8, 11]), ([12, 8], [8, 12]), ([8], [8]), ([14, 8], [8, 14]), ([15, 8], [8, 15]), ([13, 16, 8], [8, 13, 16]), ([8], [8]), ([18, 8], [8, 18]), ([19, 8], [8, 19]), ([17, 20, 8], [8, 17, 20]), ([10, 21, 8], [8, 10, 21]), ([8, 22], [8, 22]), ([23, 10, 0, 1, 2, 3, 4, 5, 6, 7, 8, 9, 10, 11, 12, 13, 14, 15, 16, 17, 18, 19, 20, 21, 22, 23], [23])])
def laws_FnLines.B31 : List Nat := [0, 1, 3, 7, 15, 31, 63, 127, 255, 511, 1023, 511, 2559, 6655, 511, 16895, 49663, 129535, 511, 262655, 786943, 2095615, 4194303, 8388607, 16777215]
theorem laws_FnLines.tab31 : rtab .any (opsOf Try.f9 31) = laws_FnLines.T31 := by kernel_rfl
theorem laws_FnLines.bits31 : waitsOk laws_FnLines.T31.2 laws_FnLines.B31 = true := by kernel_rfl
theorem laws_FnLines.j0_no : ∀ k y0 y1 y2 y3 y4 y5 y6 y7 y9 y10 y11 y12 y13 y14, laws_FnLines.j0 k y0 y1 y2 y3 y4 y5 y6 y7 true y9 y10 y11 y12 y13 y14 ≠ some true := by
 intro k
 intros
 cases k <;> simp [laws_FnLines.j0]
theorem laws_FnLines.j1_no : ∀ k y0 y1 y2 y3, laws_FnLines.j1 k y0 y1 y2 y3 true ≠ some true := by
 intro k
 intros
 cases k <;> simp [laws_FnLines.j1]
theorem laws_FnLines.j4_no : ∀ k y0 y1 y2, laws_FnLines.j4 k y0 y1 y2 true ≠ some true := by
 intro k
 intros
 cases k <;> simp [laws_FnLines.j4]
set_option maxHeartbeats 8000000 in
set_option maxRecDepth 100000 in
theorem laws_FnLines.calls (k : Nat) (A0 : Option Addr) (c0 : Nat) (l0 : List Int) (r : Bool) (w : World) (hr0 : Kd.C (Kd.int .u8) w A0 l0.length l0) (hc0 : l0.length ≤ c0) (h : laws_FnLines.f k l0 = some true) :
  Calls Try.prog 9 #[.slice A0 l0.length c0] w fun e w' => e = .returned (.bool true) ∧ Below w.heap.size w w' := by
 have hu40 := Try.underlying40
 have HR0 := aM_ hr0
 have HC0 := aM_ hc0
 clear hr0 hc0
 have HB := aM_ (Below.refl w.heap.size w)
 have H : ((laws_big.f l0).bind fun t101 => (if t101 = true then (some true) else ((spec_DrawMeetingRow.f k l0).bind fun t102 => ((impl_MeetingRow.f k t102).bind fun t105 => ((spec_DrawMeetLines.f k l0).bind fun bt108 => ((impl_MeetLines.f k bt108.1 bt108.2.1 bt108.2.2.1 bt108.2.2.2.1 bt108.2.2.2.2.1 bt108.2.2.2.2.2).bind fun bt116 => ((spec_MeetLines.f k bt108.1 bt108.2.1 bt108.2.2.1 bt108.2.2.2.1 bt108.2.2.2.2.1 bt108.2.2.2.2.2).bind fun bt120 => ((spec_DrawEqualLines.f k l0).bind fun bt124 => ((spec_DrawSideText.f k l0).bind fun bt130 => ((impl_ParallelClasses.f t102).bind fun t135 => ((impl_LinePoly.f k t102).bind fun t138 => ((spec_MeetingRow.f k t102).bind fun t141 => ((laws_sameInts.f k t105 t141).bind fun t144 => (if t144 = true then (if (bt116.2.2.2 != bt120.2.2.2) = true then (laws_FnLines.j0 k t102 t105 bt116.1 bt116.2.1 bt116.2.2.1 bt116.2.2.2 t135 t138 true bt108.1 bt108.2.1 bt108.2.2.1 bt108.2.2.2.1 bt108.2.2.2.2.1 bt108.2.2.2.2.2) else (if bt116.1 = bt120.1 then (if bt116.2.1 = bt120.2.1 then (if bt116.2.2.1 = bt120.2.2.1 then ((impl_EqualLines.f k bt124.1 bt124.2).bind fun t145 => ((laws_sameLines.f k bt124.1 bt124.2).bind fun t146 => (if (t145 != t146) = true then (laws_FnLines.j0 k t102 t105 bt116.1 bt116.2.1 bt116.2.2.1 bt116.2.2.2 t135 t138 true bt108.1 bt108.2.1 bt108.2.2.1 bt108.2.2.2.1 bt108.2.2.2.2.1 bt108.2.2.2.2.2) else ((impl_SideText.f k bt130.1 bt130.2.1 bt130.2.2).bind fun t147 => ((spec_SideText.f k bt130.1 bt130.2.1 bt130.2.2).bind fun t148 => (if t147.toList = t148.toList then ((spec_ParallelClasses.f k t102).bind fun t149 => ((laws_sameInts.f k t135 t149).bind fun t152 => (if t152 = true then ((spec_LinePoly.f k t102).bind fun t153 => ((laws_sameInts.f k t138 t153).bind fun t156 => (if t156 = true then ((impl_CountRegions.f k t102).bind fun t157 => ((spec_CountRegions.f k t102).bind fun t158 => (if t157 = t158 then ((impl_CountBounded.f k t102).bind fun t159 => ((spec_CountBounded.f k t102).bind fun t160 => (if t159 = t160 then ((impl_AreLines.f t102).bind fun t161 => ((spec_AreLines.f k t102).bind fun t162 => (laws_FnLines.j0 k t102 t105 bt116.1 bt116.2.1 bt116.2.2.1 bt116.2.2.2 t135 t138 (t161 != t162) bt108.1 bt108.2.1 bt108.2.2.1 bt108.2.2.2.1 bt108.2.2.2.2.1 bt108.2.2.2.2.2))) else (laws_FnLines.j0 k t102 t105 bt116.1 bt116.2.1 bt116.2.2.1 bt116.2.2.2 t135 t138 true bt108.1 bt108.2.1 bt108.2.2.1 bt108.2.2.2.1 bt108.2.2.2.2.1 bt108.2.2.2.2.2)))) else (laws_FnLines.j0 k t102 t105 bt116.1 bt116.2.1 bt116.2.2.1 bt116.2.2.2 t135 t138 true bt108.1 bt108.2.1 bt108.2.2.1 bt108.2.2.2.1 bt108.2.2.2.2.1 bt108.2.2.2.2.2)))) else (laws_FnLines.j0 k t102 t105 bt116.1 bt116.2.1 bt116.2.2.1 bt116.2.2.2 t135 t138 true bt108.1 bt108.2.1 bt108.2.2.1 bt108.2.2.2.1 bt108.2.2.2.2.1 bt108.2.2.2.2.2)))) else (laws_FnLines.j0 k t102 t105 bt116.1 bt116.2.1 bt116.2.2.1 bt116.2.2.2 t135 t138 true bt108.1 bt108.2.1 bt108.2.2.1 bt108.2.2.2.1 bt108.2.2.2.2.1 bt108.2.2.2.2.2)))) else (laws_FnLines.j0 k t102 t105 bt116.1 bt116.2.1 bt116.2.2.1 bt116.2.2.2 t135 t138 true bt108.1 bt108.2.1 bt108.2.2.1 bt108.2.2.2.1 bt108.2.2.2.2.1 bt108.2.2.2.2.2))))))) else (laws_FnLines.j0 k t102 t105 bt116.1 bt116.2.1 bt116.2.2.1 bt116.2.2.2 t135 t138 true bt108.1 bt108.2.1 bt108.2.2.1 bt108.2.2.2.1 bt108.2.2.2.2.1 bt108.2.2.2.2.2)) else (laws_FnLines.j0 k t102 t105 bt116.1 bt116.2.1 bt116.2.2.1 bt116.2.2.2 t135 t138 true bt108.1 bt108.2.1 bt108.2.2.1 bt108.2.2.2.1 bt108.2.2.2.2.1 bt108.2.2.2.2.2)) else (laws_FnLines.j0 k t102 t105 bt116.1 bt116.2.1 bt116.2.2.1 bt116.2.2.2 t135 t138 true bt108.1 bt108.2.1 bt108.2.2.1 bt108.2.2.2.1 bt108.2.2.2.2.1 bt108.2.2.2.2.2))) else (laws_FnLines.j0 k t102 t105 bt116.1 bt116.2.1 bt116.2.2.1 bt116.2.2.2 t135 t138 true bt108.1 bt108.2.1 bt108.2.2.1 bt108.2.2.2.1 bt108.2.2.2.2.1 bt108.2.2.2.2.2))))))))))))))) = some true := h
 clear h
 replace H := oB_ H
 obtain ⟨t101, A20, H⟩ := H
 replace H : (if t101 = true then (some true) else ((spec_DrawMeetingRow.f k l0).bind fun t102 => ((impl_MeetingRow.f k t102).bind fun t105 => ((spec_DrawMeetLines.f k l0).bind fun bt108 => ((impl_MeetLines.f k bt108.1 bt108.2.1 bt108.2.2.1 bt108.2.2.2.1 bt108.2.2.2.2.1 bt108.2.2.2.2.2).bind fun bt116 => ((spec_MeetLines.f k bt108.1 bt108.2.1 bt108.2.2.1 bt108.2.2.2.1 bt108.2.2.2.2.1 bt108.2.2.2.2.2).bind fun bt120 => ((spec_DrawEqualLines.f k l0).bind fun bt124 => ((spec_DrawSideText.f k l0).bind fun bt130 => ((impl_ParallelClasses.f t102).bind fun t135 => ((impl_LinePoly.f k t102).bind fun t138 => ((spec_MeetingRow.f k t102).bind fun t141 => ((laws_sameInts.f k t105 t141).bind fun t144 => (if t144 = true then (if (bt116.2.2.2 != bt120.2.2.2) = true then (laws_FnLines.j0 k t102 t105 bt116.1 bt116.2.1 bt116.2.2.1 bt116.2.2.2 t135 t138 true bt108.1 bt108.2.1 bt108.2.2.1 bt108.2.2.2.1 bt108.2.2.2.2.1 bt108.2.2.2.2.2) else (if bt116.1 = bt120.1 then (if bt116.2.1 = bt120.2.1 then (if bt116.2.2.1 = bt120.2.2.1 then ((impl_EqualLines.f k bt124.1 bt124.2).bind fun t145 => ((laws_sameLines.f k bt124.1 bt124.2).bind fun t146 => (if (t145 != t146) = true then (laws_FnLines.j0 k t102 t105 bt116.1 bt116.2.1 bt116.2.2.1 bt116.2.2.2 t135 t138 true bt108.1 bt108.2.1 bt108.2.2.1 bt108.2.2.2.1 bt108.2.2.2.2.1 bt108.2.2.2.2.2) else ((impl_SideText.f k bt130.1 bt130.2.1 bt130.2.2).bind fun t147 => ((spec_SideText.f k bt130.1 bt130.2.1 bt130.2.2).bind fun t148 => (if t147.toList = t148.toList then ((spec_ParallelClasses.f k t102).bind fun t149 => ((laws_sameInts.f k t135 t149).bind fun t152 => (if t152 = true then ((spec_LinePoly.f k t102).bind fun t153 => ((laws_sameInts.f k t138 t153).bind fun t156 => (if t156 = true then ((impl_CountRegions.f k t102).bind fun t157 => ((spec_CountRegions.f k t102).bind fun t158 => (if t157 = t158 then ((impl_CountBounded.f k t102).bind fun t159 => ((spec_CountBounded.f k t102).bind fun t160 => (if t159 = t160 then ((impl_AreLines.f t102).bind fun t161 => ((spec_AreLines.f k t102).bind fun t162 => (laws_FnLines.j0 k t102 t105 bt116.1 bt116.2.1 bt116.2.2.1 bt116.2.2.2 t135 t138 (t161 != t162) bt108.1 bt108.2.1 bt108.2.2.1 bt108.2.2.2.1 bt108.2.2.2.2.1 bt108.2.2.2.2.2))) else (laws_FnLines.j0 k t102 t105 bt116.1 bt116.2.1 bt116.2.2.1 bt116.2.2.2 t135 t138 true bt108.1 bt108.2.1 bt108.2.2.1 bt108.2.2.2.1 bt108.2.2.2.2.1 bt108.2.2.2.2.2)))) else (laws_FnLines.j0 k t102 t105 bt116.1 bt116.2.1 bt116.2.2.1 bt116.2.2.2 t135 t138 true bt108.1 bt108.2.1 bt108.2.2.1 bt108.2.2.2.1 bt108.2.2.2.2.1 bt108.2.2.2.2.2)))) else (laws_FnLines.j0 k t102 t105 bt116.1 bt116.2.1 bt116.2.2.1 bt116.2.2.2 t135 t138 true bt108.1 bt108.2.1 bt108.2.2.1 bt108.2.2.2.1 bt108.2.2.2.2.1 bt108.2.2.2.2.2)))) else (laws_FnLines.j0 k t102 t105 bt116.1 bt116.2.1 bt116.2.2.1 bt116.2.2.2 t135 t138 true bt108.1 bt108.2.1 bt108.2.2.1 bt108.2.2.2.1 bt108.2.2.2.2.1 bt108.2.2.2.2.2)))) else (laws_FnLines.j0 k t102 t105 bt116.1 bt116.2.1 bt116.2.2.1 bt116.2.2.2 t135 t138 true bt108.1 bt108.2.1 bt108.2.2.1 bt108.2.2.2.1 bt108.2.2.2.2.1 bt108.2.2.2.2.2))))))) else (laws_FnLines.j0 k t102 t105 bt116.1 bt116.2.1 bt116.2.2.1 bt116.2.2.2 t135 t138 true bt108.1 bt108.2.1 bt108.2.2.1 bt108.2.2.2.1 bt108.2.2.2.2.1 bt108.2.2.2.2.2)) else (laws_FnLines.j0 k t102 t105 bt116.1 bt116.2.1 bt116.2.2.1 bt116.2.2.2 t135 t138 true bt108.1 bt108.2.1 bt108.2.2.1 bt108.2.2.2.1 bt108.2.2.2.2.1 bt108.2.2.2.2.2)) else (laws_FnLines.j0 k t102 t105 bt116.1 bt116.2.1 bt116.2.2.1 bt116.2.2.2 t135 t138 true bt108.1 bt108.2.1 bt108.2.2.1 bt108.2.2.2.1 bt108.2.2.2.2.1 bt108.2.2.2.2.2))) else (laws_FnLines.j0 k t102 t105 bt116.1 bt116.2.1 bt116.2.2.1 bt116.2.2.2 t135 t138 true bt108.1 bt108.2.1 bt108.2.2.1 bt108.2.2.2.1 bt108.2.2.2.2.1 bt108.2.2.2.2.2)))))))))))))) = some true := H
 have A2 := aM_ A20
 clear A20
 by_cases c3 : t101 = true
 ·subst c3
  have H1 : (some true : Option Bool) = some true := rfl
  clear H
  have H := H1
  clear H1
  clear H
  go_enter Try.func9, Try.ntmps9
  go_wp2_with (first | ((with_reducible refine gate_callee (f := 34) rfl ?_); refine goesL_ (some 28) rfl rfl Try.func34 (by kernel_rfl) rfl #[.slice A0 l0.length c0] rfl (by (try simp only [List.map_toArray, List.map_cons, List.map_nil]); first | done | rfl | (simp only [List.length_drop, List.length_take]; rfl)) ?_; (with_reducible refine (laws_big.calls _ _ l0 true _ ?side1 ?side2 A2.out).mono ?_); (case side1 => repeat (first | exact HR0.out | (with_reducible refine Kd.C_alloc ?_ _) | (with_reducible refine Kd.C_drewN ?_ _) | (with_reducible refine Kd.C_drew ?_))); (case side2 => exact HC0.out); rintro e w' ⟨rfl, ⟨nd, rfl⟩⟩; refine ⟨_, rfl, ?_⟩))
  go_ret
  exact ⟨by first | rfl | (simp [errW_none, errW_some] <;> rfl) | (simp [*, errW_none, errW_some] <;> rfl), by repeat (first | (with_reducible first | exact HB.out | apply bA_ | apply bN_ | apply bD_) | exact HB.out)⟩
 ·replace c3 := Bool.eq_false_iff.mpr c3
  subst c3
  have H1 : ((spec_DrawMeetingRow.f k l0).bind fun t102 => ((impl_MeetingRow.f k t102).bind fun t105 => ((spec_DrawMeetLines.f k l0).bind fun bt108 => ((impl_MeetLines.f k bt108.1 bt108.2.1 bt108.2.2.1 bt108.2.2.2.1 bt108.2.2.2.2.1 bt108.2.2.2.2.2).bind fun bt116 => ((spec_MeetLines.f k bt108.1 bt108.2.1 bt108.2.2.1 bt108.2.2.2.1 bt108.2.2.2.2.1 bt108.2.2.2.2.2).bind fun bt120 => ((spec_DrawEqualLines.f k l0).bind fun bt124 => ((spec_DrawSideText.f k l0).bind fun bt130 => ((impl_ParallelClasses.f t102).bind fun t135 => ((impl_LinePoly.f k t102).bind fun t138 => ((spec_MeetingRow.f k t102).bind fun t141 => ((laws_sameInts.f k t105 t141).bind fun t144 => (if t144 = true then (if (bt116.2.2.2 != bt120.2.2.2) = true then (laws_FnLines.j0 k t102 t105 bt116.1 bt116.2.1 bt116.2.2.1 bt116.2.2.2 t135 t138 true bt108.1 bt108.2.1 bt108.2.2.1 bt108.2.2.2.1 bt108.2.2.2.2.1 bt108.2.2.2.2.2) else (if bt116.1 = bt120.1 then (if bt116.2.1 = bt120.2.1 then (if bt116.2.2.1 = bt120.2.2.1 then ((impl_EqualLines.f k bt124.1 bt124.2).bind fun t145 => ((laws_sameLines.f k bt124.1 bt124.2).bind fun t146 => (if (t145 != t146) = true then (laws_FnLines.j0 k t102 t105 bt116.1 bt116.2.1 bt116.2.2.1 bt116.2.2.2 t135 t138 true bt108.1 bt108.2.1 bt108.2.2.1 bt108.2.2.2.1 bt108.2.2.2.2.1 bt108.2.2.2.2.2) else ((impl_SideText.f k bt130.1 bt130.2.1 bt130.2.2).bind fun t147 => ((spec_SideText.f k bt130.1 bt130.2.1 bt130.2.2).bind fun t148 => (if t147.toList = t148.toList then ((spec_ParallelClasses.f k t102).bind fun t149 => ((laws_sameInts.f k t135 t149).bind fun t152 => (if t152 = true then ((spec_LinePoly.f k t102).bind fun t153 => ((laws_sameInts.f k t138 t153).bind fun t156 => (if t156 = true then ((impl_CountRegions.f k t102).bind fun t157 => ((spec_CountRegions.f k t102).bind fun t158 => (if t157 = t158 then ((impl_CountBounded.f k t102).bind fun t159 => ((spec_CountBounded.f k t102).bind fun t160 => (if t159 = t160 then ((impl_AreLines.f t102).bind fun t161 => ((spec_AreLines.f k t102).bind fun t162 => (laws_FnLines.j0 k t102 t105 bt116.1 bt116.2.1 bt116.2.2.1 bt116.2.2.2 t135 t138 (t161 != t162) bt108.1 bt108.2.1 bt108.2.2.1 bt108.2.2.2.1 bt108.2.2.2.2.1 bt108.2.2.2.2.2))) else (laws_FnLines.j0 k t102 t105 bt116.1 bt116.2.1 bt116.2.2.1 bt116.2.2.2 t135 t138 true bt108.1 bt108.2.1 bt108.2.2.1 bt108.2.2.2.1 bt108.2.2.2.2.1 bt108.2.2.2.2.2)))) else (laws_FnLines.j0 k t102 t105 bt116.1 bt116.2.1 bt116.2.2.1 bt116.2.2.2 t135 t138 true bt108.1 bt108.2.1 bt108.2.2.1 bt108.2.2.2.1 bt108.2.2.2.2.1 bt108.2.2.2.2.2)))) else (laws_FnLines.j0 k t102 t105 bt116.1 bt116.2.1 bt116.2.2.1 bt116.2.2.2 t135 t138 true bt108.1 bt108.2.1 bt108.2.2.1 bt108.2.2.2.1 bt108.2.2.2.2.1 bt108.2.2.2.2.2)))) else (laws_FnLines.j0 k t102 t105 bt116.1 bt116.2.1 bt116.2.2.1 bt116.2.2.2 t135 t138 true bt108.1 bt108.2.1 bt108.2.2.1 bt108.2.2.2.1 bt108.2.2.2.2.1 bt108.2.2.2.2.2)))) else (laws_FnLines.j0 k t102 t105 bt116.1 bt116.2.1 bt116.2.2.1 bt116.2.2.2 t135 t138 true bt108.1 bt108.2.1 bt108.2.2.1 bt108.2.2.2.1 bt108.2.2.2.2.1 bt108.2.2.2.2.2))))))) else (laws_FnLines.j0 k t102 t105 bt116.1 bt116.2.1 bt116.2.2.1 bt116.2.2.2 t135 t138 true bt108.1 bt108.2.1 bt108.2.2.1 bt108.2.2.2.1 bt108.2.2.2.2.1 bt108.2.2.2.2.2)) else (laws_FnLines.j0 k t102 t105 bt116.1 bt116.2.1 bt116.2.2.1 bt116.2.2.2 t135 t138 true bt108.1 bt108.2.1 bt108.2.2.1 bt108.2.2.2.1 bt108.2.2.2.2.1 bt108.2.2.2.2.2)) else (laws_FnLines.j0 k t102 t105 bt116.1 bt116.2.1 bt116.2.2.1 bt116.2.2.2 t135 t138 true bt108.1 bt108.2.1 bt108.2.2.1 bt108.2.2.2.1 bt108.2.2.2.2.1 bt108.2.2.2.2.2))) else (laws_FnLines.j0 k t102 t105 bt116.1 bt116.2.1 bt116.2.2.1 bt116.2.2.2 t135 t138 true bt108.1 bt108.2.1 bt108.2.2.1 bt108.2.2.2.1 bt108.2.2.2.2.1 bt108.2.2.2.2.2))))))))))))) = some true := by rw [if_neg (show ¬ (false = true) by decide)] at H; exact H
  clear H
  have H := H1
  clear H1
  replace H := oB_ H
  obtain ⟨t102, A40, H⟩ := H
  replace H : ((impl_MeetingRow.f k t102).bind fun t105 => ((spec_DrawMeetLines.f k l0).bind fun bt108 => ((impl_MeetLines.f k bt108.1 bt108.2.1 bt108.2.2.1 bt108.2.2.2.1 bt108.2.2.2.2.1 bt108.2.2.2.2.2).bind fun bt116 => ((spec_MeetLines.f k bt108.1 bt108.2.1 bt108.2.2.1 bt108.2.2.2.1 bt108.2.2.2.2.1 bt108.2.2.2.2.2).bind fun bt120 => ((spec_DrawEqualLines.f k l0).bind fun bt124 => ((spec_DrawSideText.f k l0).bind fun bt130 => ((impl_ParallelClasses.f t102).bind fun t135 => ((impl_LinePoly.f k t102).bind fun t138 => ((spec_MeetingRow.f k t102).bind fun t141 => ((laws_sameInts.f k t105 t141).bind fun t144 => (if t144 = true then (if (bt116.2.2.2 != bt120.2.2.2) = true then (laws_FnLines.j0 k t102 t105 bt116.1 bt116.2.1 bt116.2.2.1 bt116.2.2.2 t135 t138 true bt108.1 bt108.2.1 bt108.2.2.1 bt108.2.2.2.1 bt108.2.2.2.2.1 bt108.2.2.2.2.2) else (if bt116.1 = bt120.1 then (if bt116.2.1 = bt120.2.1 then (if bt116.2.2.1 = bt120.2.2.1 then ((impl_EqualLines.f k bt124.1 bt124.2).bind fun t145 => ((laws_sameLines.f k bt124.1 bt124.2).bind fun t146 => (if (t145 != t146) = true then (laws_FnLines.j0 k t102 t105 bt116.1 bt116.2.1 bt116.2.2.1 bt116.2.2.2 t135 t138 true bt108.1 bt108.2.1 bt108.2.2.1 bt108.2.2.2.1 bt108.2.2.2.2.1 bt108.2.2.2.2.2) else ((impl_SideText.f k bt130.1 bt130.2.1 bt130.2.2).bind fun t147 => ((spec_SideText.f k bt130.1 bt130.2.1 bt130.2.2).bind fun t148 => (if t147.toList = t148.toList then ((spec_ParallelClasses.f k t102).bind fun t149 => ((laws_sameInts.f k t135 t149).bind fun t152 => (if t152 = true then ((spec_LinePoly.f k t102).bind fun t153 => ((laws_sameInts.f k t138 t153).bind fun t156 => (if t156 = true then ((impl_CountRegions.f k t102).bind fun t157 => ((spec_CountRegions.f k t102).bind fun t158 => (if t157 = t158 then ((impl_CountBounded.f k t102).bind fun t159 => ((spec_CountBounded.f k t102).bind fun t160 => (if t159 = t160 then ((impl_AreLines.f t102).bind fun t161 => ((spec_AreLines.f k t102).bind fun t162 => (laws_FnLines.j0 k t102 t105 bt116.1 bt116.2.1 bt116.2.2.1 bt116.2.2.2 t135 t138 (t161 != t162) bt108.1 bt108.2.1 bt108.2.2.1 bt108.2.2.2.1 bt108.2.2.2.2.1 bt108.2.2.2.2.2))) else (laws_FnLines.j0 k t102 t105 bt116.1 bt116.2.1 bt116.2.2.1 bt116.2.2.2 t135 t138 true bt108.1 bt108.2.1 bt108.2.2.1 bt108.2.2.2.1 bt108.2.2.2.2.1 bt108.2.2.2.2.2)))) else (laws_FnLines.j0 k t102 t105 bt116.1 bt116.2.1 bt116.2.2.1 bt116.2.2.2 t135 t138 true bt108.1 bt108.2.1 bt108.2.2.1 bt108.2.2.2.1 bt108.2.2.2.2.1 bt108.2.2.2.2.2)))) else (laws_FnLines.j0 k t102 t105 bt116.1 bt116.2.1 bt116.2.2.1 bt116.2.2.2 t135 t138 true bt108.1 bt108.2.1 bt108.2.2.1 bt108.2.2.2.1 bt108.2.2.2.2.1 bt108.2.2.2.2.2)))) else (laws_FnLines.j0 k t102 t105 bt116.1 bt116.2.1 bt116.2.2.1 bt116.2.2.2 t135 t138 true bt108.1 bt108.2.1 bt108.2.2.1 bt108.2.2.2.1 bt108.2.2.2.2.1 bt108.2.2.2.2.2)))) else (laws_FnLines.j0 k t102 t105 bt116.1 bt116.2.1 bt116.2.2.1 bt116.2.2.2 t135 t138 true bt108.1 bt108.2.1 bt108.2.2.1 bt108.2.2.2.1 bt108.2.2.2.2.1 bt108.2.2.2.2.2))))))) else (laws_FnLines.j0 k t102 t105 bt116.1 bt116.2.1 bt116.2.2.1 bt116.2.2.2 t135 t138 true bt108.1 bt108.2.1 bt108.2.2.1 bt108.2.2.2.1 bt108.2.2.2.2.1 bt108.2.2.2.2.2)) else (laws_FnLines.j0 k t102 t105 bt116.1 bt116.2.1 bt116.2.2.1 bt116.2.2.2 t135 t138 true bt108.1 bt108.2.1 bt108.2.2.1 bt108.2.2.2.1 bt108.2.2.2.2.1 bt108.2.2.2.2.2)) else (laws_FnLines.j0 k t102 t105 bt116.1 bt116.2.1 bt116.2.2.1 bt116.2.2.2 t135 t138 true bt108.1 bt108.2.1 bt108.2.2.1 bt108.2.2.2.1 bt108.2.2.2.2.1 bt108.2.2.2.2.2))) else (laws_FnLines.j0 k t102 t105 bt116.1 bt116.2.1 bt116.2.2.1 bt116.2.2.2 t135 t138 true bt108.1 bt108.2.1 bt108.2.2.1 bt108.2.2.2.1 bt108.2.2.2.2.1 bt108.2.2.2.2.2)))))))))))) = some true := H
  have A4 := aM_ A40
  clear A40
  replace H := oB_ H
  obtain ⟨t105, A50, H⟩ := H
  replace H : ((spec_DrawMeetLines.f k l0).bind fun bt108 => ((impl_MeetLines.f k bt108.1 bt108.2.1 bt108.2.2.1 bt108.2.2.2.1 bt108.2.2.2.2.1 bt108.2.2.2.2.2).bind fun bt116 => ((spec_MeetLines.f k bt108.1 bt108.2.1 bt108.2.2.1 bt108.2.2.2.1 bt108.2.2.2.2.1 bt108.2.2.2.2.2).bind fun bt120 => ((spec_DrawEqualLines.f k l0).bind fun bt124 => ((spec_DrawSideText.f k l0).bind fun bt130 => ((impl_ParallelClasses.f t102).bind fun t135 => ((impl_LinePoly.f k t102).bind fun t138 => ((spec_MeetingRow.f k t102).bind fun t141 => ((laws_sameInts.f k t105 t141).bind fun t144 => (if t144 = true then (if (bt116.2.2.2 != bt120.2.2.2) = true then (laws_FnLines.j0 k t102 t105 bt116.1 bt116.2.1 bt116.2.2.1 bt116.2.2.2 t135 t138 true bt108.1 bt108.2.1 bt108.2.2.1 bt108.2.2.2.1 bt108.2.2.2.2.1 bt108.2.2.2.2.2) else (if bt116.1 = bt120.1 then (if bt116.2.1 = bt120.2.1 then (if bt116.2.2.1 = bt120.2.2.1 then ((impl_EqualLines.f k bt124.1 bt124.2).bind fun t145 => ((laws_sameLines.f k bt124.1 bt124.2).bind fun t146 => (if (t145 != t146) = true then (laws_FnLines.j0 k t102 t105 bt116.1 bt116.2.1 bt116.2.2.1 bt116.2.2.2 t135 t138 true bt108.1 bt108.2.1 bt108.2.2.1 bt108.2.2.2.1 bt108.2.2.2.2.1 bt108.2.2.2.2.2) else ((impl_SideText.f k bt130.1 bt130.2.1 bt130.2.2).bind fun t147 => ((spec_SideText.f k bt130.1 bt130.2.1 bt130.2.2).bind fun t148 => (if t147.toList = t148.toList then ((spec_ParallelClasses.f k t102).bind fun t149 => ((laws_sameInts.f k t135 t149).bind fun t152 => (if t152 = true then ((spec_LinePoly.f k t102).bind fun t153 => ((laws_sameInts.f k t138 t153).bind fun t156 => (if t156 = true then ((impl_CountRegions.f k t102).bind fun t157 => ((spec_CountRegions.f k t102).bind fun t158 => (if t157 = t158 then ((impl_CountBounded.f k t102).bind fun t159 => ((spec_CountBounded.f k t102).bind fun t160 => (if t159 = t160 then ((impl_AreLines.f t102).bind fun t161 => ((spec_AreLines.f k t102).bind fun t162 => (laws_FnLines.j0 k t102 t105 bt116.1 bt116.2.1 bt116.2.2.1 bt116.2.2.2 t135 t138 (t161 != t162) bt108.1 bt108.2.1 bt108.2.2.1 bt108.2.2.2.1 bt108.2.2.2.2.1 bt108.2.2.2.2.2))) else (laws_FnLines.j0 k t102 t105 bt116.1 bt116.2.1 bt116.2.2.1 bt116.2.2.2 t135 t138 true bt108.1 bt108.2.1 bt108.2.2.1 bt108.2.2.2.1 bt108.2.2.2.2.1 bt108.2.2.2.2.2)))) else (laws_FnLines.j0 k t102 t105 bt116.1 bt116.2.1 bt116.2.2.1 bt116.2.2.2 t135 t138 true bt108.1 bt108.2.1 bt108.2.2.1 bt108.2.2.2.1 bt108.2.2.2.2.1 bt108.2.2.2.2.2)))) else (laws_FnLines.j0 k t102 t105 bt116.1 bt116.2.1 bt116.2.2.1 bt116.2.2.2 t135 t138 true bt108.1 bt108.2.1 bt108.2.2.1 bt108.2.2.2.1 bt108.2.2.2.2.1 bt108.2.2.2.2.2)))) else (laws_FnLines.j0 k t102 t105 bt116.1 bt116.2.1 bt116.2.2.1 bt116.2.2.2 t135 t138 true bt108.1 bt108.2.1 bt108.2.2.1 bt108.2.2.2.1 bt108.2.2.2.2.1 bt108.2.2.2.2.2)))) else (laws_FnLines.j0 k t102 t105 bt116.1 bt116.2.1 bt116.2.2.1 bt116.2.2.2 t135 t138 true bt108.1 bt108.2.1 bt108.2.2.1 bt108.2.2.2.1 bt108.2.2.2.2.1 bt108.2.2.2.2.2))))))) else (laws_FnLines.j0 k t102 t105 bt116.1 bt116.2.1 bt116.2.2.1 bt116.2.2.2 t135 t138 true bt108.1 bt108.2.1 bt108.2.2.1 bt108.2.2.2.1 bt108.2.2.2.2.1 bt108.2.2.2.2.2)) else (laws_FnLines.j0 k t102 t105 bt116.1 bt116.2.1 bt116.2.2.1 bt116.2.2.2 t135 t138 true bt108.1 bt108.2.1 bt108.2.2.1 bt108.2.2.2.1 bt108.2.2.2.2.1 bt108.2.2.2.2.2)) else (laws_FnLines.j0 k t102 t105 bt116.1 bt116.2.1 bt116.2.2.1 bt116.2.2.2 t135 t138 true bt108.1 bt108.2.1 bt108.2.2.1 bt108.2.2.2.1 bt108.2.2.2.2.1 bt108.2.2.2.2.2))) else (laws_FnLines.j0 k t102 t105 bt116.1 bt116.2.1 bt116.2.2.1 bt116.2.2.2 t135 t138 true bt108.1 bt108.2.1 bt108.2.2.1 bt108.2.2.2.1 bt108.2.2.2.2.1 bt108.2.2.2.2.2))))))))))) = some true := H
  have A5 := aM_ A50
  clear A50
  replace H := oB_ H
  obtain ⟨⟨t108, t109, t110, t111, t112, t113⟩, A60, H⟩ := H
  replace H : ((impl_MeetLines.f k t108 t109 t110 t111 t112 t113).bind fun bt116 => ((spec_MeetLines.f k t108 t109 t110 t111 t112 t113).bind fun bt120 => ((spec_DrawEqualLines.f k l0).bind fun bt124 => ((spec_DrawSideText.f k l0).bind fun bt130 => ((impl_ParallelClasses.f t102).bind fun t135 => ((impl_LinePoly.f k t102).bind fun t138 => ((spec_MeetingRow.f k t102).bind fun t141 => ((laws_sameInts.f k t105 t141).bind fun t144 => (if t144 = true then (if (bt116.2.2.2 != bt120.2.2.2) = true then (laws_FnLines.j0 k t102 t105 bt116.1 bt116.2.1 bt116.2.2.1 bt116.2.2.2 t135 t138 true t108 t109 t110 t111 t112 t113) else (if bt116.1 = bt120.1 then (if bt116.2.1 = bt120.2.1 then (if bt116.2.2.1 = bt120.2.2.1 then ((impl_EqualLines.f k bt124.1 bt124.2).bind fun t145 => ((laws_sameLines.f k bt124.1 bt124.2).bind fun t146 => (if (t145 != t146) = true then (laws_FnLines.j0 k t102 t105 bt116.1 bt116.2.1 bt116.2.2.1 bt116.2.2.2 t135 t138 true t108 t109 t110 t111 t112 t113) else ((impl_SideText.f k bt130.1 bt130.2.1 bt130.2.2).bind fun t147 => ((spec_SideText.f k bt130.1 bt130.2.1 bt130.2.2).bind fun t148 => (if t147.toList = t148.toList then ((spec_ParallelClasses.f k t102).bind fun t149 => ((laws_sameInts.f k t135 t149).bind fun t152 => (if t152 = true then ((spec_LinePoly.f k t102).bind fun t153 => ((laws_sameInts.f k t138 t153).bind fun t156 => (if t156 = true then ((impl_CountRegions.f k t102).bind fun t157 => ((spec_CountRegions.f k t102).bind fun t158 => (if t157 = t158 then ((impl_CountBounded.f k t102).bind fun t159 => ((spec_CountBounded.f k t102).bind fun t160 => (if t159 = t160 then ((impl_AreLines.f t102).bind fun t161 => ((spec_AreLines.f k t102).bind fun t162 => (laws_FnLines.j0 k t102 t105 bt116.1 bt116.2.1 bt116.2.2.1 bt116.2.2.2 t135 t138 (t161 != t162) t108 t109 t110 t111 t112 t113))) else (laws_FnLines.j0 k t102 t105 bt116.1 bt116.2.1 bt116.2.2.1 bt116.2.2.2 t135 t138 true t108 t109 t110 t111 t112 t113)))) else (laws_FnLines.j0 k t102 t105 bt116.1 bt116.2.1 bt116.2.2.1 bt116.2.2.2 t135 t138 true t108 t109 t110 t111 t112 t113)))) else (laws_FnLines.j0 k t102 t105 bt116.1 bt116.2.1 bt116.2.2.1 bt116.2.2.2 t135 t138 true t108 t109 t110 t111 t112 t113)))) else (laws_FnLines.j0 k t102 t105 bt116.1 bt116.2.1 bt116.2.2.1 bt116.2.2.2 t135 t138 true t108 t109 t110 t111 t112 t113)))) else (laws_FnLines.j0 k t102 t105 bt116.1 bt116.2.1 bt116.2.2.1 bt116.2.2.2 t135 t138 true t108 t109 t110 t111 t112 t113))))))) else (laws_FnLines.j0 k t102 t105 bt116.1 bt116.2.1 bt116.2.2.1 bt116.2.2.2 t135 t138 true t108 t109 t110 t111 t112 t113)) else (laws_FnLines.j0 k t102 t105 bt116.1 bt116.2.1 bt116.2.2.1 bt116.2.2.2 t135 t138 true t108 t109 t110 t111 t112 t113)) else (laws_FnLines.j0 k t102 t105 bt116.1 bt116.2.1 bt116.2.2.1 bt116.2.2.2 t135 t138 true t108 t109 t110 t111 t112 t113))) else (laws_FnLines.j0 k t102 t105 bt116.1 bt116.2.1 bt116.2.2.1 bt116.2.2.2 t135 t138 true t108 t109 t110 t111 t112 t113)))))))))) = some true := H
  have A6 := aM_ A60
  clear A60
  replace H := oB_ H
  obtain ⟨⟨t116, t117, t118, t119⟩, A70, H⟩ := H
  replace H : ((spec_MeetLines.f k t108 t109 t110 t111 t112 t113).bind fun bt120 => ((spec_DrawEqualLines.f k l0).bind fun bt124 => ((spec_DrawSideText.f k l0).bind fun bt130 => ((impl_ParallelClasses.f t102).bind fun t135 => ((impl_LinePoly.f k t102).bind fun t138 => ((spec_MeetingRow.f k t102).bind fun t141 => ((laws_sameInts.f k t105 t141).bind fun t144 => (if t144 = true then (if (t119 != bt120.2.2.2) = true then (laws_FnLines.j0 k t102 t105 t116 t117 t118 t119 t135 t138 true t108 t109 t110 t111 t112 t113) else (if t116 = bt120.1 then (if t117 = bt120.2.1 then (if t118 = bt120.2.2.1 then ((impl_EqualLines.f k bt124.1 bt124.2).bind fun t145 => ((laws_sameLines.f k bt124.1 bt124.2).bind fun t146 => (if (t145 != t146) = true then (laws_FnLines.j0 k t102 t105 t116 t117 t118 t119 t135 t138 true t108 t109 t110 t111 t112 t113) else ((impl_SideText.f k bt130.1 bt130.2.1 bt130.2.2).bind fun t147 => ((spec_SideText.f k bt130.1 bt130.2.1 bt130.2.2).bind fun t148 => (if t147.toList = t148.toList then ((spec_ParallelClasses.f k t102).bind fun t149 => ((laws_sameInts.f k t135 t149).bind fun t152 => (if t152 = true then ((spec_LinePoly.f k t102).bind fun t153 => ((laws_sameInts.f k t138 t153).bind fun t156 => (if t156 = true then ((impl_CountRegions.f k t102).bind fun t157 => ((spec_CountRegions.f k t102).bind fun t158 => (if t157 = t158 then ((impl_CountBounded.f k t102).bind fun t159 => ((spec_CountBounded.f k t102).bind fun t160 => (if t159 = t160 then ((impl_AreLines.f t102).bind fun t161 => ((spec_AreLines.f k t102).bind fun t162 => (laws_FnLines.j0 k t102 t105 t116 t117 t118 t119 t135 t138 (t161 != t162) t108 t109 t110 t111 t112 t113))) else (laws_FnLines.j0 k t102 t105 t116 t117 t118 t119 t135 t138 true t108 t109 t110 t111 t112 t113)))) else (laws_FnLines.j0 k t102 t105 t116 t117 t118 t119 t135 t138 true t108 t109 t110 t111 t112 t113)))) else (laws_FnLines.j0 k t102 t105 t116 t117 t118 t119 t135 t138 true t108 t109 t110 t111 t112 t113)))) else (laws_FnLines.j0 k t102 t105 t116 t117 t118 t119 t135 t138 true t108 t109 t110 t111 t112 t113)))) else (laws_FnLines.j0 k t102 t105 t116 t117 t118 t119 t135 t138 true t108 t109 t110 t111 t112 t113))))))) else (laws_FnLines.j0 k t102 t105 t116 t117 t118 t119 t135 t138 true t108 t109 t110 t111 t112 t113)) else (laws_FnLines.j0 k t102 t105 t116 t117 t118 t119 t135 t138 true t108 t109 t110 t111 t112 t113)) else (laws_FnLines.j0 k t102 t105 t116 t117 t118 t119 t135 t138 true t108 t109 t110 t111 t112 t113))) else (laws_FnLines.j0 k t102 t105 t116 t117 t118 t119 t135 t138 true t108 t109 t110 t111 t112 t113))))))))) = some true := H
  have A7 := aM_ A70
  clear A70
  replace H := oB_ H
  obtain ⟨⟨t120, t121, t122, t123⟩, A80, H⟩ := H
  replace H : ((spec_DrawEqualLines.f k l0).bind fun bt124 => ((spec_DrawSideText.f k l0).bind fun bt130 => ((impl_ParallelClasses.f t102).bind fun t135 => ((impl_LinePoly.f k t102).bind fun t138 => ((spec_MeetingRow.f k t102).bind fun t141 => ((laws_sameInts.f k t105 t141).bind fun t144 => (if t144 = true then (if (t119 != t123) = true then (laws_FnLines.j0 k t102 t105 t116 t117 t118 t119 t135 t138 true t108 t109 t110 t111 t112 t113) else (if t116 = t120 then (if t117 = t121 then (if t118 = t122 then ((impl_EqualLines.f k bt124.1 bt124.2).bind fun t145 => ((laws_sameLines.f k bt124.1 bt124.2).bind fun t146 => (if (t145 != t146) = true then (laws_FnLines.j0 k t102 t105 t116 t117 t118 t119 t135 t138 true t108 t109 t110 t111 t112 t113) else ((impl_SideText.f k bt130.1 bt130.2.1 bt130.2.2).bind fun t147 => ((spec_SideText.f k bt130.1 bt130.2.1 bt130.2.2).bind fun t148 => (if t147.toList = t148.toList then ((spec_ParallelClasses.f k t102).bind fun t149 => ((laws_sameInts.f k t135 t149).bind fun t152 => (if t152 = true then ((spec_LinePoly.f k t102).bind fun t153 => ((laws_sameInts.f k t138 t153).bind fun t156 => (if t156 = true then ((impl_CountRegions.f k t102).bind fun t157 => ((spec_CountRegions.f k t102).bind fun t158 => (if t157 = t158 then ((impl_CountBounded.f k t102).bind fun t159 => ((spec_CountBounded.f k t102).bind fun t160 => (if t159 = t160 then ((impl_AreLines.f t102).bind fun t161 => ((spec_AreLines.f k t102).bind fun t162 => (laws_FnLines.j0 k t102 t105 t116 t117 t118 t119 t135 t138 (t161 != t162) t108 t109 t110 t111 t112 t113))) else (laws_FnLines.j0 k t102 t105 t116 t117 t118 t119 t135 t138 true t108 t109 t110 t111 t112 t113)))) else (laws_FnLines.j0 k t102 t105 t116 t117 t118 t119 t135 t138 true t108 t109 t110 t111 t112 t113)))) else (laws_FnLines.j0 k t102 t105 t116 t117 t118 t119 t135 t138 true t108 t109 t110 t111 t112 t113)))) else (laws_FnLines.j0 k t102 t105 t116 t117 t118 t119 t135 t138 true t108 t109 t110 t111 t112 t113)))) else (laws_FnLines.j0 k t102 t105 t116 t117 t118 t119 t135 t138 true t108 t109 t110 t111 t112 t113))))))) else (laws_FnLines.j0 k t102 t105 t116 t117 t118 t119 t135 t138 true t108 t109 t110 t111 t112 t113)) else (laws_FnLines.j0 k t102 t105 t116 t117 t118 t119 t135 t138 true t108 t109 t110 t111 t112 t113)) else (laws_FnLines.j0 k t102 t105 t116 t117 t118 t119 t135 t138 true t108 t109 t110 t111 t112 t113))) else (laws_FnLines.j0 k t102 t105 t116 t117 t118 t119 t135 t138 true t108 t109 t110 t111 t112 t113)))))))) = some true := H
  have A8 := aM_ A80
  clear A80
  replace H := oB_ H
  obtain ⟨⟨t124, t125⟩, A90, H⟩ := H
  replace H : ((spec_DrawSideText.f k l0).bind fun bt130 => ((impl_ParallelClasses.f t102).bind fun t135 => ((impl_LinePoly.f k t102).bind fun t138 => ((spec_MeetingRow.f k t102).bind fun t141 => ((laws_sameInts.f k t105 t141).bind fun t144 => (if t144 = true then (if (t119 != t123) = true then (laws_FnLines.j0 k t102 t105 t116 t117 t118 t119 t135 t138 true t108 t109 t110 t111 t112 t113) else (if t116 = t120 then (if t117 = t121 then (if t118 = t122 then ((impl_EqualLines.f k t124 t125).bind fun t145 => ((laws_sameLines.f k t124 t125).bind fun t146 => (if (t145 != t146) = true then (laws_FnLines.j0 k t102 t105 t116 t117 t118 t119 t135 t138 true t108 t109 t110 t111 t112 t113) else ((impl_SideText.f k bt130.1 bt130.2.1 bt130.2.2).bind fun t147 => ((spec_SideText.f k bt130.1 bt130.2.1 bt130.2.2).bind fun t148 => (if t147.toList = t148.toList then ((spec_ParallelClasses.f k t102).bind fun t149 => ((laws_sameInts.f k t135 t149).bind fun t152 => (if t152 = true then ((spec_LinePoly.f k t102).bind fun t153 => ((laws_sameInts.f k t138 t153).bind fun t156 => (if t156 = true then ((impl_CountRegions.f k t102).bind fun t157 => ((spec_CountRegions.f k t102).bind fun t158 => (if t157 = t158 then ((impl_CountBounded.f k t102).bind fun t159 => ((spec_CountBounded.f k t102).bind fun t160 => (if t159 = t160 then ((impl_AreLines.f t102).bind fun t161 => ((spec_AreLines.f k t102).bind fun t162 => (laws_FnLines.j0 k t102 t105 t116 t117 t118 t119 t135 t138 (t161 != t162) t108 t109 t110 t111 t112 t113))) else (laws_FnLines.j0 k t102 t105 t116 t117 t118 t119 t135 t138 true t108 t109 t110 t111 t112 t113)))) else (laws_FnLines.j0 k t102 t105 t116 t117 t118 t119 t135 t138 true t108 t109 t110 t111 t112 t113)))) else (laws_FnLines.j0 k t102 t105 t116 t117 t118 t119 t135 t138 true t108 t109 t110 t111 t112 t113)))) else (laws_FnLines.j0 k t102 t105 t116 t117 t118 t119 t135 t138 true t108 t109 t110 t111 t112 t113)))) else (laws_FnLines.j0 k t102 t105 t116 t117 t118 t119 t135 t138 true t108 t109 t110 t111 t112 t113))))))) else (laws_FnLines.j0 k t102 t105 t116 t117 t118 t119 t135 t138 true t108 t109 t110 t111 t112 t113)) else (laws_FnLines.j0 k t102 t105 t116 t117 t118 t119 t135 t138 true t108 t109 t110 t111 t112 t113)) else (laws_FnLines.j0 k t102 t105 t116 t117 t118 t119 t135 t138 true t108 t109 t110 t111 t112 t113))) else (laws_FnLines.j0 k t102 t105 t116 t117 t118 t119 t135 t138 true t108 t109 t110 t111 t112 t113))))))) = some true := H
  have A9 := aM_ A90
  clear A90
  replace H := oB_ H
  obtain ⟨⟨t130, t131, t132⟩, A100, H⟩ := H
  replace H : ((impl_ParallelClasses.f t102).bind fun t135 => ((impl_LinePoly.f k t102).bind fun t138 => ((spec_MeetingRow.f k t102).bind fun t141 => ((laws_sameInts.f k t105 t141).bind fun t144 => (if t144 = true then (if (t119 != t123) = true then (laws_FnLines.j0 k t102 t105 t116 t117 t118 t119 t135 t138 true t108 t109 t110 t111 t112 t113) else (if t116 = t120 then (if t117 = t121 then (if t118 = t122 then ((impl_EqualLines.f k t124 t125).bind fun t145 => ((laws_sameLines.f k t124 t125).bind fun t146 => (if (t145 != t146) = true then (laws_FnLines.j0 k t102 t105 t116 t117 t118 t119 t135 t138 true t108 t109 t110 t111 t112 t113) else ((impl_SideText.f k t130 t131 t132).bind fun t147 => ((spec_SideText.f k t130 t131 t132).bind fun t148 => (if t147.toList = t148.toList then ((spec_ParallelClasses.f k t102).bind fun t149 => ((laws_sameInts.f k t135 t149).bind fun t152 => (if t152 = true then ((spec_LinePoly.f k t102).bind fun t153 => ((laws_sameInts.f k t138 t153).bind fun t156 => (if t156 = true then ((impl_CountRegions.f k t102).bind fun t157 => ((spec_CountRegions.f k t102).bind fun t158 => (if t157 = t158 then ((impl_CountBounded.f k t102).bind fun t159 => ((spec_CountBounded.f k t102).bind fun t160 => (if t159 = t160 then ((impl_AreLines.f t102).bind fun t161 => ((spec_AreLines.f k t102).bind fun t162 => (laws_FnLines.j0 k t102 t105 t116 t117 t118 t119 t135 t138 (t161 != t162) t108 t109 t110 t111 t112 t113))) else (laws_FnLines.j0 k t102 t105 t116 t117 t118 t119 t135 t138 true t108 t109 t110 t111 t112 t113)))) else (laws_FnLines.j0 k t102 t105 t116 t117 t118 t119 t135 t138 true t108 t109 t110 t111 t112 t113)))) else (laws_FnLines.j0 k t102 t105 t116 t117 t118 t119 t135 t138 true t108 t109 t110 t111 t112 t113)))) else (laws_FnLines.j0 k t102 t105 t116 t117 t118 t119 t135 t138 true t108 t109 t110 t111 t112 t113)))) else (laws_FnLines.j0 k t102 t105 t116 t117 t118 t119 t135 t138 true t108 t109 t110 t111 t112 t113))))))) else (laws_FnLines.j0 k t102 t105 t116 t117 t118 t119 t135 t138 true t108 t109 t110 t111 t112 t113)) else (laws_FnLines.j0 k t102 t105 t116 t117 t118 t119 t135 t138 true t108 t109 t110 t111 t112 t113)) else (laws_FnLines.j0 k t102 t105 t116 t117 t118 t119 t135 t138 true t108 t109 t110 t111 t112 t113))) else (laws_FnLines.j0 k t102 t105 t116 t117 t118 t119 t135 t138 true t108 t109 t110 t111 t112 t113)))))) = some true := H
  have A10 := aM_ A100
  clear A100
  replace H := oB_ H
  obtain ⟨t135, A110, H⟩ := H
  replace H : ((impl_LinePoly.f k t102).bind fun t138 => ((spec_MeetingRow.f k t102).bind fun t141 => ((laws_sameInts.f k t105 t141).bind fun t144 => (if t144 = true then (if (t119 != t123) = true then (laws_FnLines.j0 k t102 t105 t116 t117 t118 t119 t135 t138 true t108 t109 t110 t111 t112 t113) else (if t116 = t120 then (if t117 = t121 then (if t118 = t122 then ((impl_EqualLines.f k t124 t125).bind fun t145 => ((laws_sameLines.f k t124 t125).bind fun t146 => (if (t145 != t146) = true then (laws_FnLines.j0 k t102 t105 t116 t117 t118 t119 t135 t138 true t108 t109 t110 t111 t112 t113) else ((impl_SideText.f k t130 t131 t132).bind fun t147 => ((spec_SideText.f k t130 t131 t132).bind fun t148 => (if t147.toList = t148.toList then ((spec_ParallelClasses.f k t102).bind fun t149 => ((laws_sameInts.f k t135 t149).bind fun t152 => (if t152 = true then ((spec_LinePoly.f k t102).bind fun t153 => ((laws_sameInts.f k t138 t153).bind fun t156 => (if t156 = true then ((impl_CountRegions.f k t102).bind fun t157 => ((spec_CountRegions.f k t102).bind fun t158 => (if t157 = t158 then ((impl_CountBounded.f k t102).bind fun t159 => ((spec_CountBounded.f k t102).bind fun t160 => (if t159 = t160 then ((impl_AreLines.f t102).bind fun t161 => ((spec_AreLines.f k t102).bind fun t162 => (laws_FnLines.j0 k t102 t105 t116 t117 t118 t119 t135 t138 (t161 != t162) t108 t109 t110 t111 t112 t113))) else (laws_FnLines.j0 k t102 t105 t116 t117 t118 t119 t135 t138 true t108 t109 t110 t111 t112 t113)))) else (laws_FnLines.j0 k t102 t105 t116 t117 t118 t119 t135 t138 true t108 t109 t110 t111 t112 t113)))) else (laws_FnLines.j0 k t102 t105 t116 t117 t118 t119 t135 t138 true t108 t109 t110 t111 t112 t113)))) else (laws_FnLines.j0 k t102 t105 t116 t117 t118 t119 t135 t138 true t108 t109 t110 t111 t112 t113)))) else (laws_FnLines.j0 k t102 t105 t116 t117 t118 t119 t135 t138 true t108 t109 t110 t111 t112 t113))))))) else (laws_FnLines.j0 k t102 t105 t116 t117 t118 t119 t135 t138 true t108 t109 t110 t111 t112 t113)) else (laws_FnLines.j0 k t102 t105 t116 t117 t118 t119 t135 t138 true t108 t109 t110 t111 t112 t113)) else (laws_FnLines.j0 k t102 t105 t116 t117 t118 t119 t135 t138 true t108 t109 t110 t111 t112 t113))) else (laws_FnLines.j0 k t102 t105 t116 t117 t118 t119 t135 t138 true t108 t109 t110 t111 t112 t113))))) = some true := H
  have A11 := aM_ A110
  clear A110
  replace H := oB_ H
  obtain ⟨t138, A120, H⟩ := H
  replace H : ((spec_MeetingRow.f k t102).bind fun t141 => ((laws_sameInts.f k t105 t141).bind fun t144 => (if t144 = true then (if (t119 != t123) = true then (laws_FnLines.j0 k t102 t105 t116 t117 t118 t119 t135 t138 true t108 t109 t110 t111 t112 t113) else (if t116 = t120 then (if t117 = t121 then (if t118 = t122 then ((impl_EqualLines.f k t124 t125).bind fun t145 => ((laws_sameLines.f k t124 t125).bind fun t146 => (if (t145 != t146) = true then (laws_FnLines.j0 k t102 t105 t116 t117 t118 t119 t135 t138 true t108 t109 t110 t111 t112 t113) else ((impl_SideText.f k t130 t131 t132).bind fun t147 => ((spec_SideText.f k t130 t131 t132).bind fun t148 => (if t147.toList = t148.toList then ((spec_ParallelClasses.f k t102).bind fun t149 => ((laws_sameInts.f k t135 t149).bind fun t152 => (if t152 = true then ((spec_LinePoly.f k t102).bind fun t153 => ((laws_sameInts.f k t138 t153).bind fun t156 => (if t156 = true then ((impl_CountRegions.f k t102).bind fun t157 => ((spec_CountRegions.f k t102).bind fun t158 => (if t157 = t158 then ((impl_CountBounded.f k t102).bind fun t159 => ((spec_CountBounded.f k t102).bind fun t160 => (if t159 = t160 then ((impl_AreLines.f t102).bind fun t161 => ((spec_AreLines.f k t102).bind fun t162 => (laws_FnLines.j0 k t102 t105 t116 t117 t118 t119 t135 t138 (t161 != t162) t108 t109 t110 t111 t112 t113))) else (laws_FnLines.j0 k t102 t105 t116 t117 t118 t119 t135 t138 true t108 t109 t110 t111 t112 t113)))) else (laws_FnLines.j0 k t102 t105 t116 t117 t118 t119 t135 t138 true t108 t109 t110 t111 t112 t113)))) else (laws_FnLines.j0 k t102 t105 t116 t117 t118 t119 t135 t138 true t108 t109 t110 t111 t112 t113)))) else (laws_FnLines.j0 k t102 t105 t116 t117 t118 t119 t135 t138 true t108 t109 t110 t111 t112 t113)))) else (laws_FnLines.j0 k t102 t105 t116 t117 t118 t119 t135 t138 true t108 t109 t110 t111 t112 t113))))))) else (laws_FnLines.j0 k t102 t105 t116 t117 t118 t119 t135 t138 true t108 t109 t110 t111 t112 t113)) else (laws_FnLines.j0 k t102 t105 t116 t117 t118 t119 t135 t138 true t108 t109 t110 t111 t112 t113)) else (laws_FnLines.j0 k t102 t105 t116 t117 t118 t119 t135 t138 true t108 t109 t110 t111 t112 t113))) else (laws_FnLines.j0 k t102 t105 t116 t117 t118 t119 t135 t138 true t108 t109 t110 t111 t112 t113)))) = some true := H
  have A12 := aM_ A120
  clear A120
  have HC13 := aM_ H
  clear H
  go_enter Try.func9, Try.ntmps9
  go_upto_region 12 with (first | ((with_reducible refine gate_callee (f := 34) rfl ?_); refine goesL_ (some 28) rfl rfl Try.func34 (by kernel_rfl) rfl #[.slice A0 l0.length c0] rfl (by (try simp only [List.map_toArray, List.map_cons, List.map_nil]); first | done | rfl | (simp only [List.length_drop, List.length_take]; rfl)) ?_; (with_reducible refine (laws_big.calls _ _ l0 false _ ?side1 ?side2 A2.out).mono ?_); (case side1 => repeat (first | exact HR0.out | (with_reducible refine Kd.C_alloc ?_ _) | (with_reducible refine Kd.C_drewN ?_ _) | (with_reducible refine Kd.C_drew ?_))); (case side2 => exact HC0.out); rintro e w' ⟨rfl, ⟨nd, rfl⟩⟩; refine ⟨_, rfl, ?_⟩) | ((with_reducible refine gate_callee (f := 35) rfl ?_); refine goesL_ (some 30) rfl rfl Try.func35 (by kernel_rfl) rfl #[.slice A0 l0.length c0] rfl (by (try simp only [List.map_toArray, List.map_cons, List.map_nil]); first | done | rfl | (simp only [List.length_drop, List.length_take]; rfl)) ?_; (with_reducible refine (spec_DrawMeetingRow.calls k _ _ l0 t102 _ ?side1 ?side2 A4.out).mono ?_); (case side1 => repeat (first | exact HR0.out | (with_reducible refine Kd.C_alloc ?_ _) | (with_reducible refine Kd.C_drewN ?_ _) | (with_reducible refine Kd.C_drew ?_))); (case side2 => exact HC0.out); rintro e w14 ⟨v103, rfl, ho0, hb⟩; refine ⟨_, rfl, ?_⟩; have n0_ := aM_ (Kd.R_lower ho0 (below_size (by repeat (first | (with_reducible first | exact HB.out | apply bA_ | apply bN_ | apply bD_) | exact HB.out)))); have n1_ := aM_ (below_step (by repeat (first | (with_reducible first | exact HB.out | apply bA_ | apply bN_ | apply bD_) | exact HB.out)) hb); clear HB; have HO104 := n0_; have HB := n1_; clear n0_ n1_; (try clear hb); (try clear hb2); (try clear hk); (try clear hi); (try clear ho0); obtain ⟨Ao15, co15, eo15⟩ := Kd.R_slice HO104.out; subst eo15) | ((with_reducible refine gate_callee (f := 36) rfl ?_); refine goesL_ (some 32) rfl rfl Try.func36 (by kernel_rfl) rfl #[.slice Ao15 t102.length co15] rfl (by (try simp only [List.map_toArray, List.map_cons, List.map_nil]); first | done | rfl | (simp only [List.length_drop, List.length_take]; rfl)) ?_; (with_reducible refine (impl_MeetingRow.calls k _ _ t102 t105 _ ?side1 ?side2 A5.out).mono ?_); (case side1 => repeat (first | exact (Kd.R_reads' HO104.out).2.2 | (with_reducible refine Kd.C_alloc ?_ _) | (with_reducible refine Kd.C_drewN ?_ _) | (with_reducible refine Kd.C_drew ?_))); (case side2 => exact (Kd.R_reads' HO104.out).2.1); rintro e w16 ⟨v106, rfl, ho0, hb⟩; refine ⟨_, rfl, ?_⟩; have n0_ := aM_ (Kd.R_below (by (with_reducible repeat (first | apply kA_ | apply kN_ | apply kD_)); exact HO104.out) hb); have n1_ := aM_ (Kd.R_lower ho0 (below_size (by repeat (first | (with_reducible first | exact HB.out | apply bA_ | apply bN_ | apply bD_) | exact HB.out)))); have n2_ := aM_ (below_step (by repeat (first | (with_reducible first | exact HB.out | apply bA_ | apply bN_ | apply bD_) | exact HB.out)) hb); clear HO104; clear HB; have HO104 := n0_; have HO107 := n1_; have HB := n2_; clear n0_ n1_ n2_; (try clear hb); (try clear hb2); (try clear hk); (try clear hi); (try clear ho0)) | ((with_reducible refine gate_callee (f := 37) rfl ?_); refine goesL_ (some 35) rfl rfl Try.func37 (by kernel_rfl) rfl #[.slice A0 l0.length c0] rfl (by (try simp only [List.map_toArray, List.map_cons, List.map_nil]); first | done | rfl | (simp only [List.length_drop, List.length_take]; rfl)) ?_; (with_reducible refine (spec_DrawMeetLines.calls k _ _ l0 t108 t109 t110 t111 t112 t113 _ ?side1 ?side2 A6.out).mono ?_); (case side1 => repeat (first | exact (Kd.C_below HR0.out HB.out) | (with_reducible refine Kd.C_alloc ?_ _) | (with_reducible refine Kd.C_drewN ?_ _) | (with_reducible refine Kd.C_drew ?_))); (case side2 => exact HC0.out); rintro e w17 ⟨rfl, hb⟩; refine ⟨_, rfl, ?_⟩; have n0_ := aM_ (Kd.R_below (by (with_reducible repeat (first | apply kA_ | apply kN_ | apply kD_)); exact HO104.out) hb); have n1_ := aM_ (Kd.R_below (by (with_reducible repeat (first | apply kA_ | apply kN_ | apply kD_)); exact HO107.out) hb); have n2_ := aM_ (below_step (by repeat (first | (with_reducible first | exact HB.out | apply bA_ | apply bN_ | apply bD_) | exact HB.out)) hb); clear HO104; clear HO107; clear HB; have HO104 := n0_; have HO107 := n1_; have HB := n2_; clear n0_ n1_ n2_; (try clear hb); (try clear hb2); (try clear hk); (try clear hi)) | ((with_reducible refine gate_dst (N := 5) rfl ?_); (try (refine gate_guard (by rfl) ?_; dsimp only)); refine box_event ?hg (N := 5) ?hd (cs := #[.int .i64 0, .int .i64 0, .int .i64 0]) (t := 40) ?hr ?_; (case hd => rfl); (case hg => rfl); (case hr => first | (go_simp; done) | (go_simp; rfl)); intro gb114 hg w18 hbox hb; have n0_ := aM_ (Kd.R_below (Kd.R_elderB (by (with_reducible repeat (first | apply kA_ | apply kN_ | apply kD_)); exact HO104.out) gb114 (Nat.le_of_eq hg.symm)) hb); have n1_ := aM_ (Kd.R_below (by (with_reducible repeat (first | apply kA_ | apply kN_ | apply kD_)); exact HO107.out) hb); have n2_ := aM_ (below_step (by repeat (first | (with_reducible first | exact HB.out | apply bA_ | apply bN_ | apply bD_) | exact HB.out)) hb); have n3_ := aM_ (hbox); have n4_ := aM_ ((by rw [hg]; exact (below_size (by repeat (first | (with_reducible first | exact HB.out | apply bA_ | apply bN_ | apply bD_) | exact HB.out))) : w.heap.size ≤ gb114)); have n5_ := aM_ ((by rw [hg]; exact (below_size (by repeat (first | (with_reducible first | exact HB.out | apply bA_ | apply bN_ | apply bD_) | exact HB.out))) : w.heap.size ≤ gb114)); clear HO104; clear HO107; clear HB; have HO104 := n0_; have HO107 := n1_; have HB := n2_; have BK114 := n3_; have GW114 := n4_; have GE114 := n5_; clear n0_ n1_ n2_ n3_ n4_ n5_; clear hb hbox hg) | ((with_reducible refine gate_dst (N := 6) rfl ?_); (try (refine gate_guard (by rfl) ?_; dsimp only)); refine box_event ?hg (N := 6) ?hd (cs := #[.int .i64 0, .int .i64 0, .int .i64 0]) (t := 40) ?hr ?_; (case hd => rfl); (case hg => rfl); (case hr => first | (go_simp; done) | (go_simp; rfl)); intro gb115 hg w19 hbox hb; have n0_ := aM_ (Kd.R_below (Kd.R_elderB (by (with_reducible repeat (first | apply kA_ | apply kN_ | apply kD_)); exact HO104.out) gb115 (Nat.le_of_eq hg.symm)) hb); have n1_ := aM_ (Kd.R_below (by (with_reducible repeat (first | apply kA_ | apply kN_ | apply kD_)); exact HO107.out) hb); have n2_ := aM_ (blk_below (g := gb114) (o := .cells #[.int .i64 0, .int .i64 0, .int .i64 0] 40 (0, 0)) (by (with_reducible repeat (first | refine blk_drewN ?_ _ | refine blk_drew ?_ | refine blk_alloc ?_ _)); exact BK114.out) hb); have n3_ := aM_ (below_step (by repeat (first | (with_reducible first | exact HB.out | apply bA_ | apply bN_ | apply bD_ | refine below_set ?_ GE114.out) | exact HB.out)) hb); have n4_ := aM_ (hbox); have n5_ := aM_ ((by rw [hg]; exact (below_size (by repeat (first | (with_reducible first | exact HB.out | apply bA_ | apply bN_ | apply bD_ | refine below_set ?_ GE114.out) | exact HB.out))) : w.heap.size ≤ gb115)); have n6_ := aM_ ((by rw [hg]; exact (below_size (by repeat (first | (with_reducible first | exact HB.out | apply bA_ | apply bN_ | apply bD_ | refine below_set ?_ GE114.out) | exact HB.out))) : w.heap.size ≤ gb115)); have n7_ := aM_ ((by rw [hg]; exact Nat.ne_of_lt (blk_lt (g := gb114) (o := .cells #[.int .i64 0, .int .i64 0, .int .i64 0] 40 (0, 0)) (by (with_reducible repeat (first | refine blk_drewN ?_ _ | refine blk_drew ?_ | refine blk_alloc ?_ _)); exact BK114.out)) : gb114 ≠ gb115)); have n8_ := aM_ ((by rw [hg]; exact Nat.ne_of_gt (blk_lt (g := gb114) (o := .cells #[.int .i64 0, .int .i64 0, .int .i64 0] 40 (0, 0)) (by (with_reducible repeat (first | refine blk_drewN ?_ _ | refine blk_drew ?_ | refine blk_alloc ?_ _)); exact BK114.out)) : gb115 ≠ gb114)); clear HO104; clear HO107; clear BK114; clear HB; have HO104 := n0_; have HO107 := n1_; have BK114 := n2_; have HB := n3_; have BK115 := n4_; have GW115 := n5_; have GE115 := n6_; have NB114_115 := n7_; have NB115_114 := n8_; clear n0_ n1_ n2_ n3_ n4_ n5_ n6_ n7_ n8_; clear hb hbox hg; have hnb20 := NB114_115.out; have hnc20 := NB115_114.out; have hcz21_0 : w19.cell? ⟨gb114, 0, none⟩ = some (.int .i64 0) := (blk_cell BK114.out 0).trans rfl; have hcz21_1 : w19.cell? ⟨gb114, 1, none⟩ = some (.int .i64 0) := (blk_cell BK114.out 1).trans rfl; have hcz21_2 : w19.cell? ⟨gb114, 2, none⟩ = some (.int .i64 0) := (blk_cell BK114.out 2).trans rfl; have hfz21_0 := blk_frozen BK114.out 0; have hfz21_1 := blk_frozen BK114.out 1; have hfz21_2 := blk_frozen BK114.out 2; have hcz22_0 : w19.cell? ⟨gb115, 0, none⟩ = some (.int .i64 0) := (blk_cell BK115.out 0).trans rfl; have hcz22_1 : w19.cell? ⟨gb115, 1, none⟩ = some (.int .i64 0) := (blk_cell BK115.out 1).trans rfl; have hcz22_2 : w19.cell? ⟨gb115, 2, none⟩ = some (.int .i64 0) := (blk_cell BK115.out 2).trans rfl; have hfz22_0 := blk_frozen BK115.out 0; have hfz22_1 := blk_frozen BK115.out 1; have hfz22_2 := blk_frozen BK115.out 2) | ((with_reducible refine gate_callee (f := 38) rfl ?_); refine goesL_ (some 41) rfl rfl Try.func38 (by kernel_rfl) rfl #[.agg #[.int .i64 t108, .int .i64 t109, .int .i64 t110], .agg #[.int .i64 t111, .int .i64 t112, .int .i64 t113]] rfl (by (try simp only [List.map_toArray, List.map_cons, List.map_nil]); first | done | rfl | (simp only [List.length_drop, List.length_take]; rfl)) ?_; (with_reducible refine (impl_MeetLines.calls k t108 t109 t110 t111 t112 t113 t116 t117 t118 t119 _ A7.out).mono ?_); rintro e w23 ⟨rfl, hb⟩; refine ⟨_, rfl, ?_⟩; have n0_ := aM_ (Kd.R_below (by (with_reducible repeat (first | apply kA_ | apply kN_ | apply kD_)); exact (Kd.R_mono (Kd.R_mono (Kd.R_far (p := ⟨gb115, 2, none⟩) (Kd.R_far (p := ⟨gb115, 1, none⟩) (Kd.R_far (p := ⟨gb115, 0, none⟩) (Kd.R_far (p := ⟨gb114, 2, none⟩) (Kd.R_far (p := ⟨gb114, 1, none⟩) (Kd.R_far (p := ⟨gb114, 0, none⟩) (Kd.R_mono (Kd.R_mono HO104.out (fun k_ hk => (⟨hk, hk.1.2⟩ : _ ∧ k_ ≠ gb114))) (fun k_ hk => (⟨hk, hk.1.2⟩ : _ ∧ k_ ≠ gb115))) (fun _ hk => hk.1.2) (.int .i64 t108)) (fun _ hk => hk.1.2) (.int .i64 t109)) (fun _ hk => hk.1.2) (.int .i64 t110)) (fun _ hk => hk.2) (.int .i64 t111)) (fun _ hk => hk.2) (.int .i64 t112)) (fun _ hk => hk.2) (.int .i64 t113)) (fun _ h_ => h_.1)) (fun _ h_ => h_.1))) hb); have n1_ := aM_ (Kd.R_below (by (with_reducible repeat (first | apply kA_ | apply kN_ | apply kD_)); exact (Kd.R_mono (Kd.R_mono (Kd.R_far (p := ⟨gb115, 2, none⟩) (Kd.R_far (p := ⟨gb115, 1, none⟩) (Kd.R_far (p := ⟨gb115, 0, none⟩) (Kd.R_far (p := ⟨gb114, 2, none⟩) (Kd.R_far (p := ⟨gb114, 1, none⟩) (Kd.R_far (p := ⟨gb114, 0, none⟩) (Kd.R_types (Kd.R_types HO107.out BK114.out (by decide)) BK115.out (by decide)) (fun _ hk => hk.1.2) (.int .i64 t108)) (fun _ hk => hk.1.2) (.int .i64 t109)) (fun _ hk => hk.1.2) (.int .i64 t110)) (fun _ hk => hk.2) (.int .i64 t111)) (fun _ hk => hk.2) (.int .i64 t112)) (fun _ hk => hk.2) (.int .i64 t113)) (fun _ h_ => h_.1)) (fun _ h_ => h_.1))) hb); have n2_ := aM_ (blk_below (g := gb114) (o := .cells #[.int .i64 t108, .int .i64 t109, .int .i64 t110] 40 (0, 0)) (by (with_reducible repeat (first | refine blk_drewN ?_ _ | refine blk_drew ?_ | refine blk_alloc ?_ _)); refine blk_far ?_ NB114_115.out _; (with_reducible repeat (first | refine blk_drewN ?_ _ | refine blk_drew ?_ | refine blk_alloc ?_ _)); refine blk_far ?_ NB114_115.out _; (with_reducible repeat (first | refine blk_drewN ?_ _ | refine blk_drew ?_ | refine blk_alloc ?_ _)); refine blk_far ?_ NB114_115.out _; (with_reducible repeat (first | refine blk_drewN ?_ _ | refine blk_drew ?_ | refine blk_alloc ?_ _)); refine blk_put (cs := #[.int .i64 t108, .int .i64 t109, .int .i64 0]) ?_ 2 _ rfl; (with_reducible repeat (first | refine blk_drewN ?_ _ | refine blk_drew ?_ | refine blk_alloc ?_ _)); refine blk_put (cs := #[.int .i64 t108, .int .i64 0, .int .i64 0]) ?_ 1 _ rfl; (with_reducible repeat (first | refine blk_drewN ?_ _ | refine blk_drew ?_ | refine blk_alloc ?_ _)); refine blk_put (cs := #[.int .i64 0, .int .i64 0, .int .i64 0]) ?_ 0 _ rfl; (with_reducible repeat (first | refine blk_drewN ?_ _ | refine blk_drew ?_ | refine blk_alloc ?_ _)); exact BK114.out) hb); have n3_ := aM_ (blk_below (g := gb115) (o := .cells #[.int .i64 t111, .int .i64 t112, .int .i64 t113] 40 (0, 0)) (by (with_reducible repeat (first | refine blk_drewN ?_ _ | refine blk_drew ?_ | refine blk_alloc ?_ _)); refine blk_put (cs := #[.int .i64 t111, .int .i64 t112, .int .i64 0]) ?_ 2 _ rfl; (with_reducible repeat (first | refine blk_drewN ?_ _ | refine blk_drew ?_ | refine blk_alloc ?_ _)); refine blk_put (cs := #[.int .i64 t111, .int .i64 0, .int .i64 0]) ?_ 1 _ rfl; (with_reducible repeat (first | refine blk_drewN ?_ _ | refine blk_drew ?_ | refine blk_alloc ?_ _)); refine blk_put (cs := #[.int .i64 0, .int .i64 0, .int .i64 0]) ?_ 0 _ rfl; (with_reducible repeat (first | refine blk_drewN ?_ _ | refine blk_drew ?_ | refine blk_alloc ?_ _)); refine blk_far ?_ NB115_114.out _; (with_reducible repeat (first | refine blk_drewN ?_ _ | refine blk_drew ?_ | refine blk_alloc ?_ _)); refine blk_far ?_ NB115_114.out _; (with_reducible repeat (first | refine blk_drewN ?_ _ | refine blk_drew ?_ | refine blk_alloc ?_ _)); refine blk_far ?_ NB115_114.out _; (with_reducible repeat (first | refine blk_drewN ?_ _ | refine blk_drew ?_ | refine blk_alloc ?_ _)); exact BK115.out) hb); have n4_ := aM_ (below_step (by repeat (first | (with_reducible first | exact HB.out | apply bA_ | apply bN_ | apply bD_ | refine below_set ?_ GE114.out | refine below_set ?_ GE115.out) | exact HB.out)) hb); clear HO104; clear HO107; clear BK114; clear BK115; clear HB; have HO104 := n0_; have HO107 := n1_; have BK114 := n2_; have BK115 := n3_; have HB := n4_; clear n0_ n1_ n2_ n3_ n4_; (try clear hb); (try clear hb2); (try clear hk); (try clear hi); have hcz24_0 : w23.cell? ⟨gb114, 0, none⟩ = some (.int .i64 t108) := (blk_cell BK114.out 0).trans rfl; have hcz24_1 : w23.cell? ⟨gb114, 1, none⟩ = some (.int .i64 t109) := (blk_cell BK114.out 1).trans rfl; have hcz24_2 : w23.cell? ⟨gb114, 2, none⟩ = some (.int .i64 t110) := (blk_cell BK114.out 2).trans rfl; have hfz24_0 := blk_frozen BK114.out 0; have hfz24_1 := blk_frozen BK114.out 1; have hfz24_2 := blk_frozen BK114.out 2; have hcz25_0 : w23.cell? ⟨gb115, 0, none⟩ = some (.int .i64 t111) := (blk_cell BK115.out 0).trans rfl; have hcz25_1 : w23.cell? ⟨gb115, 1, none⟩ = some (.int .i64 t112) := (blk_cell BK115.out 1).trans rfl; have hcz25_2 : w23.cell? ⟨gb115, 2, none⟩ = some (.int .i64 t113) := (blk_cell BK115.out 2).trans rfl; have hfz25_0 := blk_frozen BK115.out 0; have hfz25_1 := blk_frozen BK115.out 1; have hfz25_2 := blk_frozen BK115.out 2) | ((with_reducible refine gate_callee (f := 39) rfl ?_); refine goesL_ (some 49) rfl rfl Try.func39 (by kernel_rfl) rfl #[.agg #[.int .i64 t108, .int .i64 t109, .int .i64 t110], .agg #[.int .i64 t111, .int .i64 t112, .int .i64 t113]] rfl (by (try simp only [List.map_toArray, List.map_cons, List.map_nil]); first | done | rfl | (simp only [List.length_drop, List.length_take]; rfl)) ?_; (with_reducible refine (spec_MeetLines.calls k t108 t109 t110 t111 t112 t113 t120 t121 t122 t123 _ A8.out).mono ?_); rintro e w26 ⟨rfl, hb⟩; refine ⟨_, rfl, ?_⟩; have n0_ := aM_ (Kd.R_below (by (with_reducible repeat (first | apply kA_ | apply kN_ | apply kD_)); exact HO104.out) hb); have n1_ := aM_ (Kd.R_below (by (with_reducible repeat (first | apply kA_ | apply kN_ | apply kD_)); exact HO107.out) hb); have n2_ := aM_ (blk_below (g := gb114) (o := .cells #[.int .i64 t108, .int .i64 t109, .int .i64 t110] 40 (0, 0)) (by (with_reducible repeat (first | refine blk_drewN ?_ _ | refine blk_drew ?_ | refine blk_alloc ?_ _)); exact BK114.out) hb); have n3_ := aM_ (blk_below (g := gb115) (o := .cells #[.int .i64 t111, .int .i64 t112, .int .i64 t113] 40 (0, 0)) (by (with_reducible repeat (first | refine blk_drewN ?_ _ | refine blk_drew ?_ | refine blk_alloc ?_ _)); exact BK115.out) hb); have n4_ := aM_ (below_step (by repeat (first | (with_reducible first | exact HB.out | apply bA_ | apply bN_ | apply bD_ | refine below_set ?_ GE114.out | refine below_set ?_ GE115.out) | exact HB.out)) hb); clear HO104; clear HO107; clear BK114; clear BK115; clear HB; have HO104 := n0_; have HO107 := n1_; have BK114 := n2_; have BK115 := n3_; have HB := n4_; clear n0_ n1_ n2_ n3_ n4_; (try clear hb); (try clear hb2); (try clear hk); (try clear hi)) | ((with_reducible refine gate_callee (f := 40) rfl ?_); refine goesL_ (some 56) rfl rfl Try.func40 (by kernel_rfl) rfl #[.slice A0 l0.length c0] rfl (by (try simp only [List.map_toArray, List.map_cons, List.map_nil]); first | done | rfl | (simp only [List.length_drop, List.length_take]; rfl)) ?_; (with_reducible refine (spec_DrawEqualLines.calls k _ _ l0 t124 t125 _ ?side1 ?side2 A9.out).mono ?_); (case side1 => repeat (first | exact (Kd.C_below HR0.out HB.out) | (with_reducible refine Kd.C_alloc ?_ _) | (with_reducible refine Kd.C_drewN ?_ _) | (with_reducible refine Kd.C_drew ?_))); (case side2 => exact HC0.out); rintro e w27 ⟨v126, v128, rfl, ho0, ho1, hb⟩; refine ⟨_, rfl, ?_⟩; have n0_ := aM_ (Kd.R_mono (Kd.R_told (Kd.R_told (Kd.R_old (by (with_reducible repeat (first | apply kA_ | apply kN_ | apply kD_)); exact HO104.out) hb) (Kd.R_base ho0)) (Kd.R_base ho1)) (fun _ h_ => h_.1)); have n1_ := aM_ (Kd.R_below (by (with_reducible repeat (first | apply kA_ | apply kN_ | apply kD_)); exact HO107.out) hb); have n2_ := aM_ (Kd.R_lower (Kd.R_newB (Kd.R_newB (Kd.R_new' ho0 (Kd.R_lt (by (with_reducible repeat (first | apply kA_ | apply kN_ | apply kD_)); exact HO104.out))) (g := gb114) (o := .cells #[.int .i64 t108, .int .i64 t109, .int .i64 t110] 40 (0, 0)) (by (with_reducible repeat (first | refine blk_drewN ?_ _ | refine blk_drew ?_ | refine blk_alloc ?_ _)); exact BK114.out)) (g := gb115) (o := .cells #[.int .i64 t111, .int .i64 t112, .int .i64 t113] 40 (0, 0)) (by (with_reducible repeat (first | refine blk_drewN ?_ _ | refine blk_drew ?_ | refine blk_alloc ?_ _)); exact BK115.out)) (below_size (by repeat (first | (with_reducible first | exact HB.out | apply bA_ | apply bN_ | apply bD_ | refine below_set ?_ GE114.out | refine below_set ?_ GE115.out) | exact HB.out)))); have n3_ := aM_ (Kd.R_lower (Kd.R_newB (Kd.R_newB (Kd.R_new' ho1 (Kd.R_lt (by (with_reducible repeat (first | apply kA_ | apply kN_ | apply kD_)); exact HO104.out))) (g := gb114) (o := .cells #[.int .i64 t108, .int .i64 t109, .int .i64 t110] 40 (0, 0)) (by (with_reducible repeat (first | refine blk_drewN ?_ _ | refine blk_drew ?_ | refine blk_alloc ?_ _)); exact BK114.out)) (g := gb115) (o := .cells #[.int .i64 t111, .int .i64 t112, .int .i64 t113] 40 (0, 0)) (by (with_reducible repeat (first | refine blk_drewN ?_ _ | refine blk_drew ?_ | refine blk_alloc ?_ _)); exact BK115.out)) (below_size (by repeat (first | (with_reducible first | exact HB.out | apply bA_ | apply bN_ | apply bD_ | refine below_set ?_ GE114.out | refine below_set ?_ GE115.out) | exact HB.out)))); have n4_ := aM_ (blk_below (g := gb114) (o := .cells #[.int .i64 t108, .int .i64 t109, .int .i64 t110] 40 (0, 0)) (by (with_reducible repeat (first | refine blk_drewN ?_ _ | refine blk_drew ?_ | refine blk_alloc ?_ _)); exact BK114.out) hb); have n5_ := aM_ (blk_below (g := gb115) (o := .cells #[.int .i64 t111, .int .i64 t112, .int .i64 t113] 40 (0, 0)) (by (with_reducible repeat (first | refine blk_drewN ?_ _ | refine blk_drew ?_ | refine blk_alloc ?_ _)); exact BK115.out) hb); have n6_ := aM_ (below_step (by repeat (first | (with_reducible first | exact HB.out | apply bA_ | apply bN_ | apply bD_ | refine below_set ?_ GE114.out | refine below_set ?_ GE115.out) | exact HB.out)) hb); clear HO104; clear HO107; clear BK114; clear BK115; clear HB; have HO104 := n0_; have HO107 := n1_; have HO127 := n2_; have HO129 := n3_; have BK114 := n4_; have BK115 := n5_; have HB := n6_; clear n0_ n1_ n2_ n3_ n4_ n5_ n6_; (try clear hb); (try clear hb2); (try clear hk); (try clear hi); (try clear ho0); (try clear ho1)) | ((with_reducible refine gate_callee (f := 41) rfl ?_); refine goesL_ (some 61) rfl rfl Try.func41 (by kernel_rfl) rfl #[.slice A0 l0.length c0] rfl (by (try simp only [List.map_toArray, List.map_cons, List.map_nil]); first | done | rfl | (simp only [List.length_drop, List.length_take]; rfl)) ?_; (with_reducible refine (spec_DrawSideText.calls k _ _ l0 t130 t131 t132 _ ?side1 ?side2 A10.out).mono ?_); (case side1 => repeat (first | exact (Kd.C_below HR0.out HB.out) | (with_reducible refine Kd.C_alloc ?_ _) | (with_reducible refine Kd.C_drewN ?_ _) | (with_reducible refine Kd.C_drew ?_))); (case side2 => exact HC0.out); rintro e w28 ⟨v133, rfl, ho0, hb⟩; refine ⟨_, rfl, ?_⟩; have n0_ := aM_ (Kd.R_elder' (by (with_reducible repeat (first | apply kA_ | apply kN_ | apply kD_)); exact HO104.out) (Kd.R_base ho0) hb); have n1_ := aM_ (Kd.R_below (by (with_reducible repeat (first | apply kA_ | apply kN_ | apply kD_)); exact HO107.out) hb); have n2_ := aM_ (Kd.R_elder' (by (with_reducible repeat (first | apply kA_ | apply kN_ | apply kD_)); exact HO127.out) (Kd.R_base ho0) hb); have n3_ := aM_ (Kd.R_elder' (by (with_reducible repeat (first | apply kA_ | apply kN_ | apply kD_)); exact HO129.out) (Kd.R_base ho0) hb); have n4_ := aM_ (Kd.R_lower (Kd.R_newB (Kd.R_newB (Kd.R_new' (Kd.R_new' (Kd.R_new' ho0 (Kd.R_lt (by (with_reducible repeat (first | apply kA_ | apply kN_ | apply kD_)); exact HO104.out))) (Kd.R_lt (by (with_reducible repeat (first | apply kA_ | apply kN_ | apply kD_)); exact HO127.out))) (Kd.R_lt (by (with_reducible repeat (first | apply kA_ | apply kN_ | apply kD_)); exact HO129.out))) (g := gb114) (o := .cells #[.int .i64 t108, .int .i64 t109, .int .i64 t110] 40 (0, 0)) (by (with_reducible repeat (first | refine blk_drewN ?_ _ | refine blk_drew ?_ | refine blk_alloc ?_ _)); exact BK114.out)) (g := gb115) (o := .cells #[.int .i64 t111, .int .i64 t112, .int .i64 t113] 40 (0, 0)) (by (with_reducible repeat (first | refine blk_drewN ?_ _ | refine blk_drew ?_ | refine blk_alloc ?_ _)); exact BK115.out)) (below_size (by repeat (first | (with_reducible first | exact HB.out | apply bA_ | apply bN_ | apply bD_ | refine below_set ?_ GE114.out | refine below_set ?_ GE115.out) | exact HB.out)))); have n5_ := aM_ (blk_below (g := gb114) (o := .cells #[.int .i64 t108, .int .i64 t109, .int .i64 t110] 40 (0, 0)) (by (with_reducible repeat (first | refine blk_drewN ?_ _ | refine blk_drew ?_ | refine blk_alloc ?_ _)); exact BK114.out) hb); have n6_ := aM_ (blk_below (g := gb115) (o := .cells #[.int .i64 t111, .int .i64 t112, .int .i64 t113] 40 (0, 0)) (by (with_reducible repeat (first | refine blk_drewN ?_ _ | refine blk_drew ?_ | refine blk_alloc ?_ _)); exact BK115.out) hb); have n7_ := aM_ (below_step (by repeat (first | (with_reducible first | exact HB.out | apply bA_ | apply bN_ | apply bD_ | refine below_set ?_ GE114.out | refine below_set ?_ GE115.out) | exact HB.out)) hb); clear HO104; clear HO107; clear HO127; clear HO129; clear BK114; clear BK115; clear HB; have HO104 := n0_; have HO107 := n1_; have HO127 := n2_; have HO129 := n3_; have HO134 := n4_; have BK114 := n5_; have BK115 := n6_; have HB := n7_; clear n0_ n1_ n2_ n3_ n4_ n5_ n6_ n7_; (try clear hb); (try clear hb2); (try clear hk); (try clear hi); (try clear ho0)) | ((with_reducible refine gate_callee (f := 42) rfl ?_); refine goesL_ (some 66) rfl rfl Try.func42 (by kernel_rfl) rfl #[.slice Ao15 t102.length co15] rfl (by (try simp only [List.map_toArray, List.map_cons, List.map_nil]); first | done | rfl | (simp only [List.length_drop, List.length_take]; rfl)) ?_; (with_reducible refine (impl_ParallelClasses.calls _ _ t102 t135 _ ?side1 ?side2 A11.out).mono ?_); (case side1 => repeat (first | exact (Kd.R_reads' HO104.out).2.2 | (with_reducible refine Kd.C_alloc ?_ _) | (with_reducible refine Kd.C_drewN ?_ _) | (with_reducible refine Kd.C_drew ?_))); (case side2 => exact (Kd.R_reads' HO104.out).2.1); rintro e w29 ⟨v136, rfl, ho0, hb⟩; refine ⟨_, rfl, ?_⟩; have n0_ := aM_ (Kd.R_below (by (with_reducible repeat (first | apply kA_ | apply kN_ | apply kD_)); exact HO104.out) hb); have n1_ := aM_ (Kd.R_elder' (by (with_reducible repeat (first | apply kA_ | apply kN_ | apply kD_)); exact HO107.out) (Kd.R_base ho0) hb); have n2_ := aM_ (Kd.R_below (by (with_reducible repeat (first | apply kA_ | apply kN_ | apply kD_)); exact HO127.out) hb); have n3_ := aM_ (Kd.R_below (by (with_reducible repeat (first | apply kA_ | apply kN_ | apply kD_)); exact HO129.out) hb); have n4_ := aM_ (Kd.R_below (by (with_reducible repeat (first | apply kA_ | apply kN_ | apply kD_)); exact HO134.out) hb); have n5_ := aM_ (Kd.R_lower (Kd.R_new' ho0 (Kd.R_lt (by (with_reducible repeat (first | apply kA_ | apply kN_ | apply kD_)); exact HO107.out))) (below_size (by repeat (first | (with_reducible first | exact HB.out | apply bA_ | apply bN_ | apply bD_ | refine below_set ?_ GE114.out | refine below_set ?_ GE115.out) | exact HB.out)))); have n6_ := aM_ (blk_below (g := gb114) (o := .cells #[.int .i64 t108, .int .i64 t109, .int .i64 t110] 40 (0, 0)) (by (with_reducible repeat (first | refine blk_drewN ?_ _ | refine blk_drew ?_ | refine blk_alloc ?_ _)); exact BK114.out) hb); have n7_ := aM_ (blk_below (g := gb115) (o := .cells #[.int .i64 t111, .int .i64 t112, .int .i64 t113] 40 (0, 0)) (by (with_reducible repeat (first | refine blk_drewN ?_ _ | refine blk_drew ?_ | refine blk_alloc ?_ _)); exact BK115.out) hb); have n8_ := aM_ (below_step (by repeat (first | (with_reducible first | exact HB.out | apply bA_ | apply bN_ | apply bD_ | refine below_set ?_ GE114.out | refine below_set ?_ GE115.out) | exact HB.out)) hb); clear HO104; clear HO107; clear HO127; clear HO129; clear HO134; clear BK114; clear BK115; clear HB; have HO104 := n0_; have HO107 := n1_; have HO127 := n2_; have HO129 := n3_; have HO134 := n4_; have HO137 := n5_; have BK114 := n6_; have BK115 := n7_; have HB := n8_; clear n0_ n1_ n2_ n3_ n4_ n5_ n6_ n7_ n8_; (try clear hb); (try clear hb2); (try clear hk); (try clear hi); (try clear ho0)) | ((with_reducible refine gate_callee (f := 33) rfl ?_); refine goesL_ (some 68) rfl rfl Try.func33 (by kernel_rfl) rfl #[.slice Ao15 t102.length co15] rfl (by (try simp only [List.map_toArray, List.map_cons, List.map_nil]); first | done | rfl | (simp only [List.length_drop, List.length_take]; rfl)) ?_; (with_reducible refine (impl_LinePoly.calls k _ _ t102 t138 _ ?side1 ?side2 A12.out).mono ?_); (case side1 => repeat (first | exact (Kd.R_reads' HO104.out).2.2 | (with_reducible refine Kd.C_alloc ?_ _) | (with_reducible refine Kd.C_drewN ?_ _) | (with_reducible refine Kd.C_drew ?_))); (case side2 => exact (Kd.R_reads' HO104.out).2.1); rintro e w30 ⟨v139, rfl, ho0, hb⟩; refine ⟨_, rfl, ?_⟩; have n0_ := aM_ (Kd.R_below (by (with_reducible repeat (first | apply kA_ | apply kN_ | apply kD_)); exact HO104.out) hb); have n1_ := aM_ (Kd.R_elder' (by (with_reducible repeat (first | apply kA_ | apply kN_ | apply kD_)); exact HO107.out) (Kd.R_base ho0) hb); have n2_ := aM_ (Kd.R_below (by (with_reducible repeat (first | apply kA_ | apply kN_ | apply kD_)); exact HO127.out) hb); have n3_ := aM_ (Kd.R_below (by (with_reducible repeat (first | apply kA_ | apply kN_ | apply kD_)); exact HO129.out) hb); have n4_ := aM_ (Kd.R_below (by (with_reducible repeat (first | apply kA_ | apply kN_ | apply kD_)); exact HO134.out) hb); have n5_ := aM_ (Kd.R_elder' (by (with_reducible repeat (first | apply kA_ | apply kN_ | apply kD_)); exact HO137.out) (Kd.R_base ho0) hb); have n6_ := aM_ (Kd.R_lower (Kd.R_new' (Kd.R_new' ho0 (Kd.R_lt (by (with_reducible repeat (first | apply kA_ | apply kN_ | apply kD_)); exact HO107.out))) (Kd.R_lt (by (with_reducible repeat (first | apply kA_ | apply kN_ | apply kD_)); exact HO137.out))) (below_size (by repeat (first | (with_reducible first | exact HB.out | apply bA_ | apply bN_ | apply bD_ | refine below_set ?_ GE114.out | refine below_set ?_ GE115.out) | exact HB.out)))); have n7_ := aM_ (blk_below (g := gb114) (o := .cells #[.int .i64 t108, .int .i64 t109, .int .i64 t110] 40 (0, 0)) (by (with_reducible repeat (first | refine blk_drewN ?_ _ | refine blk_drew ?_ | refine blk_alloc ?_ _)); exact BK114.out) hb); have n8_ := aM_ (blk_below (g := gb115) (o := .cells #[.int .i64 t111, .int .i64 t112, .int .i64 t113] 40 (0, 0)) (by (with_reducible repeat (first | refine blk_drewN ?_ _ | refine blk_drew ?_ | refine blk_alloc ?_ _)); exact BK115.out) hb); have n9_ := aM_ (below_step (by repeat (first | (with_reducible first | exact HB.out | apply bA_ | apply bN_ | apply bD_ | refine below_set ?_ GE114.out | refine below_set ?_ GE115.out) | exact HB.out)) hb); clear HO104; clear HO107; clear HO127; clear HO129; clear HO134; clear HO137; clear BK114; clear BK115; clear HB; have HO104 := n0_; have HO107 := n1_; have HO127 := n2_; have HO129 := n3_; have HO134 := n4_; have HO137 := n5_; have HO140 := n6_; have BK114 := n7_; have BK115 := n8_; have HB := n9_; clear n0_ n1_ n2_ n3_ n4_ n5_ n6_ n7_ n8_ n9_; (try clear hb); (try clear hb2); (try clear hk); (try clear hi); (try clear ho0)))
  (try simp only [Act.put, List.setIfInBounds_toArray, List.set_cons_zero, List.set_cons_succ])
  go_cut [148] (fun v148 wc => ∃ (kq : Nat) (x148_12 : Bool), v148 = .bool x148_12 ∧ Aside0 (laws_FnLines.j0 kq t102 t105 t116 t117 t118 t119 t135 t138 x148_12 t108 t109 t110 t111 t112 t113 = some true) ∧ Aside0 (kq ≤ k) ∧ Aside0 (Kd.R k40 40 wc w.heap.size (fun k_ => k_ ≠ gb114 ∧ k_ ≠ gb115) (.slice Ao15 t102.length co15) t102) ∧ Aside0 (Kd.R (Kd.int .i64) 3 wc w.heap.size (fun k_ => some k_ ≠ (v136 : Value).ownBlock ∧ some k_ ≠ (v139 : Value).ownBlock) v106 t105) ∧ Aside0 (Kd.R (Kd.int .i64) 3 wc w.heap.size (fun k_ => some k_ ≠ (v106 : Value).ownBlock ∧ some k_ ≠ (v139 : Value).ownBlock) v136 t135) ∧ Aside0 (Kd.R (Kd.int .i64) 3 wc w.heap.size (fun k_ => some k_ ≠ (v106 : Value).ownBlock ∧ some k_ ≠ (v136 : Value).ownBlock) v139 t138) ∧ Aside0 (wc.heap[gb114]? = some (.cells #[.int .i64 t108, .int .i64 t109, .int .i64 t110] 40 (0, 0))) ∧ Aside0 (wc.heap[gb115]? = some (.cells #[.int .i64 t111, .int .i64 t112, .int .i64 t113] 40 (0, 0))) ∧ Aside0 (Below w.heap.size w wc))
  case first => as_aux_lemma =>
   have H := HC13.out
   clear HC13
   replace H := oB_ H
   obtain ⟨t141, A310, H⟩ := H
   replace H : ((laws_sameInts.f k t105 t141).bind fun t144 => (if t144 = true then (if (t119 != t123) = true then (laws_FnLines.j0 k t102 t105 t116 t117 t118 t119 t135 t138 true t108 t109 t110 t111 t112 t113) else (if t116 = t120 then (if t117 = t121 then (if t118 = t122 then ((impl_EqualLines.f k t124 t125).bind fun t145 => ((laws_sameLines.f k t124 t125).bind fun t146 => (if (t145 != t146) = true then (laws_FnLines.j0 k t102 t105 t116 t117 t118 t119 t135 t138 true t108 t109 t110 t111 t112 t113) else ((impl_SideText.f k t130 t131 t132).bind fun t147 => ((spec_SideText.f k t130 t131 t132).bind fun t148 => (if t147.toList = t148.toList then ((spec_ParallelClasses.f k t102).bind fun t149 => ((laws_sameInts.f k t135 t149).bind fun t152 => (if t152 = true then ((spec_LinePoly.f k t102).bind fun t153 => ((laws_sameInts.f k t138 t153).bind fun t156 => (if t156 = true then ((impl_CountRegions.f k t102).bind fun t157 => ((spec_CountRegions.f k t102).bind fun t158 => (if t157 = t158 then ((impl_CountBounded.f k t102).bind fun t159 => ((spec_CountBounded.f k t102).bind fun t160 => (if t159 = t160 then ((impl_AreLines.f t102).bind fun t161 => ((spec_AreLines.f k t102).bind fun t162 => (laws_FnLines.j0 k t102 t105 t116 t117 t118 t119 t135 t138 (t161 != t162) t108 t109 t110 t111 t112 t113))) else (laws_FnLines.j0 k t102 t105 t116 t117 t118 t119 t135 t138 true t108 t109 t110 t111 t112 t113)))) else (laws_FnLines.j0 k t102 t105 t116 t117 t118 t119 t135 t138 true t108 t109 t110 t111 t112 t113)))) else (laws_FnLines.j0 k t102 t105 t116 t117 t118 t119 t135 t138 true t108 t109 t110 t111 t112 t113)))) else (laws_FnLines.j0 k t102 t105 t116 t117 t118 t119 t135 t138 true t108 t109 t110 t111 t112 t113)))) else (laws_FnLines.j0 k t102 t105 t116 t117 t118 t119 t135 t138 true t108 t109 t110 t111 t112 t113))))))) else (laws_FnLines.j0 k t102 t105 t116 t117 t118 t119 t135 t138 true t108 t109 t110 t111 t112 t113)) else (laws_FnLines.j0 k t102 t105 t116 t117 t118 t119 t135 t138 true t108 t109 t110 t111 t112 t113)) else (laws_FnLines.j0 k t102 t105 t116 t117 t118 t119 t135 t138 true t108 t109 t110 t111 t112 t113))) else (laws_FnLines.j0 k t102 t105 t116 t117 t118 t119 t135 t138 true t108 t109 t110 t111 t112 t113))) = some true := H
   have A31 := aM_ A310
   clear A310
   replace H := oB_ H
   obtain ⟨t144, A320, H⟩ := H
   replace H : (if t144 = true then (if (t119 != t123) = true then (laws_FnLines.j0 k t102 t105 t116 t117 t118 t119 t135 t138 true t108 t109 t110 t111 t112 t113) else (if t116 = t120 then (if t117 = t121 then (if t118 = t122 then ((impl_EqualLines.f k t124 t125).bind fun t145 => ((laws_sameLines.f k t124 t125).bind fun t146 => (if (t145 != t146) = true then (laws_FnLines.j0 k t102 t105 t116 t117 t118 t119 t135 t138 true t108 t109 t110 t111 t112 t113) else ((impl_SideText.f k t130 t131 t132).bind fun t147 => ((spec_SideText.f k t130 t131 t132).bind fun t148 => (if t147.toList = t148.toList then ((spec_ParallelClasses.f k t102).bind fun t149 => ((laws_sameInts.f k t135 t149).bind fun t152 => (if t152 = true then ((spec_LinePoly.f k t102).bind fun t153 => ((laws_sameInts.f k t138 t153).bind fun t156 => (if t156 = true then ((impl_CountRegions.f k t102).bind fun t157 => ((spec_CountRegions.f k t102).bind fun t158 => (if t157 = t158 then ((impl_CountBounded.f k t102).bind fun t159 => ((spec_CountBounded.f k t102).bind fun t160 => (if t159 = t160 then ((impl_AreLines.f t102).bind fun t161 => ((spec_AreLines.f k t102).bind fun t162 => (laws_FnLines.j0 k t102 t105 t116 t117 t118 t119 t135 t138 (t161 != t162) t108 t109 t110 t111 t112 t113))) else (laws_FnLines.j0 k t102 t105 t116 t117 t118 t119 t135 t138 true t108 t109 t110 t111 t112 t113)))) else (laws_FnLines.j0 k t102 t105 t116 t117 t118 t119 t135 t138 true t108 t109 t110 t111 t112 t113)))) else (laws_FnLines.j0 k t102 t105 t116 t117 t118 t119 t135 t138 true t108 t109 t110 t111 t112 t113)))) else (laws_FnLines.j0 k t102 t105 t116 t117 t118 t119 t135 t138 true t108 t109 t110 t111 t112 t113)))) else (laws_FnLines.j0 k t102 t105 t116 t117 t118 t119 t135 t138 true t108 t109 t110 t111 t112 t113))))))) else (laws_FnLines.j0 k t102 t105 t116 t117 t118 t119 t135 t138 true t108 t109 t110 t111 t112 t113)) else (laws_FnLines.j0 k t102 t105 t116 t117 t118 t119 t135 t138 true t108 t109 t110 t111 t112 t113)) else (laws_FnLines.j0 k t102 t105 t116 t117 t118 t119 t135 t138 true t108 t109 t110 t111 t112 t113))) else (laws_FnLines.j0 k t102 t105 t116 t117 t118 t119 t135 t138 true t108 t109 t110 t111 t112 t113)) = some true := H
   have A32 := aM_ A320
   clear A320
   by_cases c33 : t144 = true
   ·subst c33
    have H1 : (if (t119 != t123) = true then (laws_FnLines.j0 k t102 t105 t116 t117 t118 t119 t135 t138 true t108 t109 t110 t111 t112 t113) else (if t116 = t120 then (if t117 = t121 then (if t118 = t122 then ((impl_EqualLines.f k t124 t125).bind fun t145 => ((laws_sameLines.f k t124 t125).bind fun t146 => (if (t145 != t146) = true then (laws_FnLines.j0 k t102 t105 t116 t117 t118 t119 t135 t138 true t108 t109 t110 t111 t112 t113) else ((impl_SideText.f k t130 t131 t132).bind fun t147 => ((spec_SideText.f k t130 t131 t132).bind fun t148 => (if t147.toList = t148.toList then ((spec_ParallelClasses.f k t102).bind fun t149 => ((laws_sameInts.f k t135 t149).bind fun t152 => (if t152 = true then ((spec_LinePoly.f k t102).bind fun t153 => ((laws_sameInts.f k t138 t153).bind fun t156 => (if t156 = true then ((impl_CountRegions.f k t102).bind fun t157 => ((spec_CountRegions.f k t102).bind fun t158 => (if t157 = t158 then ((impl_CountBounded.f k t102).bind fun t159 => ((spec_CountBounded.f k t102).bind fun t160 => (if t159 = t160 then ((impl_AreLines.f t102).bind fun t161 => ((spec_AreLines.f k t102).bind fun t162 => (laws_FnLines.j0 k t102 t105 t116 t117 t118 t119 t135 t138 (t161 != t162) t108 t109 t110 t111 t112 t113))) else (laws_FnLines.j0 k t102 t105 t116 t117 t118 t119 t135 t138 true t108 t109 t110 t111 t112 t113)))) else (laws_FnLines.j0 k t102 t105 t116 t117 t118 t119 t135 t138 true t108 t109 t110 t111 t112 t113)))) else (laws_FnLines.j0 k t102 t105 t116 t117 t118 t119 t135 t138 true t108 t109 t110 t111 t112 t113)))) else (laws_FnLines.j0 k t102 t105 t116 t117 t118 t119 t135 t138 true t108 t109 t110 t111 t112 t113)))) else (laws_FnLines.j0 k t102 t105 t116 t117 t118 t119 t135 t138 true t108 t109 t110 t111 t112 t113))))))) else (laws_FnLines.j0 k t102 t105 t116 t117 t118 t119 t135 t138 true t108 t109 t110 t111 t112 t113)) else (laws_FnLines.j0 k t102 t105 t116 t117 t118 t119 t135 t138 true t108 t109 t110 t111 t112 t113)) else (laws_FnLines.j0 k t102 t105 t116 t117 t118 t119 t135 t138 true t108 t109 t110 t111 t112 t113))) = some true := by rw [if_pos rfl] at H; exact H
    clear H
    have H := H1
    clear H1
    by_cases c34 : (t119 != t123) = true
    ·rw [if_pos c34] at H
     exact absurd H (laws_FnLines.j0_no _ _ _ _ _ _ _ _ _ _ _ _ _ _ _)
    ·rw [if_neg c34] at H
     obtain rfl : t119 = t123 := by simpa using c34
     have c34b0 : (t119 != t119) = false := bne_self_eq_false _
     clear c34
     (first | rw [c34b0] | (simp only [i64_w, i32_w]; rw [c34b0]) | skip)
     by_cases c38 : t116 = t120
     ·rw [if_pos c38] at H
      have c38b0 : (t116 == t120) = true := beq_iff_eq.mpr c38
      have c38b1 : (t116 != t120) = false := bne_eq_false_iff_eq.mpr c38
      clear c38
      by_cases c39 : t117 = t121
      ·rw [if_pos c39] at H
       have c39b0 : (t117 == t121) = true := beq_iff_eq.mpr c39
       have c39b1 : (t117 != t121) = false := bne_eq_false_iff_eq.mpr c39
       clear c39
       by_cases c40 : t118 = t122
       ·rw [if_pos c40] at H
        have c40b0 : (t118 == t122) = true := beq_iff_eq.mpr c40
        have c40b1 : (t118 != t122) = false := bne_eq_false_iff_eq.mpr c40
        clear c40
        replace H := oB_ H
        obtain ⟨t145, A410, H⟩ := H
        replace H : ((laws_sameLines.f k t124 t125).bind fun t146 => (if (t145 != t146) = true then (laws_FnLines.j0 k t102 t105 t116 t117 t118 t119 t135 t138 true t108 t109 t110 t111 t112 t113) else ((impl_SideText.f k t130 t131 t132).bind fun t147 => ((spec_SideText.f k t130 t131 t132).bind fun t148 => (if t147.toList = t148.toList then ((spec_ParallelClasses.f k t102).bind fun t149 => ((laws_sameInts.f k t135 t149).bind fun t152 => (if t152 = true then ((spec_LinePoly.f k t102).bind fun t153 => ((laws_sameInts.f k t138 t153).bind fun t156 => (if t156 = true then ((impl_CountRegions.f k t102).bind fun t157 => ((spec_CountRegions.f k t102).bind fun t158 => (if t157 = t158 then ((impl_CountBounded.f k t102).bind fun t159 => ((spec_CountBounded.f k t102).bind fun t160 => (if t159 = t160 then ((impl_AreLines.f t102).bind fun t161 => ((spec_AreLines.f k t102).bind fun t162 => (laws_FnLines.j0 k t102 t105 t116 t117 t118 t119 t135 t138 (t161 != t162) t108 t109 t110 t111 t112 t113))) else (laws_FnLines.j0 k t102 t105 t116 t117 t118 t119 t135 t138 true t108 t109 t110 t111 t112 t113)))) else (laws_FnLines.j0 k t102 t105 t116 t117 t118 t119 t135 t138 true t108 t109 t110 t111 t112 t113)))) else (laws_FnLines.j0 k t102 t105 t116 t117 t118 t119 t135 t138 true t108 t109 t110 t111 t112 t113)))) else (laws_FnLines.j0 k t102 t105 t116 t117 t118 t119 t135 t138 true t108 t109 t110 t111 t112 t113)))) else (laws_FnLines.j0 k t102 t105 t116 t117 t118 t119 t135 t138 true t108 t109 t110 t111 t112 t113)))))) = some true := H
        have A41 := aM_ A410
        clear A410
        replace H := oB_ H
        obtain ⟨t146, A420, H⟩ := H
        replace H : (if (t145 != t146) = true then (laws_FnLines.j0 k t102 t105 t116 t117 t118 t119 t135 t138 true t108 t109 t110 t111 t112 t113) else ((impl_SideText.f k t130 t131 t132).bind fun t147 => ((spec_SideText.f k t130 t131 t132).bind fun t148 => (if t147.toList = t148.toList then ((spec_ParallelClasses.f k t102).bind fun t149 => ((laws_sameInts.f k t135 t149).bind fun t152 => (if t152 = true then ((spec_LinePoly.f k t102).bind fun t153 => ((laws_sameInts.f k t138 t153).bind fun t156 => (if t156 = true then ((impl_CountRegions.f k t102).bind fun t157 => ((spec_CountRegions.f k t102).bind fun t158 => (if t157 = t158 then ((impl_CountBounded.f k t102).bind fun t159 => ((spec_CountBounded.f k t102).bind fun t160 => (if t159 = t160 then ((impl_AreLines.f t102).bind fun t161 => ((spec_AreLines.f k t102).bind fun t162 => (laws_FnLines.j0 k t102 t105 t116 t117 t118 t119 t135 t138 (t161 != t162) t108 t109 t110 t111 t112 t113))) else (laws_FnLines.j0 k t102 t105 t116 t117 t118 t119 t135 t138 true t108 t109 t110 t111 t112 t113)))) else (laws_FnLines.j0 k t102 t105 t116 t117 t118 t119 t135 t138 true t108 t109 t110 t111 t112 t113)))) else (laws_FnLines.j0 k t102 t105 t116 t117 t118 t119 t135 t138 true t108 t109 t110 t111 t112 t113)))) else (laws_FnLines.j0 k t102 t105 t116 t117 t118 t119 t135 t138 true t108 t109 t110 t111 t112 t113)))) else (laws_FnLines.j0 k t102 t105 t116 t117 t118 t119 t135 t138 true t108 t109 t110 t111 t112 t113))))) = some true := H
        have A42 := aM_ A420
        clear A420
        by_cases c43 : (t145 != t146) = true
        ·rw [if_pos c43] at H
         exact absurd H (laws_FnLines.j0_no _ _ _ _ _ _ _ _ _ _ _ _ _ _ _)
        ·rw [if_neg c43] at H
         obtain rfl : t145 = t146 := by simpa using c43
         have c43b0 : (t145 != t145) = false := bne_self_eq_false _
         clear c43
         replace H := oB_ H
         obtain ⟨t147, A490, H⟩ := H
         replace H : ((spec_SideText.f k t130 t131 t132).bind fun t148 => (if t147.toList = t148.toList then ((spec_ParallelClasses.f k t102).bind fun t149 => ((laws_sameInts.f k t135 t149).bind fun t152 => (if t152 = true then ((spec_LinePoly.f k t102).bind fun t153 => ((laws_sameInts.f k t138 t153).bind fun t156 => (if t156 = true then ((impl_CountRegions.f k t102).bind fun t157 => ((spec_CountRegions.f k t102).bind fun t158 => (if t157 = t158 then ((impl_CountBounded.f k t102).bind fun t159 => ((spec_CountBounded.f k t102).bind fun t160 => (if t159 = t160 then ((impl_AreLines.f t102).bind fun t161 => ((spec_AreLines.f k t102).bind fun t162 => (laws_FnLines.j0 k t102 t105 t116 t117 t118 t119 t135 t138 (t161 != t162) t108 t109 t110 t111 t112 t113))) else (laws_FnLines.j0 k t102 t105 t116 t117 t118 t119 t135 t138 true t108 t109 t110 t111 t112 t113)))) else (laws_FnLines.j0 k t102 t105 t116 t117 t118 t119 t135 t138 true t108 t109 t110 t111 t112 t113)))) else (laws_FnLines.j0 k t102 t105 t116 t117 t118 t119 t135 t138 true t108 t109 t110 t111 t112 t113)))) else (laws_FnLines.j0 k t102 t105 t116 t117 t118 t119 t135 t138 true t108 t109 t110 t111 t112 t113)))) else (laws_FnLines.j0 k t102 t105 t116 t117 t118 t119 t135 t138 true t108 t109 t110 t111 t112 t113))) = some true := H
         have A49 := aM_ A490
         clear A490
         replace H := oB_ H
         obtain ⟨t148, A500, H⟩ := H
         replace H : (if t147.toList = t148.toList then ((spec_ParallelClasses.f k t102).bind fun t149 => ((laws_sameInts.f k t135 t149).bind fun t152 => (if t152 = true then ((spec_LinePoly.f k t102).bind fun t153 => ((laws_sameInts.f k t138 t153).bind fun t156 => (if t156 = true then ((impl_CountRegions.f k t102).bind fun t157 => ((spec_CountRegions.f k t102).bind fun t158 => (if t157 = t158 then ((impl_CountBounded.f k t102).bind fun t159 => ((spec_CountBounded.f k t102).bind fun t160 => (if t159 = t160 then ((impl_AreLines.f t102).bind fun t161 => ((spec_AreLines.f k t102).bind fun t162 => (laws_FnLines.j0 k t102 t105 t116 t117 t118 t119 t135 t138 (t161 != t162) t108 t109 t110 t111 t112 t113))) else (laws_FnLines.j0 k t102 t105 t116 t117 t118 t119 t135 t138 true t108 t109 t110 t111 t112 t113)))) else (laws_FnLines.j0 k t102 t105 t116 t117 t118 t119 t135 t138 true t108 t109 t110 t111 t112 t113)))) else (laws_FnLines.j0 k t102 t105 t116 t117 t118 t119 t135 t138 true t108 t109 t110 t111 t112 t113)))) else (laws_FnLines.j0 k t102 t105 t116 t117 t118 t119 t135 t138 true t108 t109 t110 t111 t112 t113)))) else (laws_FnLines.j0 k t102 t105 t116 t117 t118 t119 t135 t138 true t108 t109 t110 t111 t112 t113)) = some true := H
         have A50 := aM_ A500
         clear A500
         by_cases c51 : t147.toList = t148.toList
         ·rw [if_pos c51] at H
          have c51b0 : (t147.toList == t148.toList) = true := beq_iff_eq.mpr c51
          have c51b1 : (t147.toList != t148.toList) = false := bne_eq_false_iff_eq.mpr c51
          clear c51
          replace H := oB_ H
          obtain ⟨t149, A520, H⟩ := H
          replace H : ((laws_sameInts.f k t135 t149).bind fun t152 => (if t152 = true then ((spec_LinePoly.f k t102).bind fun t153 => ((laws_sameInts.f k t138 t153).bind fun t156 => (if t156 = true then ((impl_CountRegions.f k t102).bind fun t157 => ((spec_CountRegions.f k t102).bind fun t158 => (if t157 = t158 then ((impl_CountBounded.f k t102).bind fun t159 => ((spec_CountBounded.f k t102).bind fun t160 => (if t159 = t160 then ((impl_AreLines.f t102).bind fun t161 => ((spec_AreLines.f k t102).bind fun t162 => (laws_FnLines.j0 k t102 t105 t116 t117 t118 t119 t135 t138 (t161 != t162) t108 t109 t110 t111 t112 t113))) else (laws_FnLines.j0 k t102 t105 t116 t117 t118 t119 t135 t138 true t108 t109 t110 t111 t112 t113)))) else (laws_FnLines.j0 k t102 t105 t116 t117 t118 t119 t135 t138 true t108 t109 t110 t111 t112 t113)))) else (laws_FnLines.j0 k t102 t105 t116 t117 t118 t119 t135 t138 true t108 t109 t110 t111 t112 t113)))) else (laws_FnLines.j0 k t102 t105 t116 t117 t118 t119 t135 t138 true t108 t109 t110 t111 t112 t113))) = some true := H
          have A52 := aM_ A520
          clear A520
          replace H := oB_ H
          obtain ⟨t152, A530, H⟩ := H
          replace H : (if t152 = true then ((spec_LinePoly.f k t102).bind fun t153 => ((laws_sameInts.f k t138 t153).bind fun t156 => (if t156 = true then ((impl_CountRegions.f k t102).bind fun t157 => ((spec_CountRegions.f k t102).bind fun t158 => (if t157 = t158 then ((impl_CountBounded.f k t102).bind fun t159 => ((spec_CountBounded.f k t102).bind fun t160 => (if t159 = t160 then ((impl_AreLines.f t102).bind fun t161 => ((spec_AreLines.f k t102).bind fun t162 => (laws_FnLines.j0 k t102 t105 t116 t117 t118 t119 t135 t138 (t161 != t162) t108 t109 t110 t111 t112 t113))) else (laws_FnLines.j0 k t102 t105 t116 t117 t118 t119 t135 t138 true t108 t109 t110 t111 t112 t113)))) else (laws_FnLines.j0 k t102 t105 t116 t117 t118 t119 t135 t138 true t108 t109 t110 t111 t112 t113)))) else (laws_FnLines.j0 k t102 t105 t116 t117 t118 t119 t135 t138 true t108 t109 t110 t111 t112 t113)))) else (laws_FnLines.j0 k t102 t105 t116 t117 t118 t119 t135 t138 true t108 t109 t110 t111 t112 t113)) = some true := H
          have A53 := aM_ A530
          clear A530
          by_cases c54 : t152 = true
          ·subst c54
           have H1 : ((spec_LinePoly.f k t102).bind fun t153 => ((laws_sameInts.f k t138 t153).bind fun t156 => (if t156 = true then ((impl_CountRegions.f k t102).bind fun t157 => ((spec_CountRegions.f k t102).bind fun t158 => (if t157 = t158 then ((impl_CountBounded.f k t102).bind fun t159 => ((spec_CountBounded.f k t102).bind fun t160 => (if t159 = t160 then ((impl_AreLines.f t102).bind fun t161 => ((spec_AreLines.f k t102).bind fun t162 => (laws_FnLines.j0 k t102 t105 t116 t117 t118 t119 t135 t138 (t161 != t162) t108 t109 t110 t111 t112 t113))) else (laws_FnLines.j0 k t102 t105 t116 t117 t118 t119 t135 t138 true t108 t109 t110 t111 t112 t113)))) else (laws_FnLines.j0 k t102 t105 t116 t117 t118 t119 t135 t138 true t108 t109 t110 t111 t112 t113)))) else (laws_FnLines.j0 k t102 t105 t116 t117 t118 t119 t135 t138 true t108 t109 t110 t111 t112 t113)))) = some true := by rw [if_pos rfl] at H; exact H
           clear H
           have H := H1
           clear H1
           replace H := oB_ H
           obtain ⟨t153, A550, H⟩ := H
           replace H : ((laws_sameInts.f k t138 t153).bind fun t156 => (if t156 = true then ((impl_CountRegions.f k t102).bind fun t157 => ((spec_CountRegions.f k t102).bind fun t158 => (if t157 = t158 then ((impl_CountBounded.f k t102).bind fun t159 => ((spec_CountBounded.f k t102).bind fun t160 => (if t159 = t160 then ((impl_AreLines.f t102).bind fun t161 => ((spec_AreLines.f k t102).bind fun t162 => (laws_FnLines.j0 k t102 t105 t116 t117 t118 t119 t135 t138 (t161 != t162) t108 t109 t110 t111 t112 t113))) else (laws_FnLines.j0 k t102 t105 t116 t117 t118 t119 t135 t138 true t108 t109 t110 t111 t112 t113)))) else (laws_FnLines.j0 k t102 t105 t116 t117 t118 t119 t135 t138 true t108 t109 t110 t111 t112 t113)))) else (laws_FnLines.j0 k t102 t105 t116 t117 t118 t119 t135 t138 true t108 t109 t110 t111 t112 t113))) = some true := H
           have A55 := aM_ A550
           clear A550
           replace H := oB_ H
           obtain ⟨t156, A560, H⟩ := H
           replace H : (if t156 = true then ((impl_CountRegions.f k t102).bind fun t157 => ((spec_CountRegions.f k t102).bind fun t158 => (if t157 = t158 then ((impl_CountBounded.f k t102).bind fun t159 => ((spec_CountBounded.f k t102).bind fun t160 => (if t159 = t160 then ((impl_AreLines.f t102).bind fun t161 => ((spec_AreLines.f k t102).bind fun t162 => (laws_FnLines.j0 k t102 t105 t116 t117 t118 t119 t135 t138 (t161 != t162) t108 t109 t110 t111 t112 t113))) else (laws_FnLines.j0 k t102 t105 t116 t117 t118 t119 t135 t138 true t108 t109 t110 t111 t112 t113)))) else (laws_FnLines.j0 k t102 t105 t116 t117 t118 t119 t135 t138 true t108 t109 t110 t111 t112 t113)))) else (laws_FnLines.j0 k t102 t105 t116 t117 t118 t119 t135 t138 true t108 t109 t110 t111 t112 t113)) = some true := H
           have A56 := aM_ A560
           clear A560
           by_cases c57 : t156 = true
           ·subst c57
            have H1 : ((impl_CountRegions.f k t102).bind fun t157 => ((spec_CountRegions.f k t102).bind fun t158 => (if t157 = t158 then ((impl_CountBounded.f k t102).bind fun t159 => ((spec_CountBounded.f k t102).bind fun t160 => (if t159 = t160 then ((impl_AreLines.f t102).bind fun t161 => ((spec_AreLines.f k t102).bind fun t162 => (laws_FnLines.j0 k t102 t105 t116 t117 t118 t119 t135 t138 (t161 != t162) t108 t109 t110 t111 t112 t113))) else (laws_FnLines.j0 k t102 t105 t116 t117 t118 t119 t135 t138 true t108 t109 t110 t111 t112 t113)))) else (laws_FnLines.j0 k t102 t105 t116 t117 t118 t119 t135 t138 true t108 t109 t110 t111 t112 t113)))) = some true := by rw [if_pos rfl] at H; exact H
            clear H
            have H := H1
            clear H1
            replace H := oB_ H
            obtain ⟨t157, A580, H⟩ := H
            replace H : ((spec_CountRegions.f k t102).bind fun t158 => (if t157 = t158 then ((impl_CountBounded.f k t102).bind fun t159 => ((spec_CountBounded.f k t102).bind fun t160 => (if t159 = t160 then ((impl_AreLines.f t102).bind fun t161 => ((spec_AreLines.f k t102).bind fun t162 => (laws_FnLines.j0 k t102 t105 t116 t117 t118 t119 t135 t138 (t161 != t162) t108 t109 t110 t111 t112 t113))) else (laws_FnLines.j0 k t102 t105 t116 t117 t118 t119 t135 t138 true t108 t109 t110 t111 t112 t113)))) else (laws_FnLines.j0 k t102 t105 t116 t117 t118 t119 t135 t138 true t108 t109 t110 t111 t112 t113))) = some true := H
            have A58 := aM_ A580
            clear A580
            replace H := oB_ H
            obtain ⟨t158, A590, H⟩ := H
            replace H : (if t157 = t158 then ((impl_CountBounded.f k t102).bind fun t159 => ((spec_CountBounded.f k t102).bind fun t160 => (if t159 = t160 then ((impl_AreLines.f t102).bind fun t161 => ((spec_AreLines.f k t102).bind fun t162 => (laws_FnLines.j0 k t102 t105 t116 t117 t118 t119 t135 t138 (t161 != t162) t108 t109 t110 t111 t112 t113))) else (laws_FnLines.j0 k t102 t105 t116 t117 t118 t119 t135 t138 true t108 t109 t110 t111 t112 t113)))) else (laws_FnLines.j0 k t102 t105 t116 t117 t118 t119 t135 t138 true t108 t109 t110 t111 t112 t113)) = some true := H
            have A59 := aM_ A590
            clear A590
            by_cases c60 : t157 = t158
            ·rw [if_pos c60] at H
             have c60b0 : (t157 == t158) = true := beq_iff_eq.mpr c60
             have c60b1 : (t157 != t158) = false := bne_eq_false_iff_eq.mpr c60
             clear c60
             replace H := oB_ H
             obtain ⟨t159, A610, H⟩ := H
             replace H : ((spec_CountBounded.f k t102).bind fun t160 => (if t159 = t160 then ((impl_AreLines.f t102).bind fun t161 => ((spec_AreLines.f k t102).bind fun t162 => (laws_FnLines.j0 k t102 t105 t116 t117 t118 t119 t135 t138 (t161 != t162) t108 t109 t110 t111 t112 t113))) else (laws_FnLines.j0 k t102 t105 t116 t117 t118 t119 t135 t138 true t108 t109 t110 t111 t112 t113))) = some true := H
             have A61 := aM_ A610
             clear A610
             replace H := oB_ H
             obtain ⟨t160, A620, H⟩ := H
             replace H : (if t159 = t160 then ((impl_AreLines.f t102).bind fun t161 => ((spec_AreLines.f k t102).bind fun t162 => (laws_FnLines.j0 k t102 t105 t116 t117 t118 t119 t135 t138 (t161 != t162) t108 t109 t110 t111 t112 t113))) else (laws_FnLines.j0 k t102 t105 t116 t117 t118 t119 t135 t138 true t108 t109 t110 t111 t112 t113)) = some true := H
             have A62 := aM_ A620
             clear A620
             by_cases c63 : t159 = t160
             ·rw [if_pos c63] at H
              have c63b0 : (t159 == t160) = true := beq_iff_eq.mpr c63
              have c63b1 : (t159 != t160) = false := bne_eq_false_iff_eq.mpr c63
              clear c63
              replace H := oB_ H
              obtain ⟨t161, A640, H⟩ := H
              replace H : ((spec_AreLines.f k t102).bind fun t162 => (laws_FnLines.j0 k t102 t105 t116 t117 t118 t119 t135 t138 (t161 != t162) t108 t109 t110 t111 t112 t113)) = some true := H
              have A64 := aM_ A640
              clear A640
              replace H := oB_ H
              obtain ⟨t162, A650, H⟩ := H
              replace H : (laws_FnLines.j0 k t102 t105 t116 t117 t118 t119 t135 t138 (t161 != t162) t108 t109 t110 t111 t112 t113) = some true := H
              have A65 := aM_ A650
              clear A650
              have H' := aM_ H
              clear H
              go_wp2_with (first | ((with_reducible refine gate_callee (f := 44) rfl ?_); refine goesL_ (some 71) rfl rfl Try.func44 (by kernel_rfl) rfl #[.slice Ao15 t102.length co15] rfl (by (try simp only [List.map_toArray, List.map_cons, List.map_nil]); first | done | rfl | (simp only [List.length_drop, List.length_take]; rfl)) ?_; (with_reducible refine (spec_MeetingRow.calls k _ _ t102 t141 _ ?side1 ?side2 A31.out).mono ?_); (case side1 => repeat (first | exact (Kd.R_reads' HO104.out).2.2 | (with_reducible refine Kd.C_alloc ?_ _) | (with_reducible refine Kd.C_drewN ?_ _) | (with_reducible refine Kd.C_drew ?_))); (case side2 => exact (Kd.R_reads' HO104.out).2.1); rintro e w66 ⟨v142, rfl, ho0, hb⟩; refine ⟨_, rfl, ?_⟩; have n0_ := aM_ (Kd.R_below (by (with_reducible repeat (first | apply kA_ | apply kN_ | apply kD_)); exact HO104.out) hb); have n1_ := aM_ (Kd.R_elder' (by (with_reducible repeat (first | apply kA_ | apply kN_ | apply kD_)); exact HO107.out) (Kd.R_base ho0) hb); have n2_ := aM_ (Kd.R_below (by (with_reducible repeat (first | apply kA_ | apply kN_ | apply kD_)); exact HO127.out) hb); have n3_ := aM_ (Kd.R_below (by (with_reducible repeat (first | apply kA_ | apply kN_ | apply kD_)); exact HO129.out) hb); have n4_ := aM_ (Kd.R_below (by (with_reducible repeat (first | apply kA_ | apply kN_ | apply kD_)); exact HO134.out) hb); have n5_ := aM_ (Kd.R_elder' (by (with_reducible repeat (first | apply kA_ | apply kN_ | apply kD_)); exact HO137.out) (Kd.R_base ho0) hb); have n6_ := aM_ (Kd.R_elder' (by (with_reducible repeat (first | apply kA_ | apply kN_ | apply kD_)); exact HO140.out) (Kd.R_base ho0) hb); have n7_ := aM_ (Kd.R_lower (Kd.R_new' (Kd.R_new' (Kd.R_new' ho0 (Kd.R_lt (by (with_reducible repeat (first | apply kA_ | apply kN_ | apply kD_)); exact HO107.out))) (Kd.R_lt (by (with_reducible repeat (first | apply kA_ | apply kN_ | apply kD_)); exact HO137.out))) (Kd.R_lt (by (with_reducible repeat (first | apply kA_ | apply kN_ | apply kD_)); exact HO140.out))) (below_size (by repeat (first | (with_reducible first | exact HB.out | apply bA_ | apply bN_ | apply bD_ | refine below_set ?_ GE114.out | refine below_set ?_ GE115.out) | exact HB.out)))); have n8_ := aM_ (blk_below (g := gb114) (o := .cells #[.int .i64 t108, .int .i64 t109, .int .i64 t110] 40 (0, 0)) (by (with_reducible repeat (first | refine blk_drewN ?_ _ | refine blk_drew ?_ | refine blk_alloc ?_ _)); exact BK114.out) hb); have n9_ := aM_ (blk_below (g := gb115) (o := .cells #[.int .i64 t111, .int .i64 t112, .int .i64 t113] 40 (0, 0)) (by (with_reducible repeat (first | refine blk_drewN ?_ _ | refine blk_drew ?_ | refine blk_alloc ?_ _)); exact BK115.out) hb); have n10_ := aM_ (below_step (by repeat (first | (with_reducible first | exact HB.out | apply bA_ | apply bN_ | apply bD_ | refine below_set ?_ GE114.out | refine below_set ?_ GE115.out) | exact HB.out)) hb); clear HO104; clear HO107; clear HO127; clear HO129; clear HO134; clear HO137; clear HO140; clear BK114; clear BK115; clear HB; have HO104 := n0_; have HO107 := n1_; have HO127 := n2_; have HO129 := n3_; have HO134 := n4_; have HO137 := n5_; have HO140 := n6_; have HO143 := n7_; have BK114 := n8_; have BK115 := n9_; have HB := n10_; clear n0_ n1_ n2_ n3_ n4_ n5_ n6_ n7_ n8_ n9_ n10_; (try clear hb); (try clear hb2); (try clear hk); (try clear hi); (try clear ho0); obtain ⟨Ao67, co67, eo67⟩ := Kd.R_slice HO107.out; subst eo67; obtain ⟨Ao68, co68, eo68⟩ := Kd.R_slice HO143.out; subst eo68) | (go_at_call 44; (with_reducible refine (spec_MeetingRow.calls k _ _ t102 t141 _ ?side1 ?side2 A31.out).mono ?_); (case side1 => repeat (first | exact (Kd.R_reads' HO104.out).2.2 | (with_reducible refine Kd.C_alloc ?_ _) | (with_reducible refine Kd.C_drewN ?_ _) | (with_reducible refine Kd.C_drew ?_))); (case side2 => exact (Kd.R_reads' HO104.out).2.1); rintro e w66 ⟨v142, rfl, ho0, hb⟩; have n0_ := aM_ (Kd.R_below (by (with_reducible repeat (first | apply kA_ | apply kN_ | apply kD_)); exact HO104.out) hb); have n1_ := aM_ (Kd.R_elder' (by (with_reducible repeat (first | apply kA_ | apply kN_ | apply kD_)); exact HO107.out) (Kd.R_base ho0) hb); have n2_ := aM_ (Kd.R_below (by (with_reducible repeat (first | apply kA_ | apply kN_ | apply kD_)); exact HO127.out) hb); have n3_ := aM_ (Kd.R_below (by (with_reducible repeat (first | apply kA_ | apply kN_ | apply kD_)); exact HO129.out) hb); have n4_ := aM_ (Kd.R_below (by (with_reducible repeat (first | apply kA_ | apply kN_ | apply kD_)); exact HO134.out) hb); have n5_ := aM_ (Kd.R_elder' (by (with_reducible repeat (first | apply kA_ | apply kN_ | apply kD_)); exact HO137.out) (Kd.R_base ho0) hb); have n6_ := aM_ (Kd.R_elder' (by (with_reducible repeat (first | apply kA_ | apply kN_ | apply kD_)); exact HO140.out) (Kd.R_base ho0) hb); have n7_ := aM_ (Kd.R_lower (Kd.R_new' (Kd.R_new' (Kd.R_new' ho0 (Kd.R_lt (by (with_reducible repeat (first | apply kA_ | apply kN_ | apply kD_)); exact HO107.out))) (Kd.R_lt (by (with_reducible repeat (first | apply kA_ | apply kN_ | apply kD_)); exact HO137.out))) (Kd.R_lt (by (with_reducible repeat (first | apply kA_ | apply kN_ | apply kD_)); exact HO140.out))) (below_size (by repeat (first | (with_reducible first | exact HB.out | apply bA_ | apply bN_ | apply bD_ | refine below_set ?_ GE114.out | refine below_set ?_ GE115.out) | exact HB.out)))); have n8_ := aM_ (blk_below (g := gb114) (o := .cells #[.int .i64 t108, .int .i64 t109, .int .i64 t110] 40 (0, 0)) (by (with_reducible repeat (first | refine blk_drewN ?_ _ | refine blk_drew ?_ | refine blk_alloc ?_ _)); exact BK114.out) hb); have n9_ := aM_ (blk_below (g := gb115) (o := .cells #[.int .i64 t111, .int .i64 t112, .int .i64 t113] 40 (0, 0)) (by (with_reducible repeat (first | refine blk_drewN ?_ _ | refine blk_drew ?_ | refine blk_alloc ?_ _)); exact BK115.out) hb); have n10_ := aM_ (below_step (by repeat (first | (with_reducible first | exact HB.out | apply bA_ | apply bN_ | apply bD_ | refine below_set ?_ GE114.out | refine below_set ?_ GE115.out) | exact HB.out)) hb); clear HO104; clear HO107; clear HO127; clear HO129; clear HO134; clear HO137; clear HO140; clear BK114; clear BK115; clear HB; have HO104 := n0_; have HO107 := n1_; have HO127 := n2_; have HO129 := n3_; have HO134 := n4_; have HO137 := n5_; have HO140 := n6_; have HO143 := n7_; have BK114 := n8_; have BK115 := n9_; have HB := n10_; clear n0_ n1_ n2_ n3_ n4_ n5_ n6_ n7_ n8_ n9_ n10_; (try clear hb); (try clear hb2); (try clear hk); (try clear hi); (try clear ho0); obtain ⟨Ao67, co67, eo67⟩ := Kd.R_slice HO107.out; subst eo67; obtain ⟨Ao68, co68, eo68⟩ := Kd.R_slice HO143.out; subst eo68) | ((with_reducible refine gate_callee (f := 43) rfl ?_); refine goesL_ (some 72) rfl rfl Try.func43 (by kernel_rfl) rfl #[.slice Ao67 t105.length co67, .slice Ao68 t141.length co68] rfl (by (try simp only [List.map_toArray, List.map_cons, List.map_nil]); first | done | rfl | (simp only [List.length_drop, List.length_take]; rfl)) ?_; (with_reducible refine (laws_sameInts.calls k _ _ t105 _ _ t141 true _ ?side1 ?side2 ?side3 ?side4 A32.out).mono ?_); (case side1 => repeat (first | exact (Kd.R_reads' HO107.out).2.2 | (with_reducible refine Kd.C_alloc ?_ _) | (with_reducible refine Kd.C_drewN ?_ _) | (with_reducible refine Kd.C_drew ?_))); (case side2 => exact (Kd.R_reads' HO107.out).2.1); (case side3 => repeat (first | exact (Kd.R_reads' HO143.out).2.2 | (with_reducible refine Kd.C_alloc ?_ _) | (with_reducible refine Kd.C_drewN ?_ _) | (with_reducible refine Kd.C_drew ?_))); (case side4 => exact (Kd.R_reads' HO143.out).2.1); rintro e w' ⟨rfl, ⟨nd, rfl⟩⟩; refine ⟨_, rfl, ?_⟩; obtain ⟨Ao69, co69, eo69⟩ := Kd.R_slice HO127.out; subst eo69; obtain ⟨Ao70, co70, eo70⟩ := Kd.R_slice HO129.out; subst eo70) | (go_at_call 43; (with_reducible refine (laws_sameInts.calls k _ _ t105 _ _ t141 true _ ?side1 ?side2 ?side3 ?side4 A32.out).mono ?_); (case side1 => repeat (first | exact (Kd.R_reads' HO107.out).2.2 | (with_reducible refine Kd.C_alloc ?_ _) | (with_reducible refine Kd.C_drewN ?_ _) | (with_reducible refine Kd.C_drew ?_))); (case side2 => exact (Kd.R_reads' HO107.out).2.1); (case side3 => repeat (first | exact (Kd.R_reads' HO143.out).2.2 | (with_reducible refine Kd.C_alloc ?_ _) | (with_reducible refine Kd.C_drewN ?_ _) | (with_reducible refine Kd.C_drew ?_))); (case side4 => exact (Kd.R_reads' HO143.out).2.1); rintro e w' ⟨rfl, ⟨nd, rfl⟩⟩; obtain ⟨Ao69, co69, eo69⟩ := Kd.R_slice HO127.out; subst eo69; obtain ⟨Ao70, co70, eo70⟩ := Kd.R_slice HO129.out; subst eo70) | (go_at_call 45; (with_reducible refine (impl_EqualLines.calls k _ _ t124 _ _ t125 t145 _ ?side1 ?side2 ?side3 ?side4 A41.out).mono ?_); (case side1 => repeat (first | exact (Kd.R_reads' HO127.out).2.2 | (with_reducible refine Kd.C_alloc ?_ _) | (with_reducible refine Kd.C_drewN ?_ _) | (with_reducible refine Kd.C_drew ?_))); (case side2 => exact (Kd.R_reads' HO127.out).2.1); (case side3 => repeat (first | exact (Kd.R_reads' HO129.out).2.2 | (with_reducible refine Kd.C_alloc ?_ _) | (with_reducible refine Kd.C_drewN ?_ _) | (with_reducible refine Kd.C_drew ?_))); (case side4 => exact (Kd.R_reads' HO129.out).2.1); rintro e w' ⟨rfl, ⟨nd, rfl⟩⟩) | (go_at_call 46; (with_reducible refine (laws_sameLines.calls k _ _ t124 _ _ t125 t145 _ ?side1 ?side2 ?side3 ?side4 A42.out).mono ?_); (case side1 => repeat (first | exact (Kd.R_reads' HO127.out).2.2 | (with_reducible refine Kd.C_alloc ?_ _) | (with_reducible refine Kd.C_drewN ?_ _) | (with_reducible refine Kd.C_drew ?_))); (case side2 => exact (Kd.R_reads' HO127.out).2.1); (case side3 => repeat (first | exact (Kd.R_reads' HO129.out).2.2 | (with_reducible refine Kd.C_alloc ?_ _) | (with_reducible refine Kd.C_drewN ?_ _) | (with_reducible refine Kd.C_drew ?_))); (case side4 => exact (Kd.R_reads' HO129.out).2.1); rintro e w' ⟨rfl, ⟨nd, rfl⟩⟩; obtain ⟨Ao71, co71, eo71⟩ := Kd.R_slice HO134.out; subst eo71) | (go_at_call 47; (with_reducible refine (impl_SideText.calls k _ _ t130 t131 t132 t147 _ ?side1 ?side2 A49.out).mono ?_); (case side1 => repeat (first | exact (Kd.R_reads' HO134.out).2.2 | (with_reducible refine Kd.C_alloc ?_ _) | (with_reducible refine Kd.C_drewN ?_ _) | (with_reducible refine Kd.C_drew ?_))); (case side2 => exact (Kd.R_reads' HO134.out).2.1); rintro e w72 ⟨rfl, hb⟩; have n0_ := aM_ (Kd.R_below (by (with_reducible repeat (first | apply kA_ | apply kN_ | apply kD_)); exact HO104.out) hb); have n1_ := aM_ (Kd.R_below (by (with_reducible repeat (first | apply kA_ | apply kN_ | apply kD_)); exact HO107.out) hb); have n2_ := aM_ (Kd.R_below (by (with_reducible repeat (first | apply kA_ | apply kN_ | apply kD_)); exact HO127.out) hb); have n3_ := aM_ (Kd.R_below (by (with_reducible repeat (first | apply kA_ | apply kN_ | apply kD_)); exact HO129.out) hb); have n4_ := aM_ (Kd.R_below (by (with_reducible repeat (first | apply kA_ | apply kN_ | apply kD_)); exact HO134.out) hb); have n5_ := aM_ (Kd.R_below (by (with_reducible repeat (first | apply kA_ | apply kN_ | apply kD_)); exact HO137.out) hb); have n6_ := aM_ (Kd.R_below (by (with_reducible repeat (first | apply kA_ | apply kN_ | apply kD_)); exact HO140.out) hb); have n7_ := aM_ (Kd.R_below (by (with_reducible repeat (first | apply kA_ | apply kN_ | apply kD_)); exact HO143.out) hb); have n8_ := aM_ (blk_below (g := gb114) (o := .cells #[.int .i64 t108, .int .i64 t109, .int .i64 t110] 40 (0, 0)) (by (with_reducible repeat (first | refine blk_drewN ?_ _ | refine blk_drew ?_ | refine blk_alloc ?_ _)); exact BK114.out) hb); have n9_ := aM_ (blk_below (g := gb115) (o := .cells #[.int .i64 t111, .int .i64 t112, .int .i64 t113] 40 (0, 0)) (by (with_reducible repeat (first | refine blk_drewN ?_ _ | refine blk_drew ?_ | refine blk_alloc ?_ _)); exact BK115.out) hb); have n10_ := aM_ (below_step (by repeat (first | (with_reducible first | exact HB.out | apply bA_ | apply bN_ | apply bD_ | refine below_set ?_ GE114.out | refine below_set ?_ GE115.out) | exact HB.out)) hb); clear HO104; clear HO107; clear HO127; clear HO129; clear HO134; clear HO137; clear HO140; clear HO143; clear BK114; clear BK115; clear HB; have HO104 := n0_; have HO107 := n1_; have HO127 := n2_; have HO129 := n3_; have HO134 := n4_; have HO137 := n5_; have HO140 := n6_; have HO143 := n7_; have BK114 := n8_; have BK115 := n9_; have HB := n10_; clear n0_ n1_ n2_ n3_ n4_ n5_ n6_ n7_ n8_ n9_ n10_; (try clear hb); (try clear hb2); (try clear hk); (try clear hi)) | (go_at_call 48; (with_reducible refine (spec_SideText.calls k _ _ t130 t131 t132 t148 _ ?side1 ?side2 A50.out).mono ?_); (case side1 => repeat (first | exact (Kd.R_reads' HO134.out).2.2 | (with_reducible refine Kd.C_alloc ?_ _) | (with_reducible refine Kd.C_drewN ?_ _) | (with_reducible refine Kd.C_drew ?_))); (case side2 => exact (Kd.R_reads' HO134.out).2.1); rintro e w73 ⟨rfl, hb⟩; have n0_ := aM_ (Kd.R_below (by (with_reducible repeat (first | apply kA_ | apply kN_ | apply kD_)); exact HO104.out) hb); have n1_ := aM_ (Kd.R_below (by (with_reducible repeat (first | apply kA_ | apply kN_ | apply kD_)); exact HO107.out) hb); have n2_ := aM_ (Kd.R_below (by (with_reducible repeat (first | apply kA_ | apply kN_ | apply kD_)); exact HO127.out) hb); have n3_ := aM_ (Kd.R_below (by (with_reducible repeat (first | apply kA_ | apply kN_ | apply kD_)); exact HO129.out) hb); have n4_ := aM_ (Kd.R_below (by (with_reducible repeat (first | apply kA_ | apply kN_ | apply kD_)); exact HO134.out) hb); have n5_ := aM_ (Kd.R_below (by (with_reducible repeat (first | apply kA_ | apply kN_ | apply kD_)); exact HO137.out) hb); have n6_ := aM_ (Kd.R_below (by (with_reducible repeat (first | apply kA_ | apply kN_ | apply kD_)); exact HO140.out) hb); have n7_ := aM_ (Kd.R_below (by (with_reducible repeat (first | apply kA_ | apply kN_ | apply kD_)); exact HO143.out) hb); have n8_ := aM_ (blk_below (g := gb114) (o := .cells #[.int .i64 t108, .int .i64 t109, .int .i64 t110] 40 (0, 0)) (by (with_reducible repeat (first | refine blk_drewN ?_ _ | refine blk_drew ?_ | refine blk_alloc ?_ _)); exact BK114.out) hb); have n9_ := aM_ (blk_below (g := gb115) (o := .cells #[.int .i64 t111, .int .i64 t112, .int .i64 t113] 40 (0, 0)) (by (with_reducible repeat (first | refine blk_drewN ?_ _ | refine blk_drew ?_ | refine blk_alloc ?_ _)); exact BK115.out) hb); have n10_ := aM_ (below_step (by repeat (first | (with_reducible first | exact HB.out | apply bA_ | apply bN_ | apply bD_ | refine below_set ?_ GE114.out | refine below_set ?_ GE115.out) | exact HB.out)) hb); clear HO104; clear HO107; clear HO127; clear HO129; clear HO134; clear HO137; clear HO140; clear HO143; clear BK114; clear BK115; clear HB; have HO104 := n0_; have HO107 := n1_; have HO127 := n2_; have HO129 := n3_; have HO134 := n4_; have HO137 := n5_; have HO140 := n6_; have HO143 := n7_; have BK114 := n8_; have BK115 := n9_; have HB := n10_; clear n0_ n1_ n2_ n3_ n4_ n5_ n6_ n7_ n8_ n9_ n10_; (try clear hb); (try clear hb2); (try clear hk); (try clear hi)) | (go_at_call 49; (with_reducible refine (spec_ParallelClasses.calls k _ _ t102 t149 _ ?side1 ?side2 A52.out).mono ?_); (case side1 => repeat (first | exact (Kd.R_reads' HO104.out).2.2 | (with_reducible refine Kd.C_alloc ?_ _) | (with_reducible refine Kd.C_drewN ?_ _) | (with_reducible refine Kd.C_drew ?_))); (case side2 => exact (Kd.R_reads' HO104.out).2.1); rintro e w74 ⟨v150, rfl, ho0, hb⟩; have n0_ := aM_ (Kd.R_below (by (with_reducible repeat (first | apply kA_ | apply kN_ | apply kD_)); exact HO104.out) hb); have n1_ := aM_ (Kd.R_elder' (by (with_reducible repeat (first | apply kA_ | apply kN_ | apply kD_)); exact HO107.out) (Kd.R_base ho0) hb); have n2_ := aM_ (Kd.R_below (by (with_reducible repeat (first | apply kA_ | apply kN_ | apply kD_)); exact HO127.out) hb); have n3_ := aM_ (Kd.R_below (by (with_reducible repeat (first | apply kA_ | apply kN_ | apply kD_)); exact HO129.out) hb); have n4_ := aM_ (Kd.R_below (by (with_reducible repeat (first | apply kA_ | apply kN_ | apply kD_)); exact HO134.out) hb); have n5_ := aM_ (Kd.R_elder' (by (with_reducible repeat (first | apply kA_ | apply kN_ | apply kD_)); exact HO137.out) (Kd.R_base ho0) hb); have n6_ := aM_ (Kd.R_elder' (by (with_reducible repeat (first | apply kA_ | apply kN_ | apply kD_)); exact HO140.out) (Kd.R_base ho0) hb); have n7_ := aM_ (Kd.R_elder' (by (with_reducible repeat (first | apply kA_ | apply kN_ | apply kD_)); exact HO143.out) (Kd.R_base ho0) hb); have n8_ := aM_ (Kd.R_lower (Kd.R_new' (Kd.R_new' (Kd.R_new' (Kd.R_new' ho0 (Kd.R_lt (by (with_reducible repeat (first | apply kA_ | apply kN_ | apply kD_)); exact HO107.out))) (Kd.R_lt (by (with_reducible repeat (first | apply kA_ | apply kN_ | apply kD_)); exact HO137.out))) (Kd.R_lt (by (with_reducible repeat (first | apply kA_ | apply kN_ | apply kD_)); exact HO140.out))) (Kd.R_lt (by (with_reducible repeat (first | apply kA_ | apply kN_ | apply kD_)); exact HO143.out))) (below_size (by repeat (first | (with_reducible first | exact HB.out | apply bA_ | apply bN_ | apply bD_ | refine below_set ?_ GE114.out | refine below_set ?_ GE115.out) | exact HB.out)))); have n9_ := aM_ (blk_below (g := gb114) (o := .cells #[.int .i64 t108, .int .i64 t109, .int .i64 t110] 40 (0, 0)) (by (with_reducible repeat (first | refine blk_drewN ?_ _ | refine blk_drew ?_ | refine blk_alloc ?_ _)); exact BK114.out) hb); have n10_ := aM_ (blk_below (g := gb115) (o := .cells #[.int .i64 t111, .int .i64 t112, .int .i64 t113] 40 (0, 0)) (by (with_reducible repeat (first | refine blk_drewN ?_ _ | refine blk_drew ?_ | refine blk_alloc ?_ _)); exact BK115.out) hb); have n11_ := aM_ (below_step (by repeat (first | (with_reducible first | exact HB.out | apply bA_ | apply bN_ | apply bD_ | refine below_set ?_ GE114.out | refine below_set ?_ GE115.out) | exact HB.out)) hb); clear HO104; clear HO107; clear HO127; clear HO129; clear HO134; clear HO137; clear HO140; clear HO143; clear BK114; clear BK115; clear HB; have HO104 := n0_; have HO107 := n1_; have HO127 := n2_; have HO129 := n3_; have HO134 := n4_; have HO137 := n5_; have HO140 := n6_; have HO143 := n7_; have HO151 := n8_; have BK114 := n9_; have BK115 := n10_; have HB := n11_; clear n0_ n1_ n2_ n3_ n4_ n5_ n6_ n7_ n8_ n9_ n10_ n11_; (try clear hb); (try clear hb2); (try clear hk); (try clear hi); (try clear ho0); obtain ⟨Ao75, co75, eo75⟩ := Kd.R_slice HO137.out; subst eo75; obtain ⟨Ao76, co76, eo76⟩ := Kd.R_slice HO151.out; subst eo76) | (go_at_call 43; (with_reducible refine (laws_sameInts.calls k _ _ t135 _ _ t149 true _ ?side1 ?side2 ?side3 ?side4 A53.out).mono ?_); (case side1 => repeat (first | exact (Kd.R_reads' HO137.out).2.2 | (with_reducible refine Kd.C_alloc ?_ _) | (with_reducible refine Kd.C_drewN ?_ _) | (with_reducible refine Kd.C_drew ?_))); (case side2 => exact (Kd.R_reads' HO137.out).2.1); (case side3 => repeat (first | exact (Kd.R_reads' HO151.out).2.2 | (with_reducible refine Kd.C_alloc ?_ _) | (with_reducible refine Kd.C_drewN ?_ _) | (with_reducible refine Kd.C_drew ?_))); (case side4 => exact (Kd.R_reads' HO151.out).2.1); rintro e w' ⟨rfl, ⟨nd, rfl⟩⟩) | (go_at_call 32; (with_reducible refine (spec_LinePoly.calls k _ _ t102 t153 _ ?side1 ?side2 A55.out).mono ?_); (case side1 => repeat (first | exact (Kd.R_reads' HO104.out).2.2 | (with_reducible refine Kd.C_alloc ?_ _) | (with_reducible refine Kd.C_drewN ?_ _) | (with_reducible refine Kd.C_drew ?_))); (case side2 => exact (Kd.R_reads' HO104.out).2.1); rintro e w77 ⟨v154, rfl, ho0, hb⟩; have n0_ := aM_ (Kd.R_below (by (with_reducible repeat (first | apply kA_ | apply kN_ | apply kD_)); exact HO104.out) hb); have n1_ := aM_ (Kd.R_elder' (by (with_reducible repeat (first | apply kA_ | apply kN_ | apply kD_)); exact HO107.out) (Kd.R_base ho0) hb); have n2_ := aM_ (Kd.R_below (by (with_reducible repeat (first | apply kA_ | apply kN_ | apply kD_)); exact HO127.out) hb); have n3_ := aM_ (Kd.R_below (by (with_reducible repeat (first | apply kA_ | apply kN_ | apply kD_)); exact HO129.out) hb); have n4_ := aM_ (Kd.R_below (by (with_reducible repeat (first | apply kA_ | apply kN_ | apply kD_)); exact HO134.out) hb); have n5_ := aM_ (Kd.R_elder' (by (with_reducible repeat (first | apply kA_ | apply kN_ | apply kD_)); exact HO137.out) (Kd.R_base ho0) hb); have n6_ := aM_ (Kd.R_elder' (by (with_reducible repeat (first | apply kA_ | apply kN_ | apply kD_)); exact HO140.out) (Kd.R_base ho0) hb); have n7_ := aM_ (Kd.R_elder' (by (with_reducible repeat (first | apply kA_ | apply kN_ | apply kD_)); exact HO143.out) (Kd.R_base ho0) hb); have n8_ := aM_ (Kd.R_elder' (by (with_reducible repeat (first | apply kA_ | apply kN_ | apply kD_)); exact HO151.out) (Kd.R_base ho0) hb); have n9_ := aM_ (Kd.R_lower (Kd.R_new' (Kd.R_new' (Kd.R_new' (Kd.R_new' (Kd.R_new' ho0 (Kd.R_lt (by (with_reducible repeat (first | apply kA_ | apply kN_ | apply kD_)); exact HO107.out))) (Kd.R_lt (by (with_reducible repeat (first | apply kA_ | apply kN_ | apply kD_)); exact HO137.out))) (Kd.R_lt (by (with_reducible repeat (first | apply kA_ | apply kN_ | apply kD_)); exact HO140.out))) (Kd.R_lt (by (with_reducible repeat (first | apply kA_ | apply kN_ | apply kD_)); exact HO143.out))) (Kd.R_lt (by (with_reducible repeat (first | apply kA_ | apply kN_ | apply kD_)); exact HO151.out))) (below_size (by repeat (first | (with_reducible first | exact HB.out | apply bA_ | apply bN_ | apply bD_ | refine below_set ?_ GE114.out | refine below_set ?_ GE115.out) | exact HB.out)))); have n10_ := aM_ (blk_below (g := gb114) (o := .cells #[.int .i64 t108, .int .i64 t109, .int .i64 t110] 40 (0, 0)) (by (with_reducible repeat (first | refine blk_drewN ?_ _ | refine blk_drew ?_ | refine blk_alloc ?_ _)); exact BK114.out) hb); have n11_ := aM_ (blk_below (g := gb115) (o := .cells #[.int .i64 t111, .int .i64 t112, .int .i64 t113] 40 (0, 0)) (by (with_reducible repeat (first | refine blk_drewN ?_ _ | refine blk_drew ?_ | refine blk_alloc ?_ _)); exact BK115.out) hb); have n12_ := aM_ (below_step (by repeat (first | (with_reducible first | exact HB.out | apply bA_ | apply bN_ | apply bD_ | refine below_set ?_ GE114.out | refine below_set ?_ GE115.out) | exact HB.out)) hb); clear HO104; clear HO107; clear HO127; clear HO129; clear HO134; clear HO137; clear HO140; clear HO143; clear HO151; clear BK114; clear BK115; clear HB; have HO104 := n0_; have HO107 := n1_; have HO127 := n2_; have HO129 := n3_; have HO134 := n4_; have HO137 := n5_; have HO140 := n6_; have HO143 := n7_; have HO151 := n8_; have HO155 := n9_; have BK114 := n10_; have BK115 := n11_; have HB := n12_; clear n0_ n1_ n2_ n3_ n4_ n5_ n6_ n7_ n8_ n9_ n10_ n11_ n12_; (try clear hb); (try clear hb2); (try clear hk); (try clear hi); (try clear ho0); obtain ⟨Ao78, co78, eo78⟩ := Kd.R_slice HO140.out; subst eo78; obtain ⟨Ao79, co79, eo79⟩ := Kd.R_slice HO155.out; subst eo79) | (go_at_call 43; (with_reducible refine (laws_sameInts.calls k _ _ t138 _ _ t153 true _ ?side1 ?side2 ?side3 ?side4 A56.out).mono ?_); (case side1 => repeat (first | exact (Kd.R_reads' HO140.out).2.2 | (with_reducible refine Kd.C_alloc ?_ _) | (with_reducible refine Kd.C_drewN ?_ _) | (with_reducible refine Kd.C_drew ?_))); (case side2 => exact (Kd.R_reads' HO140.out).2.1); (case side3 => repeat (first | exact (Kd.R_reads' HO155.out).2.2 | (with_reducible refine Kd.C_alloc ?_ _) | (with_reducible refine Kd.C_drewN ?_ _) | (with_reducible refine Kd.C_drew ?_))); (case side4 => exact (Kd.R_reads' HO155.out).2.1); rintro e w' ⟨rfl, ⟨nd, rfl⟩⟩) | (go_at_call 50; (with_reducible refine (impl_CountRegions.calls k _ _ t102 t157 _ ?side1 ?side2 A58.out).mono ?_); (case side1 => repeat (first | exact (Kd.R_reads' HO104.out).2.2 | (with_reducible refine Kd.C_alloc ?_ _) | (with_reducible refine Kd.C_drewN ?_ _) | (with_reducible refine Kd.C_drew ?_))); (case side2 => exact (Kd.R_reads' HO104.out).2.1); rintro e w80 ⟨rfl, hb⟩; have n0_ := aM_ (Kd.R_below (by (with_reducible repeat (first | apply kA_ | apply kN_ | apply kD_)); exact HO104.out) hb); have n1_ := aM_ (Kd.R_below (by (with_reducible repeat (first | apply kA_ | apply kN_ | apply kD_)); exact HO107.out) hb); have n2_ := aM_ (Kd.R_below (by (with_reducible repeat (first | apply kA_ | apply kN_ | apply kD_)); exact HO127.out) hb); have n3_ := aM_ (Kd.R_below (by (with_reducible repeat (first | apply kA_ | apply kN_ | apply kD_)); exact HO129.out) hb); have n4_ := aM_ (Kd.R_below (by (with_reducible repeat (first | apply kA_ | apply kN_ | apply kD_)); exact HO134.out) hb); have n5_ := aM_ (Kd.R_below (by (with_reducible repeat (first | apply kA_ | apply kN_ | apply kD_)); exact HO137.out) hb); have n6_ := aM_ (Kd.R_below (by (with_reducible repeat (first | apply kA_ | apply kN_ | apply kD_)); exact HO140.out) hb); have n7_ := aM_ (Kd.R_below (by (with_reducible repeat (first | apply kA_ | apply kN_ | apply kD_)); exact HO143.out) hb); have n8_ := aM_ (Kd.R_below (by (with_reducible repeat (first | apply kA_ | apply kN_ | apply kD_)); exact HO151.out) hb); have n9_ := aM_ (Kd.R_below (by (with_reducible repeat (first | apply kA_ | apply kN_ | apply kD_)); exact HO155.out) hb); have n10_ := aM_ (blk_below (g := gb114) (o := .cells #[.int .i64 t108, .int .i64 t109, .int .i64 t110] 40 (0, 0)) (by (with_reducible repeat (first | refine blk_drewN ?_ _ | refine blk_drew ?_ | refine blk_alloc ?_ _)); exact BK114.out) hb); have n11_ := aM_ (blk_below (g := gb115) (o := .cells #[.int .i64 t111, .int .i64 t112, .int .i64 t113] 40 (0, 0)) (by (with_reducible repeat (first | refine blk_drewN ?_ _ | refine blk_drew ?_ | refine blk_alloc ?_ _)); exact BK115.out) hb); have n12_ := aM_ (below_step (by repeat (first | (with_reducible first | exact HB.out | apply bA_ | apply bN_ | apply bD_ | refine below_set ?_ GE114.out | refine below_set ?_ GE115.out) | exact HB.out)) hb); clear HO104; clear HO107; clear HO127; clear HO129; clear HO134; clear HO137; clear HO140; clear HO143; clear HO151; clear HO155; clear BK114; clear BK115; clear HB; have HO104 := n0_; have HO107 := n1_; have HO127 := n2_; have HO129 := n3_; have HO134 := n4_; have HO137 := n5_; have HO140 := n6_; have HO143 := n7_; have HO151 := n8_; have HO155 := n9_; have BK114 := n10_; have BK115 := n11_; have HB := n12_; clear n0_ n1_ n2_ n3_ n4_ n5_ n6_ n7_ n8_ n9_ n10_ n11_ n12_; (try clear hb); (try clear hb2); (try clear hk); (try clear hi)) | (go_at_call 51; (with_reducible refine (spec_CountRegions.calls k _ _ t102 t158 _ ?side1 ?side2 A59.out).mono ?_); (case side1 => repeat (first | exact (Kd.R_reads' HO104.out).2.2 | (with_reducible refine Kd.C_alloc ?_ _) | (with_reducible refine Kd.C_drewN ?_ _) | (with_reducible refine Kd.C_drew ?_))); (case side2 => exact (Kd.R_reads' HO104.out).2.1); rintro e w81 ⟨rfl, hb⟩; have n0_ := aM_ (Kd.R_below (by (with_reducible repeat (first | apply kA_ | apply kN_ | apply kD_)); exact HO104.out) hb); have n1_ := aM_ (Kd.R_below (by (with_reducible repeat (first | apply kA_ | apply kN_ | apply kD_)); exact HO107.out) hb); have n2_ := aM_ (Kd.R_below (by (with_reducible repeat (first | apply kA_ | apply kN_ | apply kD_)); exact HO127.out) hb); have n3_ := aM_ (Kd.R_below (by (with_reducible repeat (first | apply kA_ | apply kN_ | apply kD_)); exact HO129.out) hb); have n4_ := aM_ (Kd.R_below (by (with_reducible repeat (first | apply kA_ | apply kN_ | apply kD_)); exact HO134.out) hb); have n5_ := aM_ (Kd.R_below (by (with_reducible repeat (first | apply kA_ | apply kN_ | apply kD_)); exact HO137.out) hb); have n6_ := aM_ (Kd.R_below (by (with_reducible repeat (first | apply kA_ | apply kN_ | apply kD_)); exact HO140.out) hb); have n7_ := aM_ (Kd.R_below (by (with_reducible repeat (first | apply kA_ | apply kN_ | apply kD_)); exact HO143.out) hb); have n8_ := aM_ (Kd.R_below (by (with_reducible repeat (first | apply kA_ | apply kN_ | apply kD_)); exact HO151.out) hb); have n9_ := aM_ (Kd.R_below (by (with_reducible repeat (first | apply kA_ | apply kN_ | apply kD_)); exact HO155.out) hb); have n10_ := aM_ (blk_below (g := gb114) (o := .cells #[.int .i64 t108, .int .i64 t109, .int .i64 t110] 40 (0, 0)) (by (with_reducible repeat (first | refine blk_drewN ?_ _ | refine blk_drew ?_ | refine blk_alloc ?_ _)); exact BK114.out) hb); have n11_ := aM_ (blk_below (g := gb115) (o := .cells #[.int .i64 t111, .int .i64 t112, .int .i64 t113] 40 (0, 0)) (by (with_reducible repeat (first | refine blk_drewN ?_ _ | refine blk_drew ?_ | refine blk_alloc ?_ _)); exact BK115.out) hb); have n12_ := aM_ (below_step (by repeat (first | (with_reducible first | exact HB.out | apply bA_ | apply bN_ | apply bD_ | refine below_set ?_ GE114.out | refine below_set ?_ GE115.out) | exact HB.out)) hb); clear HO104; clear HO107; clear HO127; clear HO129; clear HO134; clear HO137; clear HO140; clear HO143; clear HO151; clear HO155; clear BK114; clear BK115; clear HB; have HO104 := n0_; have HO107 := n1_; have HO127 := n2_; have HO129 := n3_; have HO134 := n4_; have HO137 := n5_; have HO140 := n6_; have HO143 := n7_; have HO151 := n8_; have HO155 := n9_; have BK114 := n10_; have BK115 := n11_; have HB := n12_; clear n0_ n1_ n2_ n3_ n4_ n5_ n6_ n7_ n8_ n9_ n10_ n11_ n12_; (try clear hb); (try clear hb2); (try clear hk); (try clear hi)) | (go_at_call 31; (with_reducible refine (impl_CountBounded.calls k _ _ t102 t159 _ ?side1 ?side2 A61.out).mono ?_); (case side1 => repeat (first | exact (Kd.R_reads' HO104.out).2.2 | (with_reducible refine Kd.C_alloc ?_ _) | (with_reducible refine Kd.C_drewN ?_ _) | (with_reducible refine Kd.C_drew ?_))); (case side2 => exact (Kd.R_reads' HO104.out).2.1); rintro e w82 ⟨rfl, hb⟩; have n0_ := aM_ (Kd.R_below (by (with_reducible repeat (first | apply kA_ | apply kN_ | apply kD_)); exact HO104.out) hb); have n1_ := aM_ (Kd.R_below (by (with_reducible repeat (first | apply kA_ | apply kN_ | apply kD_)); exact HO107.out) hb); have n2_ := aM_ (Kd.R_below (by (with_reducible repeat (first | apply kA_ | apply kN_ | apply kD_)); exact HO127.out) hb); have n3_ := aM_ (Kd.R_below (by (with_reducible repeat (first | apply kA_ | apply kN_ | apply kD_)); exact HO129.out) hb); have n4_ := aM_ (Kd.R_below (by (with_reducible repeat (first | apply kA_ | apply kN_ | apply kD_)); exact HO134.out) hb); have n5_ := aM_ (Kd.R_below (by (with_reducible repeat (first | apply kA_ | apply kN_ | apply kD_)); exact HO137.out) hb); have n6_ := aM_ (Kd.R_below (by (with_reducible repeat (first | apply kA_ | apply kN_ | apply kD_)); exact HO140.out) hb); have n7_ := aM_ (Kd.R_below (by (with_reducible repeat (first | apply kA_ | apply kN_ | apply kD_)); exact HO143.out) hb); have n8_ := aM_ (Kd.R_below (by (with_reducible repeat (first | apply kA_ | apply kN_ | apply kD_)); exact HO151.out) hb); have n9_ := aM_ (Kd.R_below (by (with_reducible repeat (first | apply kA_ | apply kN_ | apply kD_)); exact HO155.out) hb); have n10_ := aM_ (blk_below (g := gb114) (o := .cells #[.int .i64 t108, .int .i64 t109, .int .i64 t110] 40 (0, 0)) (by (with_reducible repeat (first | refine blk_drewN ?_ _ | refine blk_drew ?_ | refine blk_alloc ?_ _)); exact BK114.out) hb); have n11_ := aM_ (blk_below (g := gb115) (o := .cells #[.int .i64 t111, .int .i64 t112, .int .i64 t113] 40 (0, 0)) (by (with_reducible repeat (first | refine blk_drewN ?_ _ | refine blk_drew ?_ | refine blk_alloc ?_ _)); exact BK115.out) hb); have n12_ := aM_ (below_step (by repeat (first | (with_reducible first | exact HB.out | apply bA_ | apply bN_ | apply bD_ | refine below_set ?_ GE114.out | refine below_set ?_ GE115.out) | exact HB.out)) hb); clear HO104; clear HO107; clear HO127; clear HO129; clear HO134; clear HO137; clear HO140; clear HO143; clear HO151; clear HO155; clear BK114; clear BK115; clear HB; have HO104 := n0_; have HO107 := n1_; have HO127 := n2_; have HO129 := n3_; have HO134 := n4_; have HO137 := n5_; have HO140 := n6_; have HO143 := n7_; have HO151 := n8_; have HO155 := n9_; have BK114 := n10_; have BK115 := n11_; have HB := n12_; clear n0_ n1_ n2_ n3_ n4_ n5_ n6_ n7_ n8_ n9_ n10_ n11_ n12_; (try clear hb); (try clear hb2); (try clear hk); (try clear hi)) | (go_at_call 30; (with_reducible refine (spec_CountBounded.calls k _ _ t102 t160 _ ?side1 ?side2 A62.out).mono ?_); (case side1 => repeat (first | exact (Kd.R_reads' HO104.out).2.2 | (with_reducible refine Kd.C_alloc ?_ _) | (with_reducible refine Kd.C_drewN ?_ _) | (with_reducible refine Kd.C_drew ?_))); (case side2 => exact (Kd.R_reads' HO104.out).2.1); rintro e w83 ⟨rfl, hb⟩; have n0_ := aM_ (Kd.R_below (by (with_reducible repeat (first | apply kA_ | apply kN_ | apply kD_)); exact HO104.out) hb); have n1_ := aM_ (Kd.R_below (by (with_reducible repeat (first | apply kA_ | apply kN_ | apply kD_)); exact HO107.out) hb); have n2_ := aM_ (Kd.R_below (by (with_reducible repeat (first | apply kA_ | apply kN_ | apply kD_)); exact HO127.out) hb); have n3_ := aM_ (Kd.R_below (by (with_reducible repeat (first | apply kA_ | apply kN_ | apply kD_)); exact HO129.out) hb); have n4_ := aM_ (Kd.R_below (by (with_reducible repeat (first | apply kA_ | apply kN_ | apply kD_)); exact HO134.out) hb); have n5_ := aM_ (Kd.R_below (by (with_reducible repeat (first | apply kA_ | apply kN_ | apply kD_)); exact HO137.out) hb); have n6_ := aM_ (Kd.R_below (by (with_reducible repeat (first | apply kA_ | apply kN_ | apply kD_)); exact HO140.out) hb); have n7_ := aM_ (Kd.R_below (by (with_reducible repeat (first | apply kA_ | apply kN_ | apply kD_)); exact HO143.out) hb); have n8_ := aM_ (Kd.R_below (by (with_reducible repeat (first | apply kA_ | apply kN_ | apply kD_)); exact HO151.out) hb); have n9_ := aM_ (Kd.R_below (by (with_reducible repeat (first | apply kA_ | apply kN_ | apply kD_)); exact HO155.out) hb); have n10_ := aM_ (blk_below (g := gb114) (o := .cells #[.int .i64 t108, .int .i64 t109, .int .i64 t110] 40 (0, 0)) (by (with_reducible repeat (first | refine blk_drewN ?_ _ | refine blk_drew ?_ | refine blk_alloc ?_ _)); exact BK114.out) hb); have n11_ := aM_ (blk_below (g := gb115) (o := .cells #[.int .i64 t111, .int .i64 t112, .int .i64 t113] 40 (0, 0)) (by (with_reducible repeat (first | refine blk_drewN ?_ _ | refine blk_drew ?_ | refine blk_alloc ?_ _)); exact BK115.out) hb); have n12_ := aM_ (below_step (by repeat (first | (with_reducible first | exact HB.out | apply bA_ | apply bN_ | apply bD_ | refine below_set ?_ GE114.out | refine below_set ?_ GE115.out) | exact HB.out)) hb); clear HO104; clear HO107; clear HO127; clear HO129; clear HO134; clear HO137; clear HO140; clear HO143; clear HO151; clear HO155; clear BK114; clear BK115; clear HB; have HO104 := n0_; have HO107 := n1_; have HO127 := n2_; have HO129 := n3_; have HO134 := n4_; have HO137 := n5_; have HO140 := n6_; have HO143 := n7_; have HO151 := n8_; have HO155 := n9_; have BK114 := n10_; have BK115 := n11_; have HB := n12_; clear n0_ n1_ n2_ n3_ n4_ n5_ n6_ n7_ n8_ n9_ n10_ n11_ n12_; (try clear hb); (try clear hb2); (try clear hk); (try clear hi)) | (go_at_call 52; (with_reducible refine (impl_AreLines.calls _ _ t102 t161 _ ?side1 ?side2 A64.out).mono ?_); (case side1 => repeat (first | exact (Kd.R_reads' HO104.out).2.2 | (with_reducible refine Kd.C_alloc ?_ _) | (with_reducible refine Kd.C_drewN ?_ _) | (with_reducible refine Kd.C_drew ?_))); (case side2 => exact (Kd.R_reads' HO104.out).2.1); rintro e w84 ⟨rfl, hb⟩; have n0_ := aM_ (Kd.R_below (by (with_reducible repeat (first | apply kA_ | apply kN_ | apply kD_)); exact HO104.out) hb); have n1_ := aM_ (Kd.R_below (by (with_reducible repeat (first | apply kA_ | apply kN_ | apply kD_)); exact HO107.out) hb); have n2_ := aM_ (Kd.R_below (by (with_reducible repeat (first | apply kA_ | apply kN_ | apply kD_)); exact HO127.out) hb); have n3_ := aM_ (Kd.R_below (by (with_reducible repeat (first | apply kA_ | apply kN_ | apply kD_)); exact HO129.out) hb); have n4_ := aM_ (Kd.R_below (by (with_reducible repeat (first | apply kA_ | apply kN_ | apply kD_)); exact HO134.out) hb); have n5_ := aM_ (Kd.R_below (by (with_reducible repeat (first | apply kA_ | apply kN_ | apply kD_)); exact HO137.out) hb); have n6_ := aM_ (Kd.R_below (by (with_reducible repeat (first | apply kA_ | apply kN_ | apply kD_)); exact HO140.out) hb); have n7_ := aM_ (Kd.R_below (by (with_reducible repeat (first | apply kA_ | apply kN_ | apply kD_)); exact HO143.out) hb); have n8_ := aM_ (Kd.R_below (by (with_reducible repeat (first | apply kA_ | apply kN_ | apply kD_)); exact HO151.out) hb); have n9_ := aM_ (Kd.R_below (by (with_reducible repeat (first | apply kA_ | apply kN_ | apply kD_)); exact HO155.out) hb); have n10_ := aM_ (blk_below (g := gb114) (o := .cells #[.int .i64 t108, .int .i64 t109, .int .i64 t110] 40 (0, 0)) (by (with_reducible repeat (first | refine blk_drewN ?_ _ | refine blk_drew ?_ | refine blk_alloc ?_ _)); exact BK114.out) hb); have n11_ := aM_ (blk_below (g := gb115) (o := .cells #[.int .i64 t111, .int .i64 t112, .int .i64 t113] 40 (0, 0)) (by (with_reducible repeat (first | refine blk_drewN ?_ _ | refine blk_drew ?_ | refine blk_alloc ?_ _)); exact BK115.out) hb); have n12_ := aM_ (below_step (by repeat (first | (with_reducible first | exact HB.out | apply bA_ | apply bN_ | apply bD_ | refine below_set ?_ GE114.out | refine below_set ?_ GE115.out) | exact HB.out)) hb); clear HO104; clear HO107; clear HO127; clear HO129; clear HO134; clear HO137; clear HO140; clear HO143; clear HO151; clear HO155; clear BK114; clear BK115; clear HB; have HO104 := n0_; have HO107 := n1_; have HO127 := n2_; have HO129 := n3_; have HO134 := n4_; have HO137 := n5_; have HO140 := n6_; have HO143 := n7_; have HO151 := n8_; have HO155 := n9_; have BK114 := n10_; have BK115 := n11_; have HB := n12_; clear n0_ n1_ n2_ n3_ n4_ n5_ n6_ n7_ n8_ n9_ n10_ n11_ n12_; (try clear hb); (try clear hb2); (try clear hk); (try clear hi)) | (go_at_call 53; (with_reducible refine (spec_AreLines.calls k _ _ t102 t162 _ ?side1 ?side2 A65.out).mono ?_); (case side1 => repeat (first | exact (Kd.R_reads' HO104.out).2.2 | (with_reducible refine Kd.C_alloc ?_ _) | (with_reducible refine Kd.C_drewN ?_ _) | (with_reducible refine Kd.C_drew ?_))); (case side2 => exact (Kd.R_reads' HO104.out).2.1); rintro e w85 ⟨rfl, hb⟩; have n0_ := aM_ (Kd.R_below (by (with_reducible repeat (first | apply kA_ | apply kN_ | apply kD_)); exact HO104.out) hb); have n1_ := aM_ (Kd.R_below (by (with_reducible repeat (first | apply kA_ | apply kN_ | apply kD_)); exact HO107.out) hb); have n2_ := aM_ (Kd.R_below (by (with_reducible repeat (first | apply kA_ | apply kN_ | apply kD_)); exact HO127.out) hb); have n3_ := aM_ (Kd.R_below (by (with_reducible repeat (first | apply kA_ | apply kN_ | apply kD_)); exact HO129.out) hb); have n4_ := aM_ (Kd.R_below (by (with_reducible repeat (first | apply kA_ | apply kN_ | apply kD_)); exact HO134.out) hb); have n5_ := aM_ (Kd.R_below (by (with_reducible repeat (first | apply kA_ | apply kN_ | apply kD_)); exact HO137.out) hb); have n6_ := aM_ (Kd.R_below (by (with_reducible repeat (first | apply kA_ | apply kN_ | apply kD_)); exact HO140.out) hb); have n7_ := aM_ (Kd.R_below (by (with_reducible repeat (first | apply kA_ | apply kN_ | apply kD_)); exact HO143.out) hb); have n8_ := aM_ (Kd.R_below (by (with_reducible repeat (first | apply kA_ | apply kN_ | apply kD_)); exact HO151.out) hb); have n9_ := aM_ (Kd.R_below (by (with_reducible repeat (first | apply kA_ | apply kN_ | apply kD_)); exact HO155.out) hb); have n10_ := aM_ (blk_below (g := gb114) (o := .cells #[.int .i64 t108, .int .i64 t109, .int .i64 t110] 40 (0, 0)) (by (with_reducible repeat (first | refine blk_drewN ?_ _ | refine blk_drew ?_ | refine blk_alloc ?_ _)); exact BK114.out) hb); have n11_ := aM_ (blk_below (g := gb115) (o := .cells #[.int .i64 t111, .int .i64 t112, .int .i64 t113] 40 (0, 0)) (by (with_reducible repeat (first | refine blk_drewN ?_ _ | refine blk_drew ?_ | refine blk_alloc ?_ _)); exact BK115.out) hb); have n12_ := aM_ (below_step (by repeat (first | (with_reducible first | exact HB.out | apply bA_ | apply bN_ | apply bD_ | refine below_set ?_ GE114.out | refine below_set ?_ GE115.out) | exact HB.out)) hb); clear HO104; clear HO107; clear HO127; clear HO129; clear HO134; clear HO137; clear HO140; clear HO143; clear HO151; clear HO155; clear BK114; clear BK115; clear HB; have HO104 := n0_; have HO107 := n1_; have HO127 := n2_; have HO129 := n3_; have HO134 := n4_; have HO137 := n5_; have HO140 := n6_; have HO143 := n7_; have HO151 := n8_; have HO155 := n9_; have BK114 := n10_; have BK115 := n11_; have HB := n12_; clear n0_ n1_ n2_ n3_ n4_ n5_ n6_ n7_ n8_ n9_ n10_ n11_ n12_; (try clear hb); (try clear hb2); (try clear hk); (try clear hi)))
              go_meet
              case rel => exact ⟨_, ((t161 != t162)), (by first | rfl | (simp; done) | (simp [*]; done)), H', ⟨by first | omega | exact Nat.le_refl _⟩, ⟨by (with_reducible repeat (first | apply kA_ | apply kN_ | apply kD_)); exact Kd.R_mono HO104.out (fun _ hk => ⟨hk.1.1.1.1.2, hk.1.1.1.2⟩)⟩, ⟨by (with_reducible repeat (first | apply kA_ | apply kN_ | apply kD_)); exact Kd.R_mono HO107.out (fun _ hk => ⟨hk.1.1.1.1.2, hk.1.1.1.2⟩)⟩, ⟨by (with_reducible repeat (first | apply kA_ | apply kN_ | apply kD_)); exact Kd.R_mono HO137.out (fun _ hk => ⟨hk.1.1.1.1.2, hk.1.1.1.2⟩)⟩, ⟨by (with_reducible repeat (first | apply kA_ | apply kN_ | apply kD_)); exact Kd.R_mono HO140.out (fun _ hk => ⟨hk.1.1.1.1.2, hk.1.1.1.2⟩)⟩, ⟨by (with_reducible repeat (first | refine blk_drewN ?_ _ | refine blk_drew ?_ | refine blk_alloc ?_ _)); exact BK114.out⟩, ⟨by (with_reducible repeat (first | refine blk_drewN ?_ _ | refine blk_drew ?_ | refine blk_alloc ?_ _)); exact BK115.out⟩, ⟨by repeat (first | (with_reducible first | exact HB.out | apply bA_ | apply bN_ | apply bD_ | refine below_set ?_ GE114.out | refine below_set ?_ GE115.out) | exact HB.out)⟩⟩
             ·rw [if_neg c63] at H
              exact absurd H (laws_FnLines.j0_no _ _ _ _ _ _ _ _ _ _ _ _ _ _ _)
            ·rw [if_neg c60] at H
             exact absurd H (laws_FnLines.j0_no _ _ _ _ _ _ _ _ _ _ _ _ _ _ _)
           ·replace c57 := Bool.eq_false_iff.mpr c57
            subst c57
            have H1 : (laws_FnLines.j0 k t102 t105 t116 t117 t118 t119 t135 t138 true t108 t109 t110 t111 t112 t113) = some true := by rw [if_neg (show ¬ (false = true) by decide)] at H; exact H
            exact absurd H1 (laws_FnLines.j0_no _ _ _ _ _ _ _ _ _ _ _ _ _ _ _)
          ·replace c54 := Bool.eq_false_iff.mpr c54
           subst c54
           have H1 : (laws_FnLines.j0 k t102 t105 t116 t117 t118 t119 t135 t138 true t108 t109 t110 t111 t112 t113) = some true := by rw [if_neg (show ¬ (false = true) by decide)] at H; exact H
           exact absurd H1 (laws_FnLines.j0_no _ _ _ _ _ _ _ _ _ _ _ _ _ _ _)
         ·rw [if_neg c51] at H
          exact absurd H (laws_FnLines.j0_no _ _ _ _ _ _ _ _ _ _ _ _ _ _ _)
       ·rw [if_neg c40] at H
        exact absurd H (laws_FnLines.j0_no _ _ _ _ _ _ _ _ _ _ _ _ _ _ _)
      ·rw [if_neg c39] at H
       exact absurd H (laws_FnLines.j0_no _ _ _ _ _ _ _ _ _ _ _ _ _ _ _)
     ·rw [if_neg c38] at H
      exact absurd H (laws_FnLines.j0_no _ _ _ _ _ _ _ _ _ _ _ _ _ _ _)
   ·replace c33 := Bool.eq_false_iff.mpr c33
    subst c33
    have H1 : (laws_FnLines.j0 k t102 t105 t116 t117 t118 t119 t135 t138 true t108 t109 t110 t111 t112 t113) = some true := by rw [if_neg (show ¬ (false = true) by decide)] at H; exact H
    exact absurd H1 (laws_FnLines.j0_no _ _ _ _ _ _ _ _ _ _ _ _ _ _ _)
  case rest => as_aux_lemma =>
   clear HC13
   try clear c3
   try clear c33
   try clear c34
   try clear c34b0
   try clear c38
   try clear c38b0
   try clear c38b1
   try clear c39
   try clear c39b0
   try clear c39b1
   try clear c40
   try clear c40b0
   try clear c40b1
   try clear c43
   try clear c43b0
   try clear c51
   try clear c51b0
   try clear c51b1
   try clear c54
   try clear c57
   try clear c60
   try clear c60b0
   try clear c60b1
   try clear c63
   try clear c63b0
   try clear c63b1
   try clear hcz21_0
   try clear hcz21_1
   try clear hcz21_2
   try clear hcz22_0
   try clear hcz22_1
   try clear hcz22_2
   try clear hcz24_0
   try clear hcz24_1
   try clear hcz24_2
   try clear hcz25_0
   try clear hcz25_1
   try clear hcz25_2
   try clear hfz21_0
   try clear hfz21_1
   try clear hfz21_2
   try clear hfz22_0
   try clear hfz22_1
   try clear hfz22_2
   try clear hfz24_0
   try clear hfz24_1
   try clear hfz24_2
   try clear hfz25_0
   try clear hfz25_1
   try clear hfz25_2
   obtain ⟨kq, x148_12, rfl, HA, HJ12, HO_3, HO_4, HO_20, HO_21, BK114, BK115, HB⟩ := hcut
   cases kq with
   | zero => exact absurd HA.out (by simp [laws_FnLines.j0])
   | succ kj12 =>
    have H := HA.out
    clear HA
    simp only [laws_FnLines.j0] at H
    by_cases c165 : x148_12 = true
    ·subst c165
     have H1 : (some false) = some true := by rw [if_pos rfl] at H; exact H
     clear H
     have H := H1
     clear H1
     exact absurd H (by simp)
    ·replace c165 := Bool.eq_false_iff.mpr c165
     subst c165
     have H1 : (if t119 = true then (if t118 < 1 then (laws_FnLines.j1 kj12 t102 t105 t135 t138 true) else (if (wrap64 ((wrap64 (t108 * t116)) + (wrap64 (t109 * t117)))) = (wrap64 (t110 * t118)) then (laws_FnLines.j1 kj12 t102 t105 t135 t138 ((wrap64 ((wrap64 (t111 * t116)) + (wrap64 (t112 * t117)))) != (wrap64 (t113 * t118)))) else (laws_FnLines.j1 kj12 t102 t105 t135 t138 true))) else (laws_FnLines.j1 kj12 t102 t105 t135 t138 false)) = some true := by rw [if_neg (show ¬ (false = true) by decide)] at H; exact H
     clear H
     have H := H1
     clear H1
     have HC166 := aM_ H
     clear H
     go_upto_region 14 with (fail)
     go_cut [185] (fun v185 wc => ∃ (kq : Nat) (x185_165 : Bool), v185 = .bool x185_165 ∧ Aside0 (laws_FnLines.j1 kq t102 t105 t135 t138 x185_165 = some true) ∧ Aside0 (kq ≤ kj12) ∧ Aside0 (Kd.R k40 40 wc w.heap.size (fun k_ => k_ ≠ gb114 ∧ k_ ≠ gb115) (.slice Ao15 t102.length co15) t102) ∧ Aside0 (Kd.R (Kd.int .i64) 3 wc w.heap.size (fun k_ => some k_ ≠ (v136 : Value).ownBlock ∧ some k_ ≠ (v139 : Value).ownBlock) v106 t105) ∧ Aside0 (Kd.R (Kd.int .i64) 3 wc w.heap.size (fun k_ => some k_ ≠ (v106 : Value).ownBlock ∧ some k_ ≠ (v139 : Value).ownBlock) v136 t135) ∧ Aside0 (Kd.R (Kd.int .i64) 3 wc w.heap.size (fun k_ => some k_ ≠ (v106 : Value).ownBlock ∧ some k_ ≠ (v136 : Value).ownBlock) v139 t138) ∧ Aside0 (wc.heap[gb114]? = some (.cells #[.int .i64 t108, .int .i64 t109, .int .i64 t110] 40 (0, 0))) ∧ Aside0 (wc.heap[gb115]? = some (.cells #[.int .i64 t111, .int .i64 t112, .int .i64 t113] 40 (0, 0))) ∧ Aside0 (Below w.heap.size w wc))
     case first => as_aux_lemma =>
      have H := HC166.out
      clear HC166
      by_cases c167 : t119 = true
      ·subst c167
       have H1 : (if t118 < 1 then (laws_FnLines.j1 kj12 t102 t105 t135 t138 true) else (if (wrap64 ((wrap64 (t108 * t116)) + (wrap64 (t109 * t117)))) = (wrap64 (t110 * t118)) then (laws_FnLines.j1 kj12 t102 t105 t135 t138 ((wrap64 ((wrap64 (t111 * t116)) + (wrap64 (t112 * t117)))) != (wrap64 (t113 * t118)))) else (laws_FnLines.j1 kj12 t102 t105 t135 t138 true))) = some true := by rw [if_pos rfl] at H; exact H
       clear H
       have H := H1
       clear H1
       by_cases c168 : t118 < 1
       ·rw [if_pos c168] at H
        exact absurd H (laws_FnLines.j1_no _ _ _ _ _)
       ·rw [if_neg c168] at H
        have c168b0 : decide (t118 < 1) = false := decide_eq_false c168
        clear c168
        (first | rw [c168b0] | (simp only [i64_w, i32_w]; rw [c168b0]) | skip)
        by_cases c169 : (wrap64 ((wrap64 (t108 * t116)) + (wrap64 (t109 * t117)))) = (wrap64 (t110 * t118))
        ·rw [if_pos c169] at H
         have c169b0 : ((wrap64 ((wrap64 (t108 * t116)) + (wrap64 (t109 * t117)))) == (wrap64 (t110 * t118))) = true := beq_iff_eq.mpr c169
         have c169b1 : ((wrap64 ((wrap64 (t108 * t116)) + (wrap64 (t109 * t117)))) != (wrap64 (t110 * t118))) = false := bne_eq_false_iff_eq.mpr c169
         clear c169
         have H' := aM_ H
         clear H
         have hnb170 := NB114_115.out
         have hnc170 := NB115_114.out
         have hcz171_0 : wc.cell? ⟨gb114, 0, none⟩ = some (.int .i64 t108) := (blk_cell BK114.out 0).trans rfl
         have hcz171_1 : wc.cell? ⟨gb114, 1, none⟩ = some (.int .i64 t109) := (blk_cell BK114.out 1).trans rfl
         have hcz171_2 : wc.cell? ⟨gb114, 2, none⟩ = some (.int .i64 t110) := (blk_cell BK114.out 2).trans rfl
         have hfz171_0 := blk_frozen BK114.out 0
         have hfz171_1 := blk_frozen BK114.out 1
         have hfz171_2 := blk_frozen BK114.out 2
         have hcz172_0 : wc.cell? ⟨gb115, 0, none⟩ = some (.int .i64 t111) := (blk_cell BK115.out 0).trans rfl
         have hcz172_1 : wc.cell? ⟨gb115, 1, none⟩ = some (.int .i64 t112) := (blk_cell BK115.out 1).trans rfl
         have hcz172_2 : wc.cell? ⟨gb115, 2, none⟩ = some (.int .i64 t113) := (blk_cell BK115.out 2).trans rfl
         have hfz172_0 := blk_frozen BK115.out 0
         have hfz172_1 := blk_frozen BK115.out 1
         have hfz172_2 := blk_frozen BK115.out 2
         go_wp2
         go_meet
         case rel => exact ⟨_, (((wrap64 ((wrap64 (t111 * t116)) + (wrap64 (t112 * t117)))) != (wrap64 (t113 * t118)))), (by first | rfl | (simp; done) | (simp [*]; done)), H', ⟨by have := HJ12.out; first | omega | exact Nat.le_refl _⟩, ⟨by (with_reducible repeat (first | apply kA_ | apply kN_ | apply kD_)); exact HO_3.out⟩, ⟨by (with_reducible repeat (first | apply kA_ | apply kN_ | apply kD_)); exact HO_4.out⟩, ⟨by (with_reducible repeat (first | apply kA_ | apply kN_ | apply kD_)); exact HO_20.out⟩, ⟨by (with_reducible repeat (first | apply kA_ | apply kN_ | apply kD_)); exact HO_21.out⟩, ⟨by (with_reducible repeat (first | refine blk_drewN ?_ _ | refine blk_drew ?_ | refine blk_alloc ?_ _)); exact BK114.out⟩, ⟨by (with_reducible repeat (first | refine blk_drewN ?_ _ | refine blk_drew ?_ | refine blk_alloc ?_ _)); exact BK115.out⟩, ⟨by repeat (first | (with_reducible first | exact HB.out | apply bA_ | apply bN_ | apply bD_ | refine below_set ?_ GE114.out | refine below_set ?_ GE115.out) | exact HB.out)⟩⟩
        ·rw [if_neg c169] at H
         exact absurd H (laws_FnLines.j1_no _ _ _ _ _)
      ·replace c167 := Bool.eq_false_iff.mpr c167
       subst c167
       have H1 : (laws_FnLines.j1 kj12 t102 t105 t135 t138 false) = some true := by rw [if_neg (show ¬ (false = true) by decide)] at H; exact H
       clear H
       have H := H1
       clear H1
       have H' := aM_ H
       clear H
       go_wp2
       go_meet
       case rel => exact ⟨_, (false), (by first | rfl | (simp; done) | (simp [*]; done)), H', ⟨by have := HJ12.out; first | omega | exact Nat.le_refl _⟩, ⟨by (with_reducible repeat (first | apply kA_ | apply kN_ | apply kD_)); exact HO_3.out⟩, ⟨by (with_reducible repeat (first | apply kA_ | apply kN_ | apply kD_)); exact HO_4.out⟩, ⟨by (with_reducible repeat (first | apply kA_ | apply kN_ | apply kD_)); exact HO_20.out⟩, ⟨by (with_reducible repeat (first | apply kA_ | apply kN_ | apply kD_)); exact HO_21.out⟩, ⟨by (with_reducible repeat (first | refine blk_drewN ?_ _ | refine blk_drew ?_ | refine blk_alloc ?_ _)); exact BK114.out⟩, ⟨by (with_reducible repeat (first | refine blk_drewN ?_ _ | refine blk_drew ?_ | refine blk_alloc ?_ _)); exact BK115.out⟩, ⟨by repeat (first | (with_reducible first | exact HB.out | apply bA_ | apply bN_ | apply bD_ | refine below_set ?_ GE114.out | refine below_set ?_ GE115.out) | exact HB.out)⟩⟩
     case rest => as_aux_lemma =>
      clear HC166
      try clear c3
      try clear c33
      try clear c34
      try clear c34b0
      try clear c38
      try clear c38b0
      try clear c38b1
      try clear c39
      try clear c39b0
      try clear c39b1
      try clear c40
      try clear c40b0
      try clear c40b1
      try clear c43
      try clear c43b0
      try clear c51
      try clear c51b0
      try clear c51b1
      try clear c54
      try clear c57
      try clear c60
      try clear c60b0
      try clear c60b1
      try clear c63
      try clear c63b0
      try clear c63b1
      try clear c165
      try clear c167
      try clear c168
      try clear c168b0
      try clear c169
      try clear c169b0
      try clear c169b1
      try clear hcz171_0
      try clear hcz171_1
      try clear hcz171_2
      try clear hcz172_0
      try clear hcz172_1
      try clear hcz172_2
      try clear hcz21_0
      try clear hcz21_1
      try clear hcz21_2
      try clear hcz22_0
      try clear hcz22_1
      try clear hcz22_2
      try clear hcz24_0
      try clear hcz24_1
      try clear hcz24_2
      try clear hcz25_0
      try clear hcz25_1
      try clear hcz25_2
      try clear hfz171_0
      try clear hfz171_1
      try clear hfz171_2
      try clear hfz172_0
      try clear hfz172_1
      try clear hfz172_2
      try clear hfz21_0
      try clear hfz21_1
      try clear hfz21_2
      try clear hfz22_0
      try clear hfz22_1
      try clear hfz22_2
      try clear hfz24_0
      try clear hfz24_1
      try clear hfz24_2
      try clear hfz25_0
      try clear hfz25_1
      try clear hfz25_2
      obtain ⟨kq, x185_165, rfl, HA, HJ165, HO_3, HO_4, HO_20, HO_21, BK114, BK115, HB⟩ := hcut
      cases kq with
      | zero => exact absurd HA.out (by simp [laws_FnLines.j1])
      | succ kj165 =>
       have H := HA.out
       clear HA
       simp only [laws_FnLines.j1] at H
       by_cases c175 : x185_165 = true
       ·subst c175
        have H1 : (some false) = some true := by rw [if_pos rfl] at H; exact H
        clear H
        have H := H1
        clear H1
        exact absurd H (by simp)
       ·replace c175 := Bool.eq_false_iff.mpr c175
        subst c175
        have H1 : ((spec_AreLines.f kj165 t102).bind fun t163 => (if t163 = true then (laws_FnLines.l0 kj165 t102 t105 t135 t138 (t102.length : Int) 0 0) else (if (t105.length : Int) = 0 then (if (t138.length : Int) = 0 then ((impl_CountRegions.f kj165 t102).bind fun t164 => (some (t164 == (-1)))) else (some false)) else (some false)))) = some true := by rw [if_neg (show ¬ (false = true) by decide)] at H; exact H
        clear H
        have H := H1
        clear H1
        replace H := oB_ H
        obtain ⟨t163, A1760, H⟩ := H
        replace H : (if t163 = true then (laws_FnLines.l0 kj165 t102 t105 t135 t138 (t102.length : Int) 0 0) else (if (t105.length : Int) = 0 then (if (t138.length : Int) = 0 then ((impl_CountRegions.f kj165 t102).bind fun t164 => (some (t164 == (-1)))) else (some false)) else (some false))) = some true := H
        have A176 := aM_ A1760
        clear A1760
        by_cases c177 : t163 = true
        ·subst c177
         have H1 : (laws_FnLines.l0 kj165 t102 t105 t135 t138 (t102.length : Int) 0 0) = some true := by rw [if_pos rfl] at H; exact H
         clear H
         have H := H1
         clear H1
         have H' := aM_ H
         clear H
         go_wp2_with (first | ((with_reducible refine gate_callee (f := 53) rfl ?_); refine goesL_ (some 187) rfl rfl Try.func53 (by kernel_rfl) rfl #[.slice Ao15 t102.length co15] rfl (by (try simp only [List.map_toArray, List.map_cons, List.map_nil]); first | done | rfl | (simp only [List.length_drop, List.length_take]; rfl)) ?_; (with_reducible refine (spec_AreLines.calls kj165 _ _ t102 true _ ?side1 ?side2 A176.out).mono ?_); (case side1 => repeat (first | exact (Kd.R_reads' HO_3.out).2.2 | (with_reducible refine Kd.C_alloc ?_ _) | (with_reducible refine Kd.C_drewN ?_ _) | (with_reducible refine Kd.C_drew ?_))); (case side2 => exact (Kd.R_reads' HO_3.out).2.1); rintro e w178 ⟨rfl, hb⟩; refine ⟨_, rfl, ?_⟩; have n0_ := aM_ (Kd.R_below (by (with_reducible repeat (first | apply kA_ | apply kN_ | apply kD_)); exact HO_3.out) hb); have n1_ := aM_ (Kd.R_below (by (with_reducible repeat (first | apply kA_ | apply kN_ | apply kD_)); exact HO_4.out) hb); have n2_ := aM_ (Kd.R_below (by (with_reducible repeat (first | apply kA_ | apply kN_ | apply kD_)); exact HO_20.out) hb); have n3_ := aM_ (Kd.R_below (by (with_reducible repeat (first | apply kA_ | apply kN_ | apply kD_)); exact HO_21.out) hb); have n4_ := aM_ (blk_below (g := gb114) (o := .cells #[.int .i64 t108, .int .i64 t109, .int .i64 t110] 40 (0, 0)) (by (with_reducible repeat (first | refine blk_drewN ?_ _ | refine blk_drew ?_ | refine blk_alloc ?_ _)); exact BK114.out) hb); have n5_ := aM_ (blk_below (g := gb115) (o := .cells #[.int .i64 t111, .int .i64 t112, .int .i64 t113] 40 (0, 0)) (by (with_reducible repeat (first | refine blk_drewN ?_ _ | refine blk_drew ?_ | refine blk_alloc ?_ _)); exact BK115.out) hb); have n6_ := aM_ (below_step (by repeat (first | (with_reducible first | exact HB.out | apply bA_ | apply bN_ | apply bD_ | refine below_set ?_ GE114.out | refine below_set ?_ GE115.out) | exact HB.out)) hb); clear HO_3; clear HO_4; clear HO_20; clear HO_21; clear BK114; clear BK115; clear HB; have HO_3 := n0_; have HO_4 := n1_; have HO_20 := n2_; have HO_21 := n3_; have BK114 := n4_; have BK115 := n5_; have HB := n6_; clear n0_ n1_ n2_ n3_ n4_ n5_ n6_; (try clear hb); (try clear hb2); (try clear hk); (try clear hi)))
         go_loopg [23, 24] kj165 (fun kq v23 v24 w' => ∃ (x23_3 : Int) (x24_3 : Int), v23 = .int .i64 x23_3 ∧ v24 = .int .i64 x24_3 ∧ Aside0 (laws_FnLines.l0 kq t102 t105 t135 t138 (t102.length : Int) x23_3 x24_3 = some true) ∧ Aside0 (kq ≤ kj165) ∧ Aside0 (Kd.R k40 40 w' w.heap.size (fun k_ => k_ ≠ gb114 ∧ k_ ≠ gb115) (.slice Ao15 t102.length co15) t102) ∧ Aside0 (Kd.R (Kd.int .i64) 3 w' w.heap.size (fun k_ => some k_ ≠ (v136 : Value).ownBlock ∧ some k_ ≠ (v139 : Value).ownBlock) v106 t105) ∧ Aside0 (Kd.R (Kd.int .i64) 3 w' w.heap.size (fun k_ => some k_ ≠ (v106 : Value).ownBlock ∧ some k_ ≠ (v139 : Value).ownBlock) v136 t135) ∧ Aside0 (Kd.R (Kd.int .i64) 3 w' w.heap.size (fun k_ => some k_ ≠ (v106 : Value).ownBlock ∧ some k_ ≠ (v136 : Value).ownBlock) v139 t138) ∧ Aside0 (w'.heap[gb114]? = some (.cells #[.int .i64 t108, .int .i64 t109, .int .i64 t110] 40 (0, 0))) ∧ Aside0 (w'.heap[gb115]? = some (.cells #[.int .i64 t111, .int .i64 t112, .int .i64 t113] 40 (0, 0))) ∧ Aside0 (Below w.heap.size w w'))
         case atStart => exact ⟨(0), (0), (by first | rfl | (simp; done) | (simp [*]; done)), (by first | rfl | (simp; done) | (simp [*]; done)), H', ⟨Nat.le_refl _⟩, ⟨by (with_reducible repeat (first | apply kA_ | apply kN_ | apply kD_)); exact HO_3.out⟩, ⟨by (with_reducible repeat (first | apply kA_ | apply kN_ | apply kD_)); exact HO_4.out⟩, ⟨by (with_reducible repeat (first | apply kA_ | apply kN_ | apply kD_)); exact HO_20.out⟩, ⟨by (with_reducible repeat (first | apply kA_ | apply kN_ | apply kD_)); exact HO_21.out⟩, ⟨by (with_reducible repeat (first | refine blk_drewN ?_ _ | refine blk_drew ?_ | refine blk_alloc ?_ _)); exact BK114.out⟩, ⟨by (with_reducible repeat (first | refine blk_drewN ?_ _ | refine blk_drew ?_ | refine blk_alloc ?_ _)); exact BK115.out⟩, ⟨by repeat (first | (with_reducible first | exact HB.out | apply bA_ | apply bN_ | apply bD_ | refine below_set ?_ GE114.out | refine below_set ?_ GE115.out) | exact HB.out)⟩⟩
         case round => as_aux_lemma =>
          clear H'
          try clear c3
          try clear c33
          try clear c34
          try clear c34b0
          try clear c38
          try clear c38b0
          try clear c38b1
          try clear c39
          try clear c39b0
          try clear c39b1
          try clear c40
          try clear c40b0
          try clear c40b1
          try clear c43
          try clear c43b0
          try clear c51
          try clear c51b0
          try clear c51b1
          try clear c54
          try clear c57
          try clear c60
          try clear c60b0
          try clear c60b1
          try clear c63
          try clear c63b0
          try clear c63b1
          try clear c165
          try clear c167
          try clear c168
          try clear c168b0
          try clear c169
          try clear c169b0
          try clear c169b1
          try clear c175
          try clear c177
          try clear hcz171_0
          try clear hcz171_1
          try clear hcz171_2
          try clear hcz172_0
          try clear hcz172_1
          try clear hcz172_2
          try clear hcz21_0
          try clear hcz21_1
          try clear hcz21_2
          try clear hcz22_0
          try clear hcz22_1
          try clear hcz22_2
          try clear hcz24_0
          try clear hcz24_1
          try clear hcz24_2
          try clear hcz25_0
          try clear hcz25_1
          try clear hcz25_2
          try clear hfz171_0
          try clear hfz171_1
          try clear hfz171_2
          try clear hfz172_0
          try clear hfz172_1
          try clear hfz172_2
          try clear hfz21_0
          try clear hfz21_1
          try clear hfz21_2
          try clear hfz22_0
          try clear hfz22_1
          try clear hfz22_2
          try clear hfz24_0
          try clear hfz24_1
          try clear hfz24_2
          try clear hfz25_0
          try clear hfz25_1
          try clear hfz25_2
          obtain ⟨x23_3, x24_3, rfl, rfl, HA, HK3, HO_3, HO_4, HO_20, HO_21, BK114, BK115, HB⟩ := hrel
          cases gk with
          | zero => exact absurd HA.out (by simp [laws_FnLines.l0])
          | succ k3 =>
           have H := HA.out
           clear HA
           simp only [laws_FnLines.l0] at H
           by_cases c179 : x24_3 < (t105.length : Int)
           ·rw [if_pos c179] at H
            have c179b0 : decide (x24_3 < (t105.length : Int)) = true := decide_eq_true c179
            clear c179
            by_cases c180 : 0 ≤ x24_3
            ·rw [if_pos c180] at H
             have c180b0 : decide (0 ≤ x24_3) = true := decide_eq_true c180
             clear c180
             have H' := aM_ H
             clear H
             obtain ⟨Ao181, co181, eo181⟩ := Kd.R_slice HO_4.out
             subst eo181
             try go_wp2
             have n0_ := aM_ (kD_ HO_3.out)
             have n1_ := aM_ (kD_ HO_4.out)
             have n2_ := aM_ (kD_ HO_20.out)
             have n3_ := aM_ (kD_ HO_21.out)
             have n4_ := aM_ (blk_drew BK114.out)
             have n5_ := aM_ (blk_drew BK115.out)
             have n6_ := aM_ (bD_ HB.out)
             clear HO_3
             clear HO_4
             clear HO_20
             clear HO_21
             clear BK114
             clear BK115
             clear HB
             have HO_3 := n0_
             have HO_4 := n1_
             have HO_20 := n2_
             have HO_21 := n3_
             have BK114 := n4_
             have BK115 := n5_
             have HB := n6_
             clear n0_ n1_ n2_ n3_ n4_ n5_ n6_
             have p165 : 0 ≤ (x24_3 : Int) := of_decide_eq_true (by first | (with_reducible assumption) | assumption)
             have q165 : x24_3 < (t105.length : Int) := of_decide_eq_true (by first | (with_reducible assumption) | assumption)
             obtain ⟨ad165, e165, hx165_0⟩ := Kd.at_int (Kd.R_reads' HO_4.out).2.2 x24_3 p165 q165
             cases e165
             replace p165 := eq_true p165
             replace q165 := eq_true q165
             have p166 : 0 ≤ (x24_3 : Int) := of_decide_eq_true (by first | (with_reducible assumption) | assumption)
             have q166 : x24_3 < (t105.length : Int) := of_decide_eq_true (by first | (with_reducible assumption) | assumption)
             obtain ⟨ad166, e166, hx166_0⟩ := Kd.at_int (Kd.R_reads' HO_4.out).2.2 x24_3 p166 q166
             obtain rfl : ad165 = ad166 := (by injection e166)
             replace p166 := eq_true p166
             replace q166 := eq_true q166
             refine start_ (n := 14) (S := fun w' => w'.cell? (ad165.add (x24_3).toNat) = some (.int .i64 (rd t105 x24_3)) ∧ w'.cell? (ad165.add (x24_3).toNat) = some (.int .i64 (rd t105 x24_3))) (ds := []) (bm 14 0) (by kernel_rfl) rfl rfl ⟨hx165_0, hx166_0⟩ (fun hHeld => ?_); refine with_tabW laws_FnLines.tab23 laws_FnLines.bits23 (fun HT_ HW_ => ?_)
             generalize wr.drew = w182 at HO_3 HO_4 HO_20 HO_21 BK114 BK115 HB hx165_0 hx166_0 hHeld ⊢
             refine plan_ ((0, 0, 210, 1) :: (0, 1, 211, 3) :: (0, 2, 212, 7) :: (0, 3, 213, 15) :: (0, 5, 215, 47) :: (0, 6, 216, 111) :: (0, 7, 217, 239) :: (2, 4, 214, 255) :: (2, 8, 218, 511) :: (0, 9, 219, 1023) :: (0, 10, 220, 2047) :: (0, 11, 221, 4095) :: (0, 12, 222, 8191) :: (0, 13, 23, 16383) :: []) ?_
             iterate 14 (first | (refine planV_ ?_ ?_ rfl rfl (any_of HT_.out (by kernel_rfl)) (fun _ _ _ h => h) (Or.inl ⟨by rfl, ?_⟩) ?_ ?_; rotate_left 2; (· intro w'; go_simp; with_reducible rfl); (· simp only [Act.put, List.setIfInBounds_toArray, List.set_cons_zero, List.set_cons_succ, i64_w, i32_w]; rfl)) | (refine planT_ ?_ ?_ rfl rfl (take_ofW HT_.out HW_.out (by kernel_rfl)) (fun _ _ _ h => h) (Or.inl ⟨by rfl, ?_⟩) hHeld ?_ ?_; rotate_left 2; (· rintro w' ⟨s0, s1⟩; go_simp; with_reducible rfl); (· simp only [Act.put, List.setIfInBounds_toArray, List.set_cons_zero, List.set_cons_succ, i64_w, i32_w]; rfl)))
             refine planEnd_ ?_
             refine done_ (done_of HT_.out (by kernel_rfl)) ?_
             try go_wp2
             go_roundg k3
             case measure => have := HJ12.out; have := HJ165.out; have := HK3.out; omega
             case rel => exact ⟨(wrap64 (x23_3 + (wrap64 (Int.tdiv (wrap64 ((rd t105 x24_3) * (wrap64 ((rd t105 x24_3) - 1)))) 2)))), (wrap64 (x24_3 + 1)), (by first | rfl | (simp; done) | (simp [*]; done)), (by first | rfl | (simp; done) | (simp [*]; done)), H', ⟨by have := HJ12.out; have := HJ165.out; have := HK3.out; omega⟩, ⟨by (with_reducible repeat (first | apply kA_ | apply kN_ | apply kD_)); exact HO_3.out⟩, ⟨by (with_reducible repeat (first | apply kA_ | apply kN_ | apply kD_)); exact HO_4.out⟩, ⟨by (with_reducible repeat (first | apply kA_ | apply kN_ | apply kD_)); exact HO_20.out⟩, ⟨by (with_reducible repeat (first | apply kA_ | apply kN_ | apply kD_)); exact HO_21.out⟩, ⟨by (with_reducible repeat (first | refine blk_drewN ?_ _ | refine blk_drew ?_ | refine blk_alloc ?_ _)); exact BK114.out⟩, ⟨by (with_reducible repeat (first | refine blk_drewN ?_ _ | refine blk_drew ?_ | refine blk_alloc ?_ _)); exact BK115.out⟩, ⟨by repeat (first | (with_reducible first | exact HB.out | apply bA_ | apply bN_ | apply bD_ | refine below_set ?_ GE114.out | refine below_set ?_ GE115.out) | exact HB.out)⟩⟩
            ·rw [if_neg c180] at H
             exact absurd H (by simp)
           ·rw [if_neg c179] at H
            have c179b0 : decide (x24_3 < (t105.length : Int)) = false := decide_eq_false c179
            clear c179
            have H' := aM_ H
            clear H
            obtain ⟨Ao183, co183, eo183⟩ := Kd.R_slice HO_4.out
            subst eo183
            go_wp2
            go_loopg [25, 26] k3 (fun kq v25 v26 w' => ∃ (x25_4 : Int) (x26_4 : Int), v25 = .int .i64 x25_4 ∧ v26 = .int .i64 x26_4 ∧ Aside0 (laws_FnLines.l1 kq t102 t105 t135 t138 (t102.length : Int) x23_3 x25_4 x26_4 = some true) ∧ Aside0 (kq ≤ k3) ∧ Aside0 (Kd.R k40 40 w' w.heap.size (fun k_ => k_ ≠ gb114 ∧ k_ ≠ gb115) (.slice Ao15 t102.length co15) t102) ∧ Aside0 (Kd.R (Kd.int .i64) 3 w' w.heap.size (fun k_ => some k_ ≠ (v136 : Value).ownBlock ∧ some k_ ≠ (v139 : Value).ownBlock) (.slice Ao183 t105.length co183) t105) ∧ Aside0 (Kd.R (Kd.int .i64) 3 w' w.heap.size (fun k_ => some k_ ≠ ((.slice Ao183 t105.length co183) : Value).ownBlock ∧ some k_ ≠ (v139 : Value).ownBlock) v136 t135) ∧ Aside0 (Kd.R (Kd.int .i64) 3 w' w.heap.size (fun k_ => some k_ ≠ ((.slice Ao183 t105.length co183) : Value).ownBlock ∧ some k_ ≠ (v136 : Value).ownBlock) v139 t138) ∧ Aside0 (w'.heap[gb114]? = some (.cells #[.int .i64 t108, .int .i64 t109, .int .i64 t110] 40 (0, 0))) ∧ Aside0 (w'.heap[gb115]? = some (.cells #[.int .i64 t111, .int .i64 t112, .int .i64 t113] 40 (0, 0))) ∧ Aside0 (Below w.heap.size w w'))
            case atStart => exact ⟨(0), (0), (by first | rfl | (simp; done) | (simp [*]; done)), (by first | rfl | (simp; done) | (simp [*]; done)), H', ⟨Nat.le_refl _⟩, ⟨by (with_reducible repeat (first | apply kA_ | apply kN_ | apply kD_)); exact HO_3.out⟩, ⟨by (with_reducible repeat (first | apply kA_ | apply kN_ | apply kD_)); exact HO_4.out⟩, ⟨by (with_reducible repeat (first | apply kA_ | apply kN_ | apply kD_)); exact HO_20.out⟩, ⟨by (with_reducible repeat (first | apply kA_ | apply kN_ | apply kD_)); exact HO_21.out⟩, ⟨by (with_reducible repeat (first | refine blk_drewN ?_ _ | refine blk_drew ?_ | refine blk_alloc ?_ _)); exact BK114.out⟩, ⟨by (with_reducible repeat (first | refine blk_drewN ?_ _ | refine blk_drew ?_ | refine blk_alloc ?_ _)); exact BK115.out⟩, ⟨by repeat (first | (with_reducible first | exact HB.out | apply bA_ | apply bN_ | apply bD_ | refine below_set ?_ GE114.out | refine below_set ?_ GE115.out) | exact HB.out)⟩⟩
            case round => as_aux_lemma =>
             clear H'
             try clear c3
             try clear c33
             try clear c34
             try clear c34b0
             try clear c38
             try clear c38b0
             try clear c38b1
             try clear c39
             try clear c39b0
             try clear c39b1
             try clear c40
             try clear c40b0
             try clear c40b1
             try clear c43
             try clear c43b0
             try clear c51
             try clear c51b0
             try clear c51b1
             try clear c54
             try clear c57
             try clear c60
             try clear c60b0
             try clear c60b1
             try clear c63
             try clear c63b0
             try clear c63b1
             try clear c165
             try clear p165
             try clear q165
             try clear p166
             try clear q166
             try clear c167
             try clear c168
             try clear c168b0
             try clear c169
             try clear c169b0
             try clear c169b1
             try clear c175
             try clear c177
             try clear c179
             try clear c179b0
             try clear c180
             try clear c180b0
             try clear hcz171_0
             try clear hcz171_1
             try clear hcz171_2
             try clear hcz172_0
             try clear hcz172_1
             try clear hcz172_2
             try clear hcz21_0
             try clear hcz21_1
             try clear hcz21_2
             try clear hcz22_0
             try clear hcz22_1
             try clear hcz22_2
             try clear hcz24_0
             try clear hcz24_1
             try clear hcz24_2
             try clear hcz25_0
             try clear hcz25_1
             try clear hcz25_2
             try clear hfz171_0
             try clear hfz171_1
             try clear hfz171_2
             try clear hfz172_0
             try clear hfz172_1
             try clear hfz172_2
             try clear hfz21_0
             try clear hfz21_1
             try clear hfz21_2
             try clear hfz22_0
             try clear hfz22_1
             try clear hfz22_2
             try clear hfz24_0
             try clear hfz24_1
             try clear hfz24_2
             try clear hfz25_0
             try clear hfz25_1
             try clear hfz25_2
             try clear hx165_0
             try clear hx166_0
             try clear p165
             try clear p166
             try clear q165
             try clear q166
             obtain ⟨x25_4, x26_4, rfl, rfl, HA, HK4, HO_3, HO_4, HO_20, HO_21, BK114, BK115, HB⟩ := hrel
             cases gk with
             | zero => exact absurd HA.out (by simp [laws_FnLines.l1])
             | succ k4 =>
              have H := HA.out
              clear HA
              simp only [laws_FnLines.l1] at H
              by_cases c184 : x26_4 < (t135.length : Int)
              ·rw [if_pos c184] at H
               have c184b0 : decide (x26_4 < (t135.length : Int)) = true := decide_eq_true c184
               clear c184
               by_cases c185 : 0 ≤ x26_4
               ·rw [if_pos c185] at H
                have c185b0 : decide (0 ≤ x26_4) = true := decide_eq_true c185
                clear c185
                have H' := aM_ H
                clear H
                obtain ⟨Ao186, co186, eo186⟩ := Kd.R_slice HO_20.out
                subst eo186
                try go_wp2
                have n0_ := aM_ (kD_ HO_3.out)
                have n1_ := aM_ (kD_ HO_4.out)
                have n2_ := aM_ (kD_ HO_20.out)
                have n3_ := aM_ (kD_ HO_21.out)
                have n4_ := aM_ (blk_drew BK114.out)
                have n5_ := aM_ (blk_drew BK115.out)
                have n6_ := aM_ (bD_ HB.out)
                clear HO_3
                clear HO_4
                clear HO_20
                clear HO_21
                clear BK114
                clear BK115
                clear HB
                have HO_3 := n0_
                have HO_4 := n1_
                have HO_20 := n2_
                have HO_21 := n3_
                have BK114 := n4_
                have BK115 := n5_
                have HB := n6_
                clear n0_ n1_ n2_ n3_ n4_ n5_ n6_
                have p167 : 0 ≤ (x26_4 : Int) := of_decide_eq_true (by first | (with_reducible assumption) | assumption)
                have q167 : x26_4 < (t135.length : Int) := of_decide_eq_true (by first | (with_reducible assumption) | assumption)
                obtain ⟨ad167, e167, hx167_0⟩ := Kd.at_int (Kd.R_reads' HO_20.out).2.2 x26_4 p167 q167
                cases e167
                replace p167 := eq_true p167
                replace q167 := eq_true q167
                have p168 : 0 ≤ (x26_4 : Int) := of_decide_eq_true (by first | (with_reducible assumption) | assumption)
                have q168 : x26_4 < (t135.length : Int) := of_decide_eq_true (by first | (with_reducible assumption) | assumption)
                obtain ⟨ad168, e168, hx168_0⟩ := Kd.at_int (Kd.R_reads' HO_20.out).2.2 x26_4 p168 q168
                obtain rfl : ad167 = ad168 := (by injection e168)
                replace p168 := eq_true p168
                replace q168 := eq_true q168
                refine start_ (n := 14) (S := fun w' => w'.cell? (ad167.add (x26_4).toNat) = some (.int .i64 (rd t135 x26_4)) ∧ w'.cell? (ad167.add (x26_4).toNat) = some (.int .i64 (rd t135 x26_4))) (ds := []) (bm 14 0) (by kernel_rfl) rfl rfl ⟨hx167_0, hx168_0⟩ (fun hHeld => ?_); refine with_tabW laws_FnLines.tab28 laws_FnLines.bits28 (fun HT_ HW_ => ?_)
                generalize wr.drew = w187 at HO_3 HO_4 HO_20 HO_21 BK114 BK115 HB hx167_0 hx168_0 hHeld ⊢
                refine plan_ ((0, 0, 229, 1) :: (0, 1, 230, 3) :: (0, 2, 231, 7) :: (0, 3, 232, 15) :: (0, 5, 234, 47) :: (0, 6, 235, 111) :: (0, 7, 236, 239) :: (2, 4, 233, 255) :: (2, 8, 237, 511) :: (0, 9, 238, 1023) :: (0, 10, 239, 2047) :: (0, 11, 240, 4095) :: (0, 12, 241, 8191) :: (0, 13, 25, 16383) :: []) ?_
                iterate 14 (first | (refine planV_ ?_ ?_ rfl rfl (any_of HT_.out (by kernel_rfl)) (fun _ _ _ h => h) (Or.inl ⟨by rfl, ?_⟩) ?_ ?_; rotate_left 2; (· intro w'; go_simp; with_reducible rfl); (· simp only [Act.put, List.setIfInBounds_toArray, List.set_cons_zero, List.set_cons_succ, i64_w, i32_w]; rfl)) | (refine planT_ ?_ ?_ rfl rfl (take_ofW HT_.out HW_.out (by kernel_rfl)) (fun _ _ _ h => h) (Or.inl ⟨by rfl, ?_⟩) hHeld ?_ ?_; rotate_left 2; (· rintro w' ⟨s0, s1⟩; go_simp; with_reducible rfl); (· simp only [Act.put, List.setIfInBounds_toArray, List.set_cons_zero, List.set_cons_succ, i64_w, i32_w]; rfl)))
                refine planEnd_ ?_
                refine done_ (done_of HT_.out (by kernel_rfl)) ?_
                try go_wp2
                go_roundg k4
                case measure => have := HJ12.out; have := HJ165.out; have := HK3.out; have := HK4.out; omega
                case rel => exact ⟨(wrap64 (x25_4 + (wrap64 (Int.tdiv (wrap64 ((rd t135 x26_4) * (wrap64 ((rd t135 x26_4) - 1)))) 2)))), (wrap64 (x26_4 + 1)), (by first | rfl | (simp; done) | (simp [*]; done)), (by first | rfl | (simp; done) | (simp [*]; done)), H', ⟨by have := HJ12.out; have := HJ165.out; have := HK3.out; have := HK4.out; omega⟩, ⟨by (with_reducible repeat (first | apply kA_ | apply kN_ | apply kD_)); exact HO_3.out⟩, ⟨by (with_reducible repeat (first | apply kA_ | apply kN_ | apply kD_)); exact HO_4.out⟩, ⟨by (with_reducible repeat (first | apply kA_ | apply kN_ | apply kD_)); exact HO_20.out⟩, ⟨by (with_reducible repeat (first | apply kA_ | apply kN_ | apply kD_)); exact HO_21.out⟩, ⟨by (with_reducible repeat (first | refine blk_drewN ?_ _ | refine blk_drew ?_ | refine blk_alloc ?_ _)); exact BK114.out⟩, ⟨by (with_reducible repeat (first | refine blk_drewN ?_ _ | refine blk_drew ?_ | refine blk_alloc ?_ _)); exact BK115.out⟩, ⟨by repeat (first | (with_reducible first | exact HB.out | apply bA_ | apply bN_ | apply bD_ | refine below_set ?_ GE114.out | refine below_set ?_ GE115.out) | exact HB.out)⟩⟩
               ·rw [if_neg c185] at H
                exact absurd H (by simp)
              ·rw [if_neg c184] at H
               have c184b0 : decide (x26_4 < (t135.length : Int)) = false := decide_eq_false c184
               clear c184
               have HC188 := aM_ H
               clear H
               obtain ⟨Ao189, co189, eo189⟩ := Kd.R_slice HO_20.out
               subst eo189
               go_upto_region 29 with (fail)
               go_cut [277] (fun v277 wc => ∃ (kq : Nat) (x277_187 : Bool), v277 = .bool x277_187 ∧ Aside0 (laws_FnLines.j4 kq t102 t105 t138 x277_187 = some true) ∧ Aside0 (kq ≤ k4) ∧ Aside0 (Kd.R k40 40 wc w.heap.size (fun k_ => k_ ≠ gb114 ∧ k_ ≠ gb115) (.slice Ao15 t102.length co15) t102) ∧ Aside0 (Kd.R (Kd.int .i64) 3 wc w.heap.size (fun k_ => some k_ ≠ (v139 : Value).ownBlock) (.slice Ao183 t105.length co183) t105) ∧ Aside0 (Kd.R (Kd.int .i64) 3 wc w.heap.size (fun k_ => some k_ ≠ ((.slice Ao183 t105.length co183) : Value).ownBlock) v139 t138) ∧ Aside0 (wc.heap[gb114]? = some (.cells #[.int .i64 t108, .int .i64 t109, .int .i64 t110] 40 (0, 0))) ∧ Aside0 (wc.heap[gb115]? = some (.cells #[.int .i64 t111, .int .i64 t112, .int .i64 t113] 40 (0, 0))) ∧ Aside0 (Below w.heap.size w wc))
               case first => as_aux_lemma =>
                have H := HC188.out
                clear HC188
                by_cases c190 : (wrap64 (x23_3 + x25_4)) = (wrap64 (Int.tdiv (wrap64 ((t102.length : Int) * (wrap64 ((t102.length : Int) - 1)))) 2))
                ·rw [if_pos c190] at H
                 have c190b0 : ((wrap64 (x23_3 + x25_4)) == (wrap64 (Int.tdiv (wrap64 ((t102.length : Int) * (wrap64 ((t102.length : Int) - 1)))) 2))) = true := beq_iff_eq.mpr c190
                 have c190b1 : ((wrap64 (x23_3 + x25_4)) != (wrap64 (Int.tdiv (wrap64 ((t102.length : Int) * (wrap64 ((t102.length : Int) - 1)))) 2))) = false := bne_eq_false_iff_eq.mpr c190
                 clear c190
                 (first | rw [c190b0] | (simp only [i64_w, i32_w]; rw [c190b0]) | skip)
                 replace H := oB_ H
                 obtain ⟨t169, A1910, H⟩ := H
                 replace H : (if t169 = (t102.length : Int) then (if (t138.length : Int) = 3 then ((impl_CountRegions.f k4 t102).bind fun t170 => (if 0 < (t138.length : Int) then (if 1 < (t138.length : Int) then (if 2 < (t138.length : Int) then (laws_FnLines.j4 k4 t102 t105 t138 (t170 != (wrap64 ((wrap64 ((rd t138 0) - (rd t138 1))) + (rd t138 2))))) else (none)) else (none)) else (none))) else (laws_FnLines.j4 k4 t102 t105 t138 true)) else (laws_FnLines.j4 k4 t102 t105 t138 true)) = some true := H
                 have A191 := aM_ A1910
                 clear A1910
                 by_cases c192 : t169 = (t102.length : Int)
                 ·rw [if_pos c192] at H
                  have c192b0 : (t169 == (t102.length : Int)) = true := beq_iff_eq.mpr c192
                  have c192b1 : (t169 != (t102.length : Int)) = false := bne_eq_false_iff_eq.mpr c192
                  clear c192
                  by_cases c193 : (t138.length : Int) = 3
                  ·rw [if_pos c193] at H
                   have c193b0 : ((t138.length : Int) == 3) = true := beq_iff_eq.mpr c193
                   have c193b1 : ((t138.length : Int) != 3) = false := bne_eq_false_iff_eq.mpr c193
                   clear c193
                   replace H := oB_ H
                   obtain ⟨t170, A1940, H⟩ := H
                   replace H : (if 0 < (t138.length : Int) then (if 1 < (t138.length : Int) then (if 2 < (t138.length : Int) then (laws_FnLines.j4 k4 t102 t105 t138 (t170 != (wrap64 ((wrap64 ((rd t138 0) - (rd t138 1))) + (rd t138 2))))) else (none)) else (none)) else (none)) = some true := H
                   have A194 := aM_ A1940
                   clear A1940
                   by_cases c195 : 0 < (t138.length : Int)
                   ·rw [if_pos c195] at H
                    have c195b0 : decide (0 < (t138.length : Int)) = true := decide_eq_true c195
                    have c195b1 : decide (0 < t138.length) = true := decide_eq_true (by omega)
                    clear c195
                    by_cases c196 : 1 < (t138.length : Int)
                    ·rw [if_pos c196] at H
                     have c196b0 : decide (1 < (t138.length : Int)) = true := decide_eq_true c196
                     have c196b1 : decide (1 < t138.length) = true := decide_eq_true (by omega)
                     clear c196
                     by_cases c197 : 2 < (t138.length : Int)
                     ·rw [if_pos c197] at H
                      have c197b0 : decide (2 < (t138.length : Int)) = true := decide_eq_true c197
                      have c197b1 : decide (2 < t138.length) = true := decide_eq_true (by omega)
                      clear c197
                      have H' := aM_ H
                      clear H
                      try go_wp2
                      have n0_ := aM_ (kD_ HO_3.out)
                      have n1_ := aM_ (kD_ HO_4.out)
                      have n2_ := aM_ (kD_ HO_20.out)
                      have n3_ := aM_ (kD_ HO_21.out)
                      have n4_ := aM_ (blk_drew BK114.out)
                      have n5_ := aM_ (blk_drew BK115.out)
                      have n6_ := aM_ (bD_ HB.out)
                      clear HO_3
                      clear HO_4
                      clear HO_20
                      clear HO_21
                      clear BK114
                      clear BK115
                      clear HB
                      have HO_3 := n0_
                      have HO_4 := n1_
                      have HO_20 := n2_
                      have HO_21 := n3_
                      have BK114 := n4_
                      have BK115 := n5_
                      have HB := n6_
                      clear n0_ n1_ n2_ n3_ n4_ n5_ n6_
                      have p171 : 0 ≤ (0 : Int) := (by omega)
                      have q171 : 0 < (t138.length : Int) := of_decide_eq_true (by first | (with_reducible assumption) | assumption)
                      obtain ⟨Aoz_, coz_, eoz_⟩ := Kd.R_slice HO_21.out
                      subst eoz_
                      obtain ⟨ad171, e171, hx171_0⟩ := Kd.at_int (Kd.R_reads' HO_21.out).2.2 0 p171 q171
                      cases e171
                      have qi171 : (0 < t138.length) = True := eq_true (by omega)
                      (try rw [show ((0 : Int)).toNat = 0 from rfl] at hx171_0)
                      (try rw [Addr.add_zero'] at hx171_0)
                      replace p171 := eq_true p171
                      replace q171 := eq_true q171
                      have p172 : 0 ≤ (1 : Int) := (by omega)
                      have q172 : 1 < (t138.length : Int) := of_decide_eq_true (by first | (with_reducible assumption) | assumption)
                      obtain ⟨ad172, e172, hx172_0⟩ := Kd.at_int (Kd.R_reads' HO_21.out).2.2 1 p172 q172
                      obtain rfl : ad171 = ad172 := (by injection e172)
                      (try simp only [show (1 : Int).toNat = 1 from rfl, Nat.reduceMul, Nat.reduceEqDiff, Go.Addr.add, ↓reduceIte] at hx172_0)
                      have qi172 : (1 < t138.length) = True := eq_true (by omega)
                      (try rw [show ((1 : Int)).toNat = 1 from rfl] at hx172_0)
                      replace p172 := eq_true p172
                      replace q172 := eq_true q172
                      have p173 : 0 ≤ (2 : Int) := (by omega)
                      have q173 : 2 < (t138.length : Int) := of_decide_eq_true (by first | (with_reducible assumption) | assumption)
                      obtain ⟨ad173, e173, hx173_0⟩ := Kd.at_int (Kd.R_reads' HO_21.out).2.2 2 p173 q173
                      obtain rfl : ad171 = ad173 := (by injection e173)
                      (try simp only [show (2 : Int).toNat = 2 from rfl, Nat.reduceMul, Nat.reduceEqDiff, Go.Addr.add, ↓reduceIte] at hx173_0)
                      have qi173 : (2 < t138.length) = True := eq_true (by omega)
                      (try rw [show ((2 : Int)).toNat = 2 from rfl] at hx173_0)
                      replace p173 := eq_true p173
                      replace q173 := eq_true q173
                      refine start_ (n := 36) (S := fun w' => w'.cell? ad171 = some (.int .i64 (rd t138 0)) ∧ w'.cell? ⟨ad171.block, ad171.off + 1, none⟩ = some (.int .i64 (rd t138 1)) ∧ w'.cell? ⟨ad171.block, ad171.off + 2, none⟩ = some (.int .i64 (rd t138 2))) (ds := []) (bm 36 0) (by kernel_rfl) rfl rfl ⟨hx171_0, hx172_0, hx173_0⟩ (fun hHeld => ?_); refine with_tabW laws_FnLines.tab29 laws_FnLines.bits29 (fun HT_ HW_ => ?_)
                      generalize wr.drew = w198 at HO_3 HO_4 HO_20 HO_21 BK114 BK115 HB hx171_0 hx172_0 hx173_0 hHeld ⊢
                      refine plan_ ((0, 0, 242, 1) :: (0, 1, 243, 3) :: (0, 2, 244, 7) :: (0, 3, 245, 15) :: (0, 4, 246, 31) :: (0, 5, 247, 63) :: (0, 6, 248, 127) :: (0, 7, 249, 255) :: (0, 8, 250, 511) :: (0, 9, 251, 1023) :: (0, 10, 252, 2047) :: (0, 12, 254, 6143) :: []) ?_
                      iterate 12 (first | (refine planV_ ?_ ?_ rfl rfl (any_of HT_.out (by kernel_rfl)) (fun _ _ _ h => h) (Or.inl ⟨by rfl, ?_⟩) ?_ ?_; rotate_left 2; (· intro w'; go_simp; with_reducible rfl); (· simp only [Act.put, List.setIfInBounds_toArray, List.set_cons_zero, List.set_cons_succ, i64_w, i32_w]; rfl)))
                      refine planEnd_ ?_
                      refine one_ (i := 11) (N := some 253) (bm 36 8191) rfl rfl (one_of HT_.out (by kernel_rfl)) (by decide) (fun K hK => ?_)
                      refine goes_ Try.func54 (by kernel_rfl) rfl #[.slice Ao189 t135.length co189] (by rfl) rfl rfl (by (try simp only [List.map_toArray, List.map_cons, List.map_nil]); first | done | rfl | (simp only [List.length_drop, List.length_take]; rfl)) ?_
                      with_reducible refine (laws_total.calls k4 _ _ t135 t169 _ ?side1 ?side2 A191.out).mono ?_
                      (case side1 => repeat (first | exact (Kd.R_reads' HO_20.out).2.2 | (with_reducible refine Kd.C_alloc ?_ _) | (with_reducible refine Kd.C_drewN ?_ _) | (with_reducible refine Kd.C_drew ?_)))
                      (case side2 => exact (Kd.R_reads' HO_20.out).2.1)
                      rintro e w' ⟨rfl, ⟨nd, rfl⟩⟩
                      refine ⟨_, rfl, ?_⟩
                      obtain ⟨Ao199, co199, eo199⟩ := Kd.R_slice HO_21.out
                      (first | subst eo199 | (injection eo199 with f1_ f2_ f3_; have f4_ := f1_.symm; have f5_ := f3_.symm; clear f1_ f2_ f3_; subst f4_; subst f5_))
                      refine hK.out _ _ ⟨hHeld.1, hHeld.2.1, hHeld.2.2⟩ (fun hHeld => ?_)
                      clear hK K
                      refine norm_ (a' := ?_) ?_ ?_
                      rotate_left
                      ·show Act.put _ (some 253) _ = _
                       simp only [Act.put, List.setIfInBounds_toArray, List.set_cons_zero, List.set_cons_succ, i64_w, i32_w]
                       rfl
                      refine plan_ ((0, 13, 255, 16383) :: (0, 14, 256, 32767) :: (0, 15, 257, 65535) :: (0, 16, 258, 131071) :: (0, 17, 259, 262143) :: (0, 18, 260, 524287) :: (0, 19, 261, 1048575) :: (0, 20, 262, 2097151) :: (0, 21, 263, 4194303) :: (0, 23, 265, 12582911) :: (0, 24, 266, 29360127) :: (0, 26, 268, 96468991) :: (0, 27, 269, 230686719) :: (0, 30, 272, 1304428543) :: (0, 31, 273, 3451912191) :: (2, 25, 267, 3485466623) :: (2, 28, 270, 3753902079) :: (0, 29, 271, 4290772991) :: (2, 32, 274, 8585740287) :: (0, 33, 275, 17175674879) :: []) ?_
                      iterate 20 (first | (refine planV_ ?_ ?_ rfl rfl (any_of HT_.out (by kernel_rfl)) (fun _ _ _ h => h) (Or.inl ⟨by rfl, ?_⟩) ?_ ?_; rotate_left 2; (· intro w'; go_simp; with_reducible rfl); (· simp only [Act.put, List.setIfInBounds_toArray, List.set_cons_zero, List.set_cons_succ, i64_w, i32_w]; rfl)) | (refine planT_ ?_ ?_ rfl rfl (take_ofW HT_.out HW_.out (by kernel_rfl)) (fun _ _ _ h => h) (Or.inl ⟨by rfl, ?_⟩) hHeld ?_ ?_; rotate_left 2; (· rintro w' ⟨s0, s1, s2⟩; go_simp; with_reducible rfl); (· simp only [Act.put, List.setIfInBounds_toArray, List.set_cons_zero, List.set_cons_succ, i64_w, i32_w]; rfl)))
                      refine planEnd_ ?_
                      refine one_ (i := 22) (N := some 264) (bm 36 17179869183) rfl rfl (one_of HT_.out (by kernel_rfl)) (by decide) (fun K hK => ?_)
                      refine goes_ Try.func50 (by kernel_rfl) rfl #[.slice Ao15 t102.length co15] (by rfl) rfl rfl (by (try simp only [List.map_toArray, List.map_cons, List.map_nil]); first | done | rfl | (simp only [List.length_drop, List.length_take]; rfl)) ?_
                      with_reducible refine (impl_CountRegions.calls k4 _ _ t102 t170 _ ?side1 ?side2 A194.out).mono ?_
                      (case side1 => repeat (first | exact (Kd.R_reads' HO_3.out).2.2 | (with_reducible refine Kd.C_alloc ?_ _) | (with_reducible refine Kd.C_drewN ?_ _) | (with_reducible refine Kd.C_drew ?_)))
                      (case side2 => exact (Kd.R_reads' HO_3.out).2.1)
                      rintro e w200 ⟨rfl, hb⟩
                      have HS0_ := (hb.cell (World.block_lt_of_cell? _ _ (hHeld.1))).trans (hHeld.1)
                      have HS1_ := (hb.cell (World.block_lt_of_cell? _ _ (hHeld.2.1))).trans (hHeld.2.1)
                      have HS2_ := (hb.cell (World.block_lt_of_cell? _ _ (hHeld.2.2))).trans (hHeld.2.2)
                      refine ⟨_, rfl, ?_⟩
                      have n0_ := aM_ (Kd.R_below (by (with_reducible repeat (first | apply kA_ | apply kN_ | apply kD_)); exact HO_3.out) hb)
                      have n1_ := aM_ (Kd.R_below (by (with_reducible repeat (first | apply kA_ | apply kN_ | apply kD_)); exact HO_4.out) hb)
                      have n2_ := aM_ (Kd.R_below (by (with_reducible repeat (first | apply kA_ | apply kN_ | apply kD_)); exact HO_20.out) hb)
                      have n3_ := aM_ (Kd.R_below (by (with_reducible repeat (first | apply kA_ | apply kN_ | apply kD_)); exact HO_21.out) hb)
                      have n4_ := aM_ (blk_below (g := gb114) (o := .cells #[.int .i64 t108, .int .i64 t109, .int .i64 t110] 40 (0, 0)) (by (with_reducible repeat (first | refine blk_drewN ?_ _ | refine blk_drew ?_ | refine blk_alloc ?_ _)); exact BK114.out) hb)
                      have n5_ := aM_ (blk_below (g := gb115) (o := .cells #[.int .i64 t111, .int .i64 t112, .int .i64 t113] 40 (0, 0)) (by (with_reducible repeat (first | refine blk_drewN ?_ _ | refine blk_drew ?_ | refine blk_alloc ?_ _)); exact BK115.out) hb)
                      have n6_ := aM_ (below_step (by repeat (first | (with_reducible first | exact HB.out | apply bA_ | apply bN_ | apply bD_ | refine below_set ?_ GE114.out | refine below_set ?_ GE115.out) | exact HB.out)) hb)
                      clear HO_3
                      clear HO_4
                      clear HO_20
                      clear HO_21
                      clear BK114
                      clear BK115
                      clear HB
                      have HO_3 := n0_
                      have HO_4 := n1_
                      have HO_20 := n2_
                      have HO_21 := n3_
                      have BK114 := n4_
                      have BK115 := n5_
                      have HB := n6_
                      clear n0_ n1_ n2_ n3_ n4_ n5_ n6_
                      (try clear hb)
                      (try clear hb2)
                      (try clear hk)
                      (try clear hi)
                      refine hK.out _ _ ⟨HS0_, HS1_, HS2_⟩ (fun hHeld => ?_)
                      clear hK K
                      refine norm_ (a' := ?_) ?_ ?_
                      rotate_left
                      ·show Act.put _ (some 264) _ = _
                       simp only [Act.put, List.setIfInBounds_toArray, List.set_cons_zero, List.set_cons_succ, i64_w, i32_w]
                       rfl
                      refine plan_ ((0, 34, 276, 34359738367) :: (0, 35, 277, 68719476735) :: []) ?_
                      iterate 2 (first | (refine planV_ ?_ ?_ rfl rfl (any_of HT_.out (by kernel_rfl)) (fun _ _ _ h => h) (Or.inl ⟨by rfl, ?_⟩) ?_ ?_; rotate_left 2; (· intro w'; go_simp; with_reducible rfl); (· simp only [Act.put, List.setIfInBounds_toArray, List.set_cons_zero, List.set_cons_succ, i64_w, i32_w]; rfl)))
                      refine planEnd_ ?_
                      refine done_ (done_of HT_.out (by kernel_rfl)) ?_
                      try go_wp2
                      go_meet
                      case rel => exact ⟨_, ((t170 != (wrap64 ((wrap64 ((rd t138 0) - (rd t138 1))) + (rd t138 2))))), (by first | rfl | (simp; done) | (simp [*]; done)), H', ⟨by have := HJ12.out; have := HJ165.out; have := HK3.out; have := HK4.out; first | omega | exact Nat.le_refl _⟩, ⟨by (with_reducible repeat (first | apply kA_ | apply kN_ | apply kD_)); exact HO_3.out⟩, ⟨by (with_reducible repeat (first | apply kA_ | apply kN_ | apply kD_)); exact Kd.R_mono HO_4.out (fun _ hk => hk.2)⟩, ⟨by (with_reducible repeat (first | apply kA_ | apply kN_ | apply kD_)); exact Kd.R_mono HO_21.out (fun _ hk => hk.1)⟩, ⟨by (with_reducible repeat (first | refine blk_drewN ?_ _ | refine blk_drew ?_ | refine blk_alloc ?_ _)); exact BK114.out⟩, ⟨by (with_reducible repeat (first | refine blk_drewN ?_ _ | refine blk_drew ?_ | refine blk_alloc ?_ _)); exact BK115.out⟩, ⟨by repeat (first | (with_reducible first | exact HB.out | apply bA_ | apply bN_ | apply bD_ | refine below_set ?_ GE114.out | refine below_set ?_ GE115.out) | exact HB.out)⟩⟩
                     ·rw [if_neg c197] at H
                      exact absurd H (by simp)
                    ·rw [if_neg c196] at H
                     exact absurd H (by simp)
                   ·rw [if_neg c195] at H
                    exact absurd H (by simp)
                  ·rw [if_neg c193] at H
                   exact absurd H (laws_FnLines.j4_no _ _ _ _)
                 ·rw [if_neg c192] at H
                  exact absurd H (laws_FnLines.j4_no _ _ _ _)
                ·rw [if_neg c190] at H
                 have c190b0 : ((wrap64 (x23_3 + x25_4)) == (wrap64 (Int.tdiv (wrap64 ((t102.length : Int) * (wrap64 ((t102.length : Int) - 1)))) 2))) = false := beq_eq_false_iff_ne.mpr c190
                 have c190b1 : ((wrap64 (x23_3 + x25_4)) != (wrap64 (Int.tdiv (wrap64 ((t102.length : Int) * (wrap64 ((t102.length : Int) - 1)))) 2))) = true := bne_iff_ne.mpr c190
                 (first | rw [c190b0] | (simp only [i64_w, i32_w]; rw [c190b0]) | skip)
                 have H' := aM_ H
                 clear H
                 try go_wp2
                 have n0_ := aM_ (kD_ HO_3.out)
                 have n1_ := aM_ (kD_ HO_4.out)
                 have n2_ := aM_ (kD_ HO_20.out)
                 have n3_ := aM_ (kD_ HO_21.out)
                 have n4_ := aM_ (blk_drew BK114.out)
                 have n5_ := aM_ (blk_drew BK115.out)
                 have n6_ := aM_ (bD_ HB.out)
                 clear HO_3
                 clear HO_4
                 clear HO_20
                 clear HO_21
                 clear BK114
                 clear BK115
                 clear HB
                 have HO_3 := n0_
                 have HO_4 := n1_
                 have HO_20 := n2_
                 have HO_21 := n3_
                 have BK114 := n4_
                 have BK115 := n5_
                 have HB := n6_
                 clear n0_ n1_ n2_ n3_ n4_ n5_ n6_
                 refine start_ (n := 36) (S := fun w' => True) (ds := []) (bm 36 0) (by kernel_rfl) rfl rfl trivial (fun hHeld => ?_); refine with_tabW laws_FnLines.tab29 laws_FnLines.bits29 (fun HT_ HW_ => ?_)
                 generalize wr.drew = w204 at HO_3 HO_4 HO_20 HO_21 BK114 BK115 HB hHeld ⊢
                 refine plan_ ((0, 0, 242, 1) :: (0, 1, 243, 3) :: (0, 2, 244, 7) :: (0, 3, 245, 15) :: (0, 4, 246, 31) :: (0, 5, 247, 63) :: (0, 6, 248, 127) :: (0, 7, 249, 255) :: (0, 8, 250, 511) :: (0, 9, 251, 1023) :: (1, 10, 252, 2047) :: (1, 11, 253, 4095) :: (1, 12, 254, 8191) :: (1, 13, 255, 16383) :: (0, 14, 256, 32767) :: (0, 15, 257, 65535) :: (1, 16, 258, 131071) :: (1, 17, 259, 262143) :: (1, 18, 260, 524287) :: (0, 19, 261, 1048575) :: (0, 20, 262, 2097151) :: (1, 21, 263, 4194303) :: (1, 22, 264, 8388607) :: (1, 23, 265, 16777215) :: (1, 24, 266, 33554431) :: (1, 25, 267, 67108863) :: (1, 26, 268, 134217727) :: (1, 27, 269, 268435455) :: (1, 28, 270, 536870911) :: (1, 29, 271, 1073741823) :: (1, 30, 272, 2147483647) :: (1, 31, 273, 4294967295) :: (1, 32, 274, 8589934591) :: (1, 33, 275, 17179869183) :: (1, 34, 276, 34359738367) :: (0, 35, 277, 68719476735) :: []) ?_
                 iterate 36 (first | (refine planV_ ?_ ?_ rfl rfl (any_of HT_.out (by kernel_rfl)) (fun _ _ _ h => h) (Or.inl ⟨by rfl, ?_⟩) ?_ ?_; rotate_left 2; (· intro w'; go_simp; with_reducible rfl); (· simp only [Act.put, List.setIfInBounds_toArray, List.set_cons_zero, List.set_cons_succ, i64_w, i32_w]; rfl)) | (refine planU_ undef ?_ rfl rfl (any_of HT_.out (by kernel_rfl)) (fun _ _ _ h => h) (Or.inr ⟨by rfl, rfl⟩) ?_ ?_; rotate_left 1; (· simp only [Act.put, List.setIfInBounds_toArray, List.set_cons_zero, List.set_cons_succ, i64_w, i32_w]; rfl)))
                 refine planEnd_ ?_
                 refine done_ (done_of HT_.out (by kernel_rfl)) ?_
                 try go_wp2
                 go_meet
                 case rel => exact ⟨_, (true), (by first | rfl | (simp; done) | (simp [*]; done)), H', ⟨by have := HJ12.out; have := HJ165.out; have := HK3.out; have := HK4.out; first | omega | exact Nat.le_refl _⟩, ⟨by (with_reducible repeat (first | apply kA_ | apply kN_ | apply kD_)); exact HO_3.out⟩, ⟨by (with_reducible repeat (first | apply kA_ | apply kN_ | apply kD_)); exact Kd.R_mono HO_4.out (fun _ hk => hk.2)⟩, ⟨by (with_reducible repeat (first | apply kA_ | apply kN_ | apply kD_)); exact Kd.R_mono HO_21.out (fun _ hk => hk.1)⟩, ⟨by (with_reducible repeat (first | refine blk_drewN ?_ _ | refine blk_drew ?_ | refine blk_alloc ?_ _)); exact BK114.out⟩, ⟨by (with_reducible repeat (first | refine blk_drewN ?_ _ | refine blk_drew ?_ | refine blk_alloc ?_ _)); exact BK115.out⟩, ⟨by repeat (first | (with_reducible first | exact HB.out | apply bA_ | apply bN_ | apply bD_ | refine below_set ?_ GE114.out | refine below_set ?_ GE115.out) | exact HB.out)⟩⟩
               case rest => as_aux_lemma =>
                clear HC188
                try clear c54
                try clear c190
                try clear c190b0
                try clear c190b1
                try clear c192
                try clear c192b0
                try clear c192b1
                obtain ⟨kq, x277_187, rfl, HA, HJ187, HO_3, HO_4, HO_21, BK114, BK115, HB⟩ := hcut
                cases kq with
                | zero => exact absurd HA.out (by simp [laws_FnLines.j4])
                | succ kj187 =>
                 have H := HA.out
                 clear HA
                 simp only [laws_FnLines.j4] at H
                 by_cases c205 : x277_187 = true
                 ·subst c205
                  have H1 : (some false) = some true := by rw [if_pos rfl] at H; exact H
                  clear H
                  have H := H1
                  clear H1
                  exact absurd H (by simp)
                 ·replace c205 := Bool.eq_false_iff.mpr c205
                  subst c205
                  have H1 : (if (t105.length : Int) = 0 then ((impl_CountBounded.f kj187 t102).bind fun t174 => (if t174 = 0 then (some true) else ((impl_CountBounded.f kj187 t102).bind fun t175 => (if 0 < (t138.length : Int) then (if 1 < (t138.length : Int) then (if 2 < (t138.length : Int) then (some (t175 == (wrap64 ((wrap64 ((rd t138 0) + (rd t138 1))) + (rd t138 2))))) else (none)) else (none)) else (none))))) else ((impl_CountBounded.f kj187 t102).bind fun t179 => (if 0 < (t138.length : Int) then (if 1 < (t138.length : Int) then (if 2 < (t138.length : Int) then (some (t179 == (wrap64 ((wrap64 ((rd t138 0) + (rd t138 1))) + (rd t138 2))))) else (none)) else (none)) else (none)))) = some true := by rw [if_neg (show ¬ (false = true) by decide)] at H; exact H
                  clear H
                  have H := H1
                  clear H1
                  by_cases c206 : (t105.length : Int) = 0
                  ·rw [if_pos c206] at H
                   have c206b0 : ((t105.length : Int) == 0) = true := beq_iff_eq.mpr c206
                   have c206b1 : ((t105.length : Int) != 0) = false := bne_eq_false_iff_eq.mpr c206
                   clear c206
                   replace H := oB_ H
                   obtain ⟨t174, A2070, H⟩ := H
                   replace H : (if t174 = 0 then (some true) else ((impl_CountBounded.f kj187 t102).bind fun t175 => (if 0 < (t138.length : Int) then (if 1 < (t138.length : Int) then (if 2 < (t138.length : Int) then (some (t175 == (wrap64 ((wrap64 ((rd t138 0) + (rd t138 1))) + (rd t138 2))))) else (none)) else (none)) else (none)))) = some true := H
                   have A207 := aM_ A2070
                   clear A2070
                   by_cases c208 : t174 = 0
                   ·rw [if_pos c208] at H
                    have c208b0 : (t174 == 0) = true := beq_iff_eq.mpr c208
                    have c208b1 : (t174 != 0) = false := bne_eq_false_iff_eq.mpr c208
                    clear c208
                    clear H
                    try go_wp2
                    have n0_ := aM_ (kD_ HO_3.out)
                    have n1_ := aM_ (kD_ HO_4.out)
                    have n2_ := aM_ (kD_ HO_21.out)
                    have n3_ := aM_ (blk_drew BK114.out)
                    have n4_ := aM_ (blk_drew BK115.out)
                    have n5_ := aM_ (bD_ HB.out)
                    clear HO_3
                    clear HO_4
                    clear HO_21
                    clear BK114
                    clear BK115
                    clear HB
                    have HO_3 := n0_
                    have HO_4 := n1_
                    have HO_21 := n2_
                    have BK114 := n3_
                    have BK115 := n4_
                    have HB := n5_
                    clear n0_ n1_ n2_ n3_ n4_ n5_
                    refine start_ (n := 25) (S := fun w' => True) (ds := []) (bm 25 0) (by kernel_rfl) rfl rfl trivial (fun hHeld => ?_); refine with_tabW laws_FnLines.tab31 laws_FnLines.bits31 (fun HT_ HW_ => ?_)
                    generalize wc.drew = w209 at HO_3 HO_4 HO_21 BK114 BK115 HB hHeld ⊢
                    refine plan_ ((0, 0, 278, 1) :: (0, 1, 279, 3) :: (0, 2, 280, 7) :: (0, 3, 281, 15) :: (0, 4, 282, 31) :: []) ?_
                    iterate 5 (first | (refine planV_ ?_ ?_ rfl rfl (any_of HT_.out (by kernel_rfl)) (fun _ _ _ h => h) (Or.inl ⟨by rfl, ?_⟩) ?_ ?_; rotate_left 2; (· intro w'; go_simp; with_reducible rfl); (· simp only [Act.put, List.setIfInBounds_toArray, List.set_cons_zero, List.set_cons_succ, i64_w, i32_w]; rfl)))
                    refine planEnd_ ?_
                    refine one_ (i := 5) (N := some 283) (bm 25 63) rfl rfl (one_of HT_.out (by kernel_rfl)) (by decide) (fun K hK => ?_)
                    refine goes_ Try.func31 (by kernel_rfl) rfl #[.slice Ao15 t102.length co15] (by rfl) rfl rfl (by (try simp only [List.map_toArray, List.map_cons, List.map_nil]); first | done | rfl | (simp only [List.length_drop, List.length_take]; rfl)) ?_
                    with_reducible refine (impl_CountBounded.calls kj187 _ _ t102 t174 _ ?side1 ?side2 A207.out).mono ?_
                    (case side1 => repeat (first | exact (Kd.R_reads' HO_3.out).2.2 | (with_reducible refine Kd.C_alloc ?_ _) | (with_reducible refine Kd.C_drewN ?_ _) | (with_reducible refine Kd.C_drew ?_)))
                    (case side2 => exact (Kd.R_reads' HO_3.out).2.1)
                    rintro e w210 ⟨rfl, hb⟩
                    refine ⟨_, rfl, ?_⟩
                    have n0_ := aM_ (Kd.R_below (by (with_reducible repeat (first | apply kA_ | apply kN_ | apply kD_)); exact HO_3.out) hb)
                    have n1_ := aM_ (Kd.R_below (by (with_reducible repeat (first | apply kA_ | apply kN_ | apply kD_)); exact HO_4.out) hb)
                    have n2_ := aM_ (Kd.R_below (by (with_reducible repeat (first | apply kA_ | apply kN_ | apply kD_)); exact HO_21.out) hb)
                    have n3_ := aM_ (blk_below (g := gb114) (o := .cells #[.int .i64 t108, .int .i64 t109, .int .i64 t110] 40 (0, 0)) (by (with_reducible repeat (first | refine blk_drewN ?_ _ | refine blk_drew ?_ | refine blk_alloc ?_ _)); exact BK114.out) hb)
                    have n4_ := aM_ (blk_below (g := gb115) (o := .cells #[.int .i64 t111, .int .i64 t112, .int .i64 t113] 40 (0, 0)) (by (with_reducible repeat (first | refine blk_drewN ?_ _ | refine blk_drew ?_ | refine blk_alloc ?_ _)); exact BK115.out) hb)
                    have n5_ := aM_ (below_step (by repeat (first | (with_reducible first | exact HB.out | apply bA_ | apply bN_ | apply bD_ | refine below_set ?_ GE114.out | refine below_set ?_ GE115.out) | exact HB.out)) hb)
                    clear HO_3
                    clear HO_4
                    clear HO_21
                    clear BK114
                    clear BK115
                    clear HB
                    have HO_3 := n0_
                    have HO_4 := n1_
                    have HO_21 := n2_
                    have BK114 := n3_
                    have BK115 := n4_
                    have HB := n5_
                    clear n0_ n1_ n2_ n3_ n4_ n5_
                    (try clear hb)
                    (try clear hb2)
                    (try clear hk)
                    (try clear hi)
                    refine hK.out _ _ trivial (fun hHeld => ?_)
                    clear hK K
                    refine norm_ (a' := ?_) ?_ ?_
                    rotate_left
                    ·show Act.put _ (some 283) _ = _
                     simp only [Act.put, List.setIfInBounds_toArray, List.set_cons_zero, List.set_cons_succ, i64_w, i32_w]
                     rfl
                    refine plan_ ((0, 6, 284, 127) :: (0, 7, 285, 255) :: (0, 8, 286, 511) :: (1, 9, 287, 1023) :: (1, 10, 288, 2047) :: (1, 11, 289, 4095) :: (1, 12, 290, 8191) :: (1, 13, 291, 16383) :: (1, 14, 292, 32767) :: (1, 15, 293, 65535) :: (1, 16, 294, 131071) :: (1, 17, 295, 262143) :: (1, 18, 296, 524287) :: (1, 19, 297, 1048575) :: (1, 20, 298, 2097151) :: (1, 21, 299, 4194303) :: (1, 22, 300, 8388607) :: (0, 23, 301, 16777215) :: (0, 24, 2, 33554431) :: []) ?_
                    iterate 19 (first | (refine planV_ ?_ ?_ rfl rfl (any_of HT_.out (by kernel_rfl)) (fun _ _ _ h => h) (Or.inl ⟨by rfl, ?_⟩) ?_ ?_; rotate_left 2; (· intro w'; go_simp; with_reducible rfl); (· simp only [Act.put, List.setIfInBounds_toArray, List.set_cons_zero, List.set_cons_succ, i64_w, i32_w]; rfl)) | (refine planU_ undef ?_ rfl rfl (any_of HT_.out (by kernel_rfl)) (fun _ _ _ h => h) (Or.inr ⟨by rfl, rfl⟩) ?_ ?_; rotate_left 1; (· simp only [Act.put, List.setIfInBounds_toArray, List.set_cons_zero, List.set_cons_succ, i64_w, i32_w]; rfl)))
                    refine planEnd_ ?_
                    refine done_ (done_of HT_.out (by kernel_rfl)) ?_
                    try go_wp2
                    go_ret
                    exact ⟨by first | rfl | (simp [errW_none, errW_some] <;> rfl) | (simp [*, errW_none, errW_some] <;> rfl), by repeat (first | (with_reducible first | exact HB.out | apply bA_ | apply bN_ | apply bD_ | refine below_set ?_ GE114.out | refine below_set ?_ GE115.out) | exact HB.out)⟩
                   ·rw [if_neg c208] at H
                    have c208b0 : (t174 == 0) = false := beq_eq_false_iff_ne.mpr c208
                    have c208b1 : (t174 != 0) = true := bne_iff_ne.mpr c208
                    replace H := oB_ H
                    obtain ⟨t175, A2110, H⟩ := H
                    replace H : (if 0 < (t138.length : Int) then (if 1 < (t138.length : Int) then (if 2 < (t138.length : Int) then (some (t175 == (wrap64 ((wrap64 ((rd t138 0) + (rd t138 1))) + (rd t138 2))))) else (none)) else (none)) else (none)) = some true := H
                    have A211 := aM_ A2110
                    clear A2110
                    by_cases c212 : 0 < (t138.length : Int)
                    ·rw [if_pos c212] at H
                     have c212b0 : decide (0 < (t138.length : Int)) = true := decide_eq_true c212
                     have c212b1 : decide (0 < t138.length) = true := decide_eq_true (by omega)
                     clear c212
                     by_cases c213 : 1 < (t138.length : Int)
                     ·rw [if_pos c213] at H
                      have c213b0 : decide (1 < (t138.length : Int)) = true := decide_eq_true c213
                      have c213b1 : decide (1 < t138.length) = true := decide_eq_true (by omega)
                      clear c213
                      by_cases c214 : 2 < (t138.length : Int)
                      ·rw [if_pos c214] at H
                       have c214b0 : decide (2 < (t138.length : Int)) = true := decide_eq_true c214
                       have c214b1 : decide (2 < t138.length) = true := decide_eq_true (by omega)
                       clear c214
                       have hz_ : (t175 == (wrap64 ((wrap64 ((rd t138 0) + (rd t138 1))) + (rd t138 2)))) = true := Option.some.inj H
                       clear H
                       try go_wp2
                       have n0_ := aM_ (kD_ HO_3.out)
                       have n1_ := aM_ (kD_ HO_4.out)
                       have n2_ := aM_ (kD_ HO_21.out)
                       have n3_ := aM_ (blk_drew BK114.out)
                       have n4_ := aM_ (blk_drew BK115.out)
                       have n5_ := aM_ (bD_ HB.out)
                       clear HO_3
                       clear HO_4
                       clear HO_21
                       clear BK114
                       clear BK115
                       clear HB
                       have HO_3 := n0_
                       have HO_4 := n1_
                       have HO_21 := n2_
                       have BK114 := n3_
                       have BK115 := n4_
                       have HB := n5_
                       clear n0_ n1_ n2_ n3_ n4_ n5_
                       have p176 : 0 ≤ (0 : Int) := (by omega)
                       have q176 : 0 < (t138.length : Int) := of_decide_eq_true (by first | (with_reducible assumption) | assumption)
                       obtain ⟨Aoz_, coz_, eoz_⟩ := Kd.R_slice HO_21.out
                       subst eoz_
                       obtain ⟨ad176, e176, hx176_0⟩ := Kd.at_int (Kd.R_reads' HO_21.out).2.2 0 p176 q176
                       cases e176
                       have qi176 : (0 < t138.length) = True := eq_true (by omega)
                       (try rw [show ((0 : Int)).toNat = 0 from rfl] at hx176_0)
                       (try rw [Addr.add_zero'] at hx176_0)
                       replace p176 := eq_true p176
                       replace q176 := eq_true q176
                       have p177 : 0 ≤ (1 : Int) := (by omega)
                       have q177 : 1 < (t138.length : Int) := of_decide_eq_true (by first | (with_reducible assumption) | assumption)
                       obtain ⟨ad177, e177, hx177_0⟩ := Kd.at_int (Kd.R_reads' HO_21.out).2.2 1 p177 q177
                       obtain rfl : ad176 = ad177 := (by injection e177)
                       (try simp only [show (1 : Int).toNat = 1 from rfl, Nat.reduceMul, Nat.reduceEqDiff, Go.Addr.add, ↓reduceIte] at hx177_0)
                       have qi177 : (1 < t138.length) = True := eq_true (by omega)
                       (try rw [show ((1 : Int)).toNat = 1 from rfl] at hx177_0)
                       replace p177 := eq_true p177
                       replace q177 := eq_true q177
                       have p178 : 0 ≤ (2 : Int) := (by omega)
                       have q178 : 2 < (t138.length : Int) := of_decide_eq_true (by first | (with_reducible assumption) | assumption)
                       obtain ⟨ad178, e178, hx178_0⟩ := Kd.at_int (Kd.R_reads' HO_21.out).2.2 2 p178 q178
                       obtain rfl : ad176 = ad178 := (by injection e178)
                       (try simp only [show (2 : Int).toNat = 2 from rfl, Nat.reduceMul, Nat.reduceEqDiff, Go.Addr.add, ↓reduceIte] at hx178_0)
                       have qi178 : (2 < t138.length) = True := eq_true (by omega)
                       (try rw [show ((2 : Int)).toNat = 2 from rfl] at hx178_0)
                       replace p178 := eq_true p178
                       replace q178 := eq_true q178
                       refine start_ (n := 25) (S := fun w' => w'.cell? ad176 = some (.int .i64 (rd t138 0)) ∧ w'.cell? ⟨ad176.block, ad176.off + 1, none⟩ = some (.int .i64 (rd t138 1)) ∧ w'.cell? ⟨ad176.block, ad176.off + 2, none⟩ = some (.int .i64 (rd t138 2))) (ds := []) (bm 25 0) (by kernel_rfl) rfl rfl ⟨hx176_0, hx177_0, hx178_0⟩ (fun hHeld => ?_); refine with_tabW laws_FnLines.tab31 laws_FnLines.bits31 (fun HT_ HW_ => ?_)
                       generalize wc.drew = w215 at HO_3 HO_4 HO_21 BK114 BK115 HB hx176_0 hx177_0 hx178_0 hHeld ⊢
                       refine plan_ ((0, 0, 278, 1) :: (0, 1, 279, 3) :: (0, 2, 280, 7) :: (0, 3, 281, 15) :: (0, 4, 282, 31) :: []) ?_
                       iterate 5 (first | (refine planV_ ?_ ?_ rfl rfl (any_of HT_.out (by kernel_rfl)) (fun _ _ _ h => h) (Or.inl ⟨by rfl, ?_⟩) ?_ ?_; rotate_left 2; (· intro w'; go_simp; with_reducible rfl); (· simp only [Act.put, List.setIfInBounds_toArray, List.set_cons_zero, List.set_cons_succ, i64_w, i32_w]; rfl)))
                       refine planEnd_ ?_
                       refine one_ (i := 5) (N := some 283) (bm 25 63) rfl rfl (one_of HT_.out (by kernel_rfl)) (by decide) (fun K hK => ?_)
                       refine goes_ Try.func31 (by kernel_rfl) rfl #[.slice Ao15 t102.length co15] (by rfl) rfl rfl (by (try simp only [List.map_toArray, List.map_cons, List.map_nil]); first | done | rfl | (simp only [List.length_drop, List.length_take]; rfl)) ?_
                       with_reducible refine (impl_CountBounded.calls kj187 _ _ t102 t174 _ ?side1 ?side2 A207.out).mono ?_
                       (case side1 => repeat (first | exact (Kd.R_reads' HO_3.out).2.2 | (with_reducible refine Kd.C_alloc ?_ _) | (with_reducible refine Kd.C_drewN ?_ _) | (with_reducible refine Kd.C_drew ?_)))
                       (case side2 => exact (Kd.R_reads' HO_3.out).2.1)
                       rintro e w216 ⟨rfl, hb⟩
                       have HS0_ := (hb.cell (World.block_lt_of_cell? _ _ (hHeld.1))).trans (hHeld.1)
                       have HS1_ := (hb.cell (World.block_lt_of_cell? _ _ (hHeld.2.1))).trans (hHeld.2.1)
                       have HS2_ := (hb.cell (World.block_lt_of_cell? _ _ (hHeld.2.2))).trans (hHeld.2.2)
                       refine ⟨_, rfl, ?_⟩
                       have n0_ := aM_ (Kd.R_below (by (with_reducible repeat (first | apply kA_ | apply kN_ | apply kD_)); exact HO_3.out) hb)
                       have n1_ := aM_ (Kd.R_below (by (with_reducible repeat (first | apply kA_ | apply kN_ | apply kD_)); exact HO_4.out) hb)
                       have n2_ := aM_ (Kd.R_below (by (with_reducible repeat (first | apply kA_ | apply kN_ | apply kD_)); exact HO_21.out) hb)
                       have n3_ := aM_ (blk_below (g := gb114) (o := .cells #[.int .i64 t108, .int .i64 t109, .int .i64 t110] 40 (0, 0)) (by (with_reducible repeat (first | refine blk_drewN ?_ _ | refine blk_drew ?_ | refine blk_alloc ?_ _)); exact BK114.out) hb)
                       have n4_ := aM_ (blk_below (g := gb115) (o := .cells #[.int .i64 t111, .int .i64 t112, .int .i64 t113] 40 (0, 0)) (by (with_reducible repeat (first | refine blk_drewN ?_ _ | refine blk_drew ?_ | refine blk_alloc ?_ _)); exact BK115.out) hb)
                       have n5_ := aM_ (below_step (by repeat (first | (with_reducible first | exact HB.out | apply bA_ | apply bN_ | apply bD_ | refine below_set ?_ GE114.out | refine below_set ?_ GE115.out) | exact HB.out)) hb)
                       clear HO_3
                       clear HO_4
                       clear HO_21
                       clear BK114
                       clear BK115
                       clear HB
                       have HO_3 := n0_
                       have HO_4 := n1_
                       have HO_21 := n2_
                       have BK114 := n3_
                       have BK115 := n4_
                       have HB := n5_
                       clear n0_ n1_ n2_ n3_ n4_ n5_
                       (try clear hb)
                       (try clear hb2)
                       (try clear hk)
                       (try clear hi)
                       refine hK.out _ _ ⟨HS0_, HS1_, HS2_⟩ (fun hHeld => ?_)
                       clear hK K
                       refine norm_ (a' := ?_) ?_ ?_
                       rotate_left
                       ·show Act.put _ (some 283) _ = _
                        simp only [Act.put, List.setIfInBounds_toArray, List.set_cons_zero, List.set_cons_succ, i64_w, i32_w]
                        rfl
                       refine plan_ ((0, 6, 284, 127) :: (0, 7, 285, 255) :: (0, 8, 286, 511) :: (0, 9, 287, 1023) :: (0, 11, 289, 3071) :: (0, 12, 290, 7167) :: (0, 14, 292, 23551) :: (0, 15, 293, 56319) :: (0, 18, 296, 318463) :: (0, 19, 297, 842751) :: (2, 13, 291, 850943) :: (2, 16, 294, 916479) :: (0, 17, 295, 1047551) :: (2, 20, 298, 2096127) :: (0, 21, 299, 4193279) :: []) ?_
                       iterate 15 (first | (refine planV_ ?_ ?_ rfl rfl (any_of HT_.out (by kernel_rfl)) (fun _ _ _ h => h) (Or.inl ⟨by rfl, ?_⟩) ?_ ?_; rotate_left 2; (· intro w'; go_simp; with_reducible rfl); (· simp only [Act.put, List.setIfInBounds_toArray, List.set_cons_zero, List.set_cons_succ, i64_w, i32_w]; rfl)) | (refine planT_ ?_ ?_ rfl rfl (take_ofW HT_.out HW_.out (by kernel_rfl)) (fun _ _ _ h => h) (Or.inl ⟨by rfl, ?_⟩) hHeld ?_ ?_; rotate_left 2; (· rintro w' ⟨s0, s1, s2⟩; go_simp; with_reducible rfl); (· simp only [Act.put, List.setIfInBounds_toArray, List.set_cons_zero, List.set_cons_succ, i64_w, i32_w]; rfl)))
                       refine planEnd_ ?_
                       refine one_ (i := 10) (N := some 288) (bm 25 4194303) rfl rfl (one_of HT_.out (by kernel_rfl)) (by decide) (fun K hK => ?_)
                       refine goes_ Try.func31 (by kernel_rfl) rfl #[.slice Ao15 t102.length co15] (by rfl) rfl rfl (by (try simp only [List.map_toArray, List.map_cons, List.map_nil]); first | done | rfl | (simp only [List.length_drop, List.length_take]; rfl)) ?_
                       with_reducible refine (impl_CountBounded.calls kj187 _ _ t102 t175 _ ?side1 ?side2 A211.out).mono ?_
                       (case side1 => repeat (first | exact (Kd.R_reads' HO_3.out).2.2 | (with_reducible refine Kd.C_alloc ?_ _) | (with_reducible refine Kd.C_drewN ?_ _) | (with_reducible refine Kd.C_drew ?_)))
                       (case side2 => exact (Kd.R_reads' HO_3.out).2.1)
                       rintro e w217 ⟨rfl, hb⟩
                       have HS0_ := (hb.cell (World.block_lt_of_cell? _ _ (hHeld.1))).trans (hHeld.1)
                       have HS1_ := (hb.cell (World.block_lt_of_cell? _ _ (hHeld.2.1))).trans (hHeld.2.1)
                       have HS2_ := (hb.cell (World.block_lt_of_cell? _ _ (hHeld.2.2))).trans (hHeld.2.2)
                       refine ⟨_, rfl, ?_⟩
                       have n0_ := aM_ (Kd.R_below (by (with_reducible repeat (first | apply kA_ | apply kN_ | apply kD_)); exact HO_3.out) hb)
                       have n1_ := aM_ (Kd.R_below (by (with_reducible repeat (first | apply kA_ | apply kN_ | apply kD_)); exact HO_4.out) hb)
                       have n2_ := aM_ (Kd.R_below (by (with_reducible repeat (first | apply kA_ | apply kN_ | apply kD_)); exact HO_21.out) hb)
                       have n3_ := aM_ (blk_below (g := gb114) (o := .cells #[.int .i64 t108, .int .i64 t109, .int .i64 t110] 40 (0, 0)) (by (with_reducible repeat (first | refine blk_drewN ?_ _ | refine blk_drew ?_ | refine blk_alloc ?_ _)); exact BK114.out) hb)
                       have n4_ := aM_ (blk_below (g := gb115) (o := .cells #[.int .i64 t111, .int .i64 t112, .int .i64 t113] 40 (0, 0)) (by (with_reducible repeat (first | refine blk_drewN ?_ _ | refine blk_drew ?_ | refine blk_alloc ?_ _)); exact BK115.out) hb)
                       have n5_ := aM_ (below_step (by repeat (first | (with_reducible first | exact HB.out | apply bA_ | apply bN_ | apply bD_ | refine below_set ?_ GE114.out | refine below_set ?_ GE115.out) | exact HB.out)) hb)
                       clear HO_3
                       clear HO_4
                       clear HO_21
                       clear BK114
                       clear BK115
                       clear HB
                       have HO_3 := n0_
                       have HO_4 := n1_
                       have HO_21 := n2_
                       have BK114 := n3_
                       have BK115 := n4_
                       have HB := n5_
                       clear n0_ n1_ n2_ n3_ n4_ n5_
                       (try clear hb)
                       (try clear hb2)
                       (try clear hk)
                       (try clear hi)
                       obtain ⟨Ao218, co218, eo218⟩ := Kd.R_slice HO_21.out
                       (first | subst eo218 | (injection eo218 with f1_ f2_ f3_; have f4_ := f1_.symm; have f5_ := f3_.symm; clear f1_ f2_ f3_; subst f4_; subst f5_))
                       refine hK.out _ _ ⟨HS0_, HS1_, HS2_⟩ (fun hHeld => ?_)
                       clear hK K
                       refine norm_ (a' := ?_) ?_ ?_
                       rotate_left
                       ·show Act.put _ (some 288) _ = _
                        simp only [Act.put, List.setIfInBounds_toArray, List.set_cons_zero, List.set_cons_succ, i64_w, i32_w]
                        rfl
                       refine plan_ ((0, 22, 300, 8388607) :: (0, 23, 301, 16777215) :: (0, 24, 2, 33554431) :: []) ?_
                       iterate 3 (first | (refine planV_ ?_ ?_ rfl rfl (any_of HT_.out (by kernel_rfl)) (fun _ _ _ h => h) (Or.inl ⟨by rfl, ?_⟩) ?_ ?_; rotate_left 2; (· intro w'; go_simp; with_reducible rfl); (· simp only [Act.put, List.setIfInBounds_toArray, List.set_cons_zero, List.set_cons_succ, i64_w, i32_w]; rfl)))
                       refine planEnd_ ?_
                       refine done_ (done_of HT_.out (by kernel_rfl)) ?_
                       try go_wp2
                       go_ret
                       exact ⟨by first | rfl | (simp [errW_none, errW_some] <;> rfl) | (simp [*, errW_none, errW_some] <;> rfl), by repeat (first | (with_reducible first | exact HB.out | apply bA_ | apply bN_ | apply bD_ | refine below_set ?_ GE114.out | refine below_set ?_ GE115.out) | exact HB.out)⟩
                      ·rw [if_neg c214] at H
                       exact absurd H (by simp)
                     ·rw [if_neg c213] at H
                      exact absurd H (by simp)
                    ·rw [if_neg c212] at H
                     exact absurd H (by simp)
                  ·rw [if_neg c206] at H
                   have c206b0 : ((t105.length : Int) == 0) = false := beq_eq_false_iff_ne.mpr c206
                   have c206b1 : ((t105.length : Int) != 0) = true := bne_iff_ne.mpr c206
                   have c206b2 : ¬ (t105 = []) := fun h_ => c206 (by rw [h_]; rfl)
                   replace H := oB_ H
                   obtain ⟨t179, A2190, H⟩ := H
                   replace H : (if 0 < (t138.length : Int) then (if 1 < (t138.length : Int) then (if 2 < (t138.length : Int) then (some (t179 == (wrap64 ((wrap64 ((rd t138 0) + (rd t138 1))) + (rd t138 2))))) else (none)) else (none)) else (none)) = some true := H
                   have A219 := aM_ A2190
                   clear A2190
                   by_cases c220 : 0 < (t138.length : Int)
                   ·rw [if_pos c220] at H
                    have c220b0 : decide (0 < (t138.length : Int)) = true := decide_eq_true c220
                    have c220b1 : decide (0 < t138.length) = true := decide_eq_true (by omega)
                    clear c220
                    by_cases c221 : 1 < (t138.length : Int)
                    ·rw [if_pos c221] at H
                     have c221b0 : decide (1 < (t138.length : Int)) = true := decide_eq_true c221
                     have c221b1 : decide (1 < t138.length) = true := decide_eq_true (by omega)
                     clear c221
                     by_cases c222 : 2 < (t138.length : Int)
                     ·rw [if_pos c222] at H
                      have c222b0 : decide (2 < (t138.length : Int)) = true := decide_eq_true c222
                      have c222b1 : decide (2 < t138.length) = true := decide_eq_true (by omega)
                      clear c222
                      have hz_ : (t179 == (wrap64 ((wrap64 ((rd t138 0) + (rd t138 1))) + (rd t138 2)))) = true := Option.some.inj H
                      clear H
                      try go_wp2
                      have n0_ := aM_ (kD_ HO_3.out)
                      have n1_ := aM_ (kD_ HO_4.out)
                      have n2_ := aM_ (kD_ HO_21.out)
                      have n3_ := aM_ (blk_drew BK114.out)
                      have n4_ := aM_ (blk_drew BK115.out)
                      have n5_ := aM_ (bD_ HB.out)
                      clear HO_3
                      clear HO_4
                      clear HO_21
                      clear BK114
                      clear BK115
                      clear HB
                      have HO_3 := n0_
                      have HO_4 := n1_
                      have HO_21 := n2_
                      have BK114 := n3_
                      have BK115 := n4_
                      have HB := n5_
                      clear n0_ n1_ n2_ n3_ n4_ n5_
                      obtain ⟨Ao224, co224, eo224⟩ := Kd.R_slice HO_21.out
                      (first | subst eo224 | (injection eo224 with f1_ f2_ f3_; have f4_ := f1_.symm; have f5_ := f3_.symm; clear f1_ f2_ f3_; subst f4_; subst f5_))
                      have p180 : 0 ≤ (0 : Int) := (by omega)
                      have q180 : 0 < (t138.length : Int) := of_decide_eq_true (by first | (with_reducible assumption) | assumption)
                      obtain ⟨ad180, e180, hx180_0⟩ := Kd.at_int (Kd.R_reads' HO_21.out).2.2 0 p180 q180
                      cases e180
                      have qi180 : (0 < t138.length) = True := eq_true (by omega)
                      (try rw [show ((0 : Int)).toNat = 0 from rfl] at hx180_0)
                      (try rw [Addr.add_zero'] at hx180_0)
                      replace p180 := eq_true p180
                      replace q180 := eq_true q180
                      have p181 : 0 ≤ (1 : Int) := (by omega)
                      have q181 : 1 < (t138.length : Int) := of_decide_eq_true (by first | (with_reducible assumption) | assumption)
                      obtain ⟨ad181, e181, hx181_0⟩ := Kd.at_int (Kd.R_reads' HO_21.out).2.2 1 p181 q181
                      obtain rfl : ad180 = ad181 := (by injection e181)
                      (try simp only [show (1 : Int).toNat = 1 from rfl, Nat.reduceMul, Nat.reduceEqDiff, Go.Addr.add, ↓reduceIte] at hx181_0)
                      have qi181 : (1 < t138.length) = True := eq_true (by omega)
                      (try rw [show ((1 : Int)).toNat = 1 from rfl] at hx181_0)
                      replace p181 := eq_true p181
                      replace q181 := eq_true q181
                      have p182 : 0 ≤ (2 : Int) := (by omega)
                      have q182 : 2 < (t138.length : Int) := of_decide_eq_true (by first | (with_reducible assumption) | assumption)
                      obtain ⟨ad182, e182, hx182_0⟩ := Kd.at_int (Kd.R_reads' HO_21.out).2.2 2 p182 q182
                      obtain rfl : ad180 = ad182 := (by injection e182)
                      (try simp only [show (2 : Int).toNat = 2 from rfl, Nat.reduceMul, Nat.reduceEqDiff, Go.Addr.add, ↓reduceIte] at hx182_0)
                      have qi182 : (2 < t138.length) = True := eq_true (by omega)
                      (try rw [show ((2 : Int)).toNat = 2 from rfl] at hx182_0)
                      replace p182 := eq_true p182
                      replace q182 := eq_true q182
                      refine start_ (n := 25) (S := fun w' => w'.cell? ad180 = some (.int .i64 (rd t138 0)) ∧ w'.cell? ⟨ad180.block, ad180.off + 1, none⟩ = some (.int .i64 (rd t138 1)) ∧ w'.cell? ⟨ad180.block, ad180.off + 2, none⟩ = some (.int .i64 (rd t138 2))) (ds := []) (bm 25 0) (by kernel_rfl) rfl rfl ⟨hx180_0, hx181_0, hx182_0⟩ (fun hHeld => ?_); refine with_tabW laws_FnLines.tab31 laws_FnLines.bits31 (fun HT_ HW_ => ?_)
                      generalize wc.drew = w223 at HO_3 HO_4 HO_21 BK114 BK115 HB hx180_0 hx181_0 hx182_0 hHeld ⊢
                      refine plan_ ((0, 0, 278, 1) :: (0, 1, 279, 3) :: (0, 2, 280, 7) :: (0, 3, 281, 15) :: (1, 4, 282, 31) :: (1, 5, 283, 63) :: (1, 6, 284, 127) :: (0, 7, 285, 255) :: (0, 8, 286, 511) :: (0, 9, 287, 1023) :: (0, 11, 289, 3071) :: (0, 12, 290, 7167) :: (0, 14, 292, 23551) :: (0, 15, 293, 56319) :: (0, 18, 296, 318463) :: (0, 19, 297, 842751) :: (2, 13, 291, 850943) :: (2, 16, 294, 916479) :: (0, 17, 295, 1047551) :: (2, 20, 298, 2096127) :: (0, 21, 299, 4193279) :: []) ?_
                      iterate 21 (first | (refine planV_ ?_ ?_ rfl rfl (any_of HT_.out (by kernel_rfl)) (fun _ _ _ h => h) (Or.inl ⟨by rfl, ?_⟩) ?_ ?_; rotate_left 2; (· intro w'; go_simp; with_reducible rfl); (· simp only [Act.put, List.setIfInBounds_toArray, List.set_cons_zero, List.set_cons_succ, i64_w, i32_w]; rfl)) | (refine planU_ undef ?_ rfl rfl (any_of HT_.out (by kernel_rfl)) (fun _ _ _ h => h) (Or.inr ⟨by rfl, rfl⟩) ?_ ?_; rotate_left 1; (· simp only [Act.put, List.setIfInBounds_toArray, List.set_cons_zero, List.set_cons_succ, i64_w, i32_w]; rfl)) | (refine planT_ ?_ ?_ rfl rfl (take_ofW HT_.out HW_.out (by kernel_rfl)) (fun _ _ _ h => h) (Or.inl ⟨by rfl, ?_⟩) hHeld ?_ ?_; rotate_left 2; (· rintro w' ⟨s0, s1, s2⟩; go_simp; with_reducible rfl); (· simp only [Act.put, List.setIfInBounds_toArray, List.set_cons_zero, List.set_cons_succ, i64_w, i32_w]; rfl)))
                      refine planEnd_ ?_
                      refine one_ (i := 10) (N := some 288) (bm 25 4194303) rfl rfl (one_of HT_.out (by kernel_rfl)) (by decide) (fun K hK => ?_)
                      refine goes_ Try.func31 (by kernel_rfl) rfl #[.slice Ao15 t102.length co15] (by rfl) rfl rfl (by (try simp only [List.map_toArray, List.map_cons, List.map_nil]); first | done | rfl | (simp only [List.length_drop, List.length_take]; rfl)) ?_
                      with_reducible refine (impl_CountBounded.calls kj187 _ _ t102 t179 _ ?side1 ?side2 A219.out).mono ?_
                      (case side1 => repeat (first | exact (Kd.R_reads' HO_3.out).2.2 | (with_reducible refine Kd.C_alloc ?_ _) | (with_reducible refine Kd.C_drewN ?_ _) | (with_reducible refine Kd.C_drew ?_)))
                      (case side2 => exact (Kd.R_reads' HO_3.out).2.1)
                      rintro e w225 ⟨rfl, hb⟩
                      have HS0_ := (hb.cell (World.block_lt_of_cell? _ _ (hHeld.1))).trans (hHeld.1)
                      have HS1_ := (hb.cell (World.block_lt_of_cell? _ _ (hHeld.2.1))).trans (hHeld.2.1)
                      have HS2_ := (hb.cell (World.block_lt_of_cell? _ _ (hHeld.2.2))).trans (hHeld.2.2)
                      refine ⟨_, rfl, ?_⟩
                      have n0_ := aM_ (Kd.R_below (by (with_reducible repeat (first | apply kA_ | apply kN_ | apply kD_)); exact HO_3.out) hb)
                      have n1_ := aM_ (Kd.R_below (by (with_reducible repeat (first | apply kA_ | apply kN_ | apply kD_)); exact HO_4.out) hb)
                      have n2_ := aM_ (Kd.R_below (by (with_reducible repeat (first | apply kA_ | apply kN_ | apply kD_)); exact HO_21.out) hb)
                      have n3_ := aM_ (blk_below (g := gb114) (o := .cells #[.int .i64 t108, .int .i64 t109, .int .i64 t110] 40 (0, 0)) (by (with_reducible repeat (first | refine blk_drewN ?_ _ | refine blk_drew ?_ | refine blk_alloc ?_ _)); exact BK114.out) hb)
                      have n4_ := aM_ (blk_below (g := gb115) (o := .cells #[.int .i64 t111, .int .i64 t112, .int .i64 t113] 40 (0, 0)) (by (with_reducible repeat (first | refine blk_drewN ?_ _ | refine blk_drew ?_ | refine blk_alloc ?_ _)); exact BK115.out) hb)
                      have n5_ := aM_ (below_step (by repeat (first | (with_reducible first | exact HB.out | apply bA_ | apply bN_ | apply bD_ | refine below_set ?_ GE114.out | refine below_set ?_ GE115.out) | exact HB.out)) hb)
                      clear HO_3
                      clear HO_4
                      clear HO_21
                      clear BK114
                      clear BK115
                      clear HB
                      have HO_3 := n0_
                      have HO_4 := n1_
                      have HO_21 := n2_
                      have BK114 := n3_
                      have BK115 := n4_
                      have HB := n5_
                      clear n0_ n1_ n2_ n3_ n4_ n5_
                      (try clear hb)
                      (try clear hb2)
                      (try clear hk)
                      (try clear hi)
                      refine hK.out _ _ ⟨HS0_, HS1_, HS2_⟩ (fun hHeld => ?_)
                      clear hK K
                      refine norm_ (a' := ?_) ?_ ?_
                      rotate_left
                      ·show Act.put _ (some 288) _ = _
                       simp only [Act.put, List.setIfInBounds_toArray, List.set_cons_zero, List.set_cons_succ, i64_w, i32_w]
                       rfl
                      refine plan_ ((0, 22, 300, 8388607) :: (0, 23, 301, 16777215) :: (0, 24, 2, 33554431) :: []) ?_
                      iterate 3 (first | (refine planV_ ?_ ?_ rfl rfl (any_of HT_.out (by kernel_rfl)) (fun _ _ _ h => h) (Or.inl ⟨by rfl, ?_⟩) ?_ ?_; rotate_left 2; (· intro w'; go_simp; with_reducible rfl); (· simp only [Act.put, List.setIfInBounds_toArray, List.set_cons_zero, List.set_cons_succ, i64_w, i32_w]; rfl)))
                      refine planEnd_ ?_
                      refine done_ (done_of HT_.out (by kernel_rfl)) ?_
                      try go_wp2
                      go_ret
                      exact ⟨by first | rfl | (simp [errW_none, errW_some] <;> rfl) | (simp [*, errW_none, errW_some] <;> rfl), by repeat (first | (with_reducible first | exact HB.out | apply bA_ | apply bN_ | apply bD_ | refine below_set ?_ GE114.out | refine below_set ?_ GE115.out) | exact HB.out)⟩
                     ·rw [if_neg c222] at H
                      exact absurd H (by simp)
                    ·rw [if_neg c221] at H
                     exact absurd H (by simp)
                   ·rw [if_neg c220] at H
                    exact absurd H (by simp)
        ·replace c177 := Bool.eq_false_iff.mpr c177
         subst c177
         have H1 : (if (t105.length : Int) = 0 then (if (t138.length : Int) = 0 then ((impl_CountRegions.f kj165 t102).bind fun t164 => (some (t164 == (-1)))) else (some false)) else (some false)) = some true := by rw [if_neg (show ¬ (false = true) by decide)] at H; exact H
         clear H
         have H := H1
         clear H1
         by_cases c226 : (t105.length : Int) = 0
         ·rw [if_pos c226] at H
          have c226b0 : ((t105.length : Int) == 0) = true := beq_iff_eq.mpr c226
          have c226b1 : ((t105.length : Int) != 0) = false := bne_eq_false_iff_eq.mpr c226
          clear c226
          by_cases c227 : (t138.length : Int) = 0
          ·rw [if_pos c227] at H
           have c227b0 : ((t138.length : Int) == 0) = true := beq_iff_eq.mpr c227
           have c227b1 : ((t138.length : Int) != 0) = false := bne_eq_false_iff_eq.mpr c227
           clear c227
           replace H := oB_ H
           obtain ⟨t164, A2280, H⟩ := H
           replace H : (some (t164 == (-1))) = some true := H
           have A228 := aM_ A2280
           clear A2280
           have hz_ : (t164 == (-1)) = true := Option.some.inj H
           clear H
           go_wp2_with (first | ((with_reducible refine gate_callee (f := 53) rfl ?_); refine goesL_ (some 187) rfl rfl Try.func53 (by kernel_rfl) rfl #[.slice Ao15 t102.length co15] rfl (by (try simp only [List.map_toArray, List.map_cons, List.map_nil]); first | done | rfl | (simp only [List.length_drop, List.length_take]; rfl)) ?_; (with_reducible refine (spec_AreLines.calls kj165 _ _ t102 false _ ?side1 ?side2 A176.out).mono ?_); (case side1 => repeat (first | exact (Kd.R_reads' HO_3.out).2.2 | (with_reducible refine Kd.C_alloc ?_ _) | (with_reducible refine Kd.C_drewN ?_ _) | (with_reducible refine Kd.C_drew ?_))); (case side2 => exact (Kd.R_reads' HO_3.out).2.1); rintro e w229 ⟨rfl, hb⟩; refine ⟨_, rfl, ?_⟩; have n0_ := aM_ (Kd.R_below (by (with_reducible repeat (first | apply kA_ | apply kN_ | apply kD_)); exact HO_3.out) hb); have n1_ := aM_ (Kd.R_below (by (with_reducible repeat (first | apply kA_ | apply kN_ | apply kD_)); exact HO_4.out) hb); have n2_ := aM_ (Kd.R_below (by (with_reducible repeat (first | apply kA_ | apply kN_ | apply kD_)); exact HO_20.out) hb); have n3_ := aM_ (Kd.R_below (by (with_reducible repeat (first | apply kA_ | apply kN_ | apply kD_)); exact HO_21.out) hb); have n4_ := aM_ (blk_below (g := gb114) (o := .cells #[.int .i64 t108, .int .i64 t109, .int .i64 t110] 40 (0, 0)) (by (with_reducible repeat (first | refine blk_drewN ?_ _ | refine blk_drew ?_ | refine blk_alloc ?_ _)); exact BK114.out) hb); have n5_ := aM_ (blk_below (g := gb115) (o := .cells #[.int .i64 t111, .int .i64 t112, .int .i64 t113] 40 (0, 0)) (by (with_reducible repeat (first | refine blk_drewN ?_ _ | refine blk_drew ?_ | refine blk_alloc ?_ _)); exact BK115.out) hb); have n6_ := aM_ (below_step (by repeat (first | (with_reducible first | exact HB.out | apply bA_ | apply bN_ | apply bD_ | refine below_set ?_ GE114.out | refine below_set ?_ GE115.out) | exact HB.out)) hb); clear HO_3; clear HO_4; clear HO_20; clear HO_21; clear BK114; clear BK115; clear HB; have HO_3 := n0_; have HO_4 := n1_; have HO_20 := n2_; have HO_21 := n3_; have BK114 := n4_; have BK115 := n5_; have HB := n6_; clear n0_ n1_ n2_ n3_ n4_ n5_ n6_; (try clear hb); (try clear hb2); (try clear hk); (try clear hi); obtain ⟨Ao230, co230, eo230⟩ := Kd.R_slice HO_4.out; subst eo230; obtain ⟨Ao231, co231, eo231⟩ := Kd.R_slice HO_21.out; subst eo231) | (go_at_call 50; (with_reducible refine (impl_CountRegions.calls kj165 _ _ t102 t164 _ ?side1 ?side2 A228.out).mono ?_); (case side1 => repeat (first | exact (Kd.R_reads' HO_3.out).2.2 | (with_reducible refine Kd.C_alloc ?_ _) | (with_reducible refine Kd.C_drewN ?_ _) | (with_reducible refine Kd.C_drew ?_))); (case side2 => exact (Kd.R_reads' HO_3.out).2.1); rintro e w232 ⟨rfl, hb⟩; have n0_ := aM_ (Kd.R_below (by (with_reducible repeat (first | apply kA_ | apply kN_ | apply kD_)); exact HO_3.out) hb); have n1_ := aM_ (Kd.R_below (by (with_reducible repeat (first | apply kA_ | apply kN_ | apply kD_)); exact HO_4.out) hb); have n2_ := aM_ (Kd.R_below (by (with_reducible repeat (first | apply kA_ | apply kN_ | apply kD_)); exact HO_20.out) hb); have n3_ := aM_ (Kd.R_below (by (with_reducible repeat (first | apply kA_ | apply kN_ | apply kD_)); exact HO_21.out) hb); have n4_ := aM_ (blk_below (g := gb114) (o := .cells #[.int .i64 t108, .int .i64 t109, .int .i64 t110] 40 (0, 0)) (by (with_reducible repeat (first | refine blk_drewN ?_ _ | refine blk_drew ?_ | refine blk_alloc ?_ _)); exact BK114.out) hb); have n5_ := aM_ (blk_below (g := gb115) (o := .cells #[.int .i64 t111, .int .i64 t112, .int .i64 t113] 40 (0, 0)) (by (with_reducible repeat (first | refine blk_drewN ?_ _ | refine blk_drew ?_ | refine blk_alloc ?_ _)); exact BK115.out) hb); have n6_ := aM_ (below_step (by repeat (first | (with_reducible first | exact HB.out | apply bA_ | apply bN_ | apply bD_ | refine below_set ?_ GE114.out | refine below_set ?_ GE115.out) | exact HB.out)) hb); clear HO_3; clear HO_4; clear HO_20; clear HO_21; clear BK114; clear BK115; clear HB; have HO_3 := n0_; have HO_4 := n1_; have HO_20 := n2_; have HO_21 := n3_; have BK114 := n4_; have BK115 := n5_; have HB := n6_; clear n0_ n1_ n2_ n3_ n4_ n5_ n6_; (try clear hb); (try clear hb2); (try clear hk); (try clear hi)))
           go_ret
           exact ⟨by first | rfl | (simp [errW_none, errW_some] <;> rfl) | (simp [*, errW_none, errW_some] <;> rfl), by repeat (first | (with_reducible first | exact HB.out | apply bA_ | apply bN_ | apply bD_ | refine below_set ?_ GE114.out | refine below_set ?_ GE115.out) | exact HB.out)⟩
          ·rw [if_neg c227] at H
           have c227b0 : ((t138.length : Int) == 0) = false := beq_eq_false_iff_ne.mpr c227
           have c227b1 : ((t138.length : Int) != 0) = true := bne_iff_ne.mpr c227
           have c227b2 : ¬ (t138 = []) := fun h_ => c227 (by rw [h_]; rfl)
           exact absurd H (by simp)
         ·rw [if_neg c226] at H
          have c226b0 : ((t105.length : Int) == 0) = false := beq_eq_false_iff_ne.mpr c226
          have c226b1 : ((t105.length : Int) != 0) = true := bne_iff_ne.mpr c226
          have c226b2 : ¬ (t105 = []) := fun h_ => c226 (by rw [h_]; rfl)
          exact absurd H (by simp)
def laws_FnLines.Pure : Prop := ∀ (x0 : List Int), (x0.length ≤ maxLen ∧ ∀ y0 ∈ x0, (Lit.int .u8 y0).wf = true) → ∃ k, laws_FnLines.f k x0 = some true
end Go.Proofs.Ytldcckcljjlglaa.P

