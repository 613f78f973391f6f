/- For every list of points the program's CenterTimes returns what the reference's returns, and leaves the list as it was; no condition. -/
import Derived.Test.YtijgjpfbhbggdaaZFnExactCenterTimes0
import Derived.Test.YtijgjpfbhbggdaaRows
import Derived.Test.YtijgjpfbhbggdaaProg
import Derived.Below
import Derived.Deep.Draws
import Derived.Deep.AppendLies
import Derived.Maps.AppendAt
import Derived.OwnWalk
import Derived.Laws.BytesArg
import Derived.Laws.MakeOwn
import Derived.Laws.OwnMore
import Derived.Deep.OwnRows
import Derived.Tactics
import Derived.Lib.ConvBytes
import Derived.Laws.Slices
import Derived.WalkKit
import Derived.KernelRfl
import Derived.RowKit3
import Derived.Deep.LoopGhost
import Derived.Deep.QuietTactic
import Derived.BigQuiet
import Derived.WideLaws
import Derived.Deep.DeepCutAuto
import Derived.Deep.CutBlock
import Derived.Deep.RegionHeld3
import Derived.Laws.Rows
import Derived.Lib.AppendStr
import Derived.ArgAppend
import Derived.Laws.IdiomCopy
import Derived.OrdersHeld
import Derived.Laws.BitsLemmas
import Derived.RowKit
import Derived.Shelf.Abstract
import Derived.Test.YtijgjpfbhbggdaaWWords
import Derived.Test.YtijgjpfbhbggdaaWLast
import Derived.Test.YtijgjpfbhbggdaaWTab
import Derived.Test.YtijgjpfbhbggdaaWQPut
import Derived.Test.YtijgjpfbhbggdaaWApart
import Derived.Test.YtijgjpfbhbggdaaWArr
import Derived.Test.YtijgjpfbhbggdaaWZeros
import Derived.Test.YtijgjpfbhbggdaaWFoot
import Derived.Test.YtijgjpfbhbggdaaWKept
import Derived.Test.YtijgjpfbhbggdaaWShare
import Derived.Test.YtijgjpfbhbggdaaWN
import Derived.Test.YtijgjpfbhbggdaaWEqStruct
import Derived.Test.YtijgjpfbhbggdaaWRepsOne
import Derived.Test.YtijgjpfbhbggdaaWGuard
import Derived.Test.YtijgjpfbhbggdaaWNEv
import Derived.Test.YtijgjpfbhbggdaaWMore
import Derived.Deep.Slices
import Derived.ChangeOld
import Derived.Carry
import Derived.ProofKit
import Derived.OpenShut
import Derived.ShutString
import Derived.SizedLaws
namespace Go.Proofs.Ytijgjpfbhbggdaa.P
open Go.RowKit Go.Proofs.YtijgjpfbhbggdaaW.PrintWords Go.Proofs.YtijgjpfbhbggdaaW.PrintLast Go.Proofs.YtijgjpfbhbggdaaW.PrintMore
attribute [local go_sem] max2_int min2_int max_two min_two max_three min_three max_four min_four   -- for this text's walks alone
set_option linter.unusedVariables false
set_option linter.unusedSimpArgs false

/-! ### impl_ArePoints: function 56 -/
mutual
def impl_ArePoints.j0 : Nat → List (S25) → Bool → Option (Bool)
 | 0, _, _ => none
 | k + 1, x0, x17 => if x17 = true then (some false) else ((impl_triplesOf.f k (x0.length : Int)).bind fun t102 => (impl_ArePoints.l0 k x0 t102 (t102.length : Int) 0))
def impl_ArePoints.l0 : Nat → List (S25) → List (S65) → Int → Int → Option (Bool)
 | 0, _, _, _, _ => none
 | k + 1, x0, x20, x21, x22 => if x22 < x21 then (if 0 ≤ x22 then (if x22 < (x20.length : Int) then (if 0 ≤ ((rd_T65 x20 x22).f0) then (if ((rd_T65 x20 x22).f0) < (x0.length : Int) then (if 0 ≤ ((rd_T65 x20 x22).f1) then (if ((rd_T65 x20 x22).f1) < (x0.length : Int) then (if 0 ≤ ((rd_T65 x20 x22).f2) then (if ((rd_T65 x20 x22).f2) < (x0.length : Int) then ((impl_TurnOf.f ((rd_T25 x0 ((rd_T65 x20 x22).f0)).f0) ((rd_T25 x0 ((rd_T65 x20 x22).f0)).f1) ((rd_T25 x0 ((rd_T65 x20 x22).f1)).f0) ((rd_T25 x0 ((rd_T65 x20 x22).f1)).f1) ((rd_T25 x0 ((rd_T65 x20 x22).f2)).f0) ((rd_T25 x0 ((rd_T65 x20 x22).f2)).f1)).bind fun t110 => (if t110 = 0 then (some false) else (impl_ArePoints.l0 k x0 x20 x21 (wrap64 (x22 + 1))))) else (none)) else (none)) else (none)) else (none)) else (none)) else (none)) else (none)) else (none)) else (some true)
end
def impl_ArePoints.f (k : Nat) (l0 : List (S25)) : Option (Bool) := if (l0.length : Int) < 3 then (impl_ArePoints.j0 k l0 true) else (if (l0.length : Int) > 7 then (impl_ArePoints.j0 k l0 true) else ((impl_areNear.f 50 l0).bind fun t101 => (impl_ArePoints.j0 k l0 (!t101))))
theorem impl_ArePoints.mono_l : ∀ k, (∀ y0 y1, LeO (impl_ArePoints.j0 k y0 y1) (impl_ArePoints.j0 (k + 1) y0 y1)) ∧ (∀ y0 y1 y2 y3, LeO (impl_ArePoints.l0 k y0 y1 y2 y3) (impl_ArePoints.l0 (k + 1) y0 y1 y2 y3))
 | 0 => ⟨fun _ _ r h => by simp [impl_ArePoints.j0] at h, fun _ _ _ _ r h => by simp [impl_ArePoints.l0] at h⟩
 | k + 1 => by
  obtain ⟨ih0, ih1⟩ := impl_ArePoints.mono_l k
  refine ⟨?_, ?_⟩
  ·intro y0 y1
   unfold impl_ArePoints.j0
   repeat' first
   | (with_reducible exact ih0 _ _)
   | (with_reducible exact ih1 _ _ _ _)
   | (with_reducible exact impl_triplesOf.mono _ _)
   | (with_reducible exact LeO.refl _)
   | (with_reducible exact LeO.none _)
   | (with_reducible refine LeO.ite ?_ ?_)
   | (with_reducible refine LeO.bind ?_ (fun _ => ?_))
   | exact ih0 _ _
   | exact ih1 _ _ _ _
   | exact impl_triplesOf.mono _ _
   | exact LeO.none _
   | refine LeO.ite ?_ ?_
   | refine LeO.bind ?_ (fun _ => ?_)
  ·intro y0 y1 y2 y3
   unfold impl_ArePoints.l0
   repeat' first
   | (with_reducible exact ih0 _ _)
   | (with_reducible exact ih1 _ _ _ _)
   | (with_reducible exact impl_triplesOf.mono _ _)
   | (with_reducible exact LeO.refl _)
   | (with_reducible exact LeO.none _)
   | (with_reducible refine LeO.ite ?_ ?_)
   | (with_reducible refine LeO.bind ?_ (fun _ => ?_))
   | exact ih0 _ _
   | exact ih1 _ _ _ _
   | exact impl_triplesOf.mono _ _
   | exact LeO.none _
   | refine LeO.ite ?_ ?_
   | refine LeO.bind ?_ (fun _ => ?_)
theorem impl_ArePoints.mono : ∀ a0 k, LeO (impl_ArePoints.f k a0) (impl_ArePoints.f (k + 1) a0) := by
 intro a0 k
 obtain ⟨ih0, ih1⟩ := impl_ArePoints.mono_l k
 unfold impl_ArePoints.f
 repeat' first
   | (with_reducible exact ih0 _ _)
   | (with_reducible exact ih1 _ _ _ _)
   | (with_reducible exact impl_triplesOf.mono _ _)
   | (with_reducible exact LeO.refl _)
   | (with_reducible exact LeO.none _)
   | (with_reducible refine LeO.ite ?_ ?_)
   | (with_reducible refine LeO.bind ?_ (fun _ => ?_))
   | exact ih0 _ _
   | exact ih1 _ _ _ _
   | exact impl_triplesOf.mono _ _
   | exact LeO.none _
   | refine LeO.ite ?_ ?_
   | refine LeO.bind ?_ (fun _ => ?_)
def impl_ArePoints.T6 : Bool × List (List Nat × List Nat) := (true, [([], []), ([], []), ([1], [1]), ([0, 2], [0, 2]), ([3], [3]), ([], []), ([], []), ([6], [6]), ([5, 7], [5, 7]), ([8], [8]), ([], []), ([], []), ([11], [11]), ([10, 12], [10, 12]), ([13], [13]), ([4, 9, 14], [4, 9, 14]), ([15], [15])])
def impl_ArePoints.B6 : List Nat := [0, 0, 2, 7, 15, 0, 0, 64, 224, 480, 0, 0, 2048, 7168, 15360, 32767, 65535]
theorem impl_ArePoints.tab6 : rtab .any (opsOf Try.f56 6) = impl_ArePoints.T6 := by kernel_rfl
theorem impl_ArePoints.bits6 : waitsOk impl_ArePoints.T6.2 impl_ArePoints.B6 = true := by kernel_rfl
set_option maxHeartbeats 8000000 in
set_option maxRecDepth 100000 in
theorem impl_ArePoints.calls (k : Nat) (A0 : Option Addr) (c0 : Nat) (l0 : List (S25)) (r : Bool) (w : World) (hr0 : Kd.C k25 w A0 l0.length l0) (hc0 : l0.length ≤ c0) (h : impl_ArePoints.f k l0 = some r) :
  Calls Try.prog 56 #[.slice A0 l0.length c0] w fun e w' => e = .returned (.bool r) ∧ Below w.heap.size w w' := by
 have hu65 := Try.underlying65
 have hu25 := Try.underlying25
 have HR0 := Aside0.mk hr0
 have HC0 := Aside0.mk hc0
 clear hr0 hc0
 have HB := Aside0.mk (Below.refl w.heap.size w)
 have H : (if (l0.length : Int) < 3 then (impl_ArePoints.j0 k l0 true) else (if (l0.length : Int) > 7 then (impl_ArePoints.j0 k l0 true) else ((impl_areNear.f 50 l0).bind fun t101 => (impl_ArePoints.j0 k l0 (!t101))))) = some r := h
 clear h
 have HC2 := Aside0.mk H
 clear H
 go_enter Try.func56, Try.ntmps56
 go_upto_region 1 with (fail)
 go_cut [17] (fun v17 wc => ∃ (kq : Nat) (x17_1 : Bool), v17 = .bool x17_1 ∧ Aside0 (impl_ArePoints.j0 kq l0 x17_1 = some r) ∧ Aside0 (kq ≤ k) ∧ Aside0 (Below w.heap.size w wc))
 case first =>
  have H := HC2.out
  clear HC2
  by_cases c3 : (l0.length : Int) < 3
  ·rw [if_pos c3] at H
   have c3b0 : decide ((l0.length : Int) < 3) = true := decide_eq_true c3
   have c3b1 : decide (l0.length < 3) = true := decide_eq_true (by omega)
   clear c3
   (first | rw [c3b0] | (simp only [i64_w, i32_w]; rw [c3b0]) | skip)
   have H' := Aside0.mk H
   clear H
   go_wp2
   go_meet
   case rel => exact ⟨_, (true), (by first | rfl | (simp; done) | (simp [*]; done)), H', ⟨by first | omega | exact Nat.le_refl _⟩, ⟨by repeat (first | (with_reducible first | exact HB.out | apply below_alloc | apply pw_below_drewN | apply below_drew1) | exact HB.out)⟩⟩
  ·rw [if_neg c3] at H
   have c3b0 : decide ((l0.length : Int) < 3) = false := decide_eq_false c3
   have c3b1 : decide (l0.length < 3) = false := decide_eq_false (by omega)
   clear c3
   (first | rw [c3b0] | (simp only [i64_w, i32_w]; rw [c3b0]) | skip)
   by_cases c4 : (l0.length : Int) > 7
   ·rw [if_pos c4] at H
    have c4b0 : decide (7 < (l0.length : Int)) = true := decide_eq_true c4
    have c4b1 : decide (7 < l0.length) = true := decide_eq_true (by omega)
    clear c4
    have H' := Aside0.mk H
    clear H
    go_wp2
    go_meet
    case rel => exact ⟨_, (true), (by first | rfl | (simp; done) | (simp [*]; done)), H', ⟨by first | omega | exact Nat.le_refl _⟩, ⟨by repeat (first | (with_reducible first | exact HB.out | apply below_alloc | apply pw_below_drewN | apply below_drew1) | exact HB.out)⟩⟩
   ·rw [if_neg c4] at H
    have c4b0 : decide (7 < (l0.length : Int)) = false := decide_eq_false c4
    have c4b1 : decide (7 < l0.length) = false := decide_eq_false (by omega)
    clear c4
    replace H := Option.bind_eq_some_iff.mp H
    obtain ⟨t101, A50, H⟩ := H
    replace H : (impl_ArePoints.j0 k l0 (!t101)) = some r := H
    have A5 := Aside0.mk A50
    clear A50
    have H' := Aside0.mk H
    clear H
    go_wp2_with (first | (go_at_call 109; (with_reducible refine (impl_areNear.calls 50 _ _ l0 t101 _ ?side1 ?side2 A5.out).mono ?_); (case side1 => repeat (first | exact (Kd.C_below HR0.out HB.out) | (with_reducible refine Kd.C_alloc ?_ _) | (with_reducible refine Kd.C_drewN ?_ _) | (with_reducible refine Kd.C_drew ?_))); (case side2 => exact HC0.out); rintro e w6 ⟨rfl, hb⟩; have n0_ := Aside0.mk (below_step (by repeat (first | (with_reducible first | exact HB.out | apply below_alloc | apply pw_below_drewN | apply below_drew1) | exact HB.out)) hb); clear HB; have HB := n0_; clear n0_; (try clear hb); (try clear hb2); (try clear hk); (try clear hi)))
    go_meet
    case rel => exact ⟨_, (!t101), (by first | rfl | (simp; done) | (simp [*]; done)), H', ⟨by first | omega | exact Nat.le_refl _⟩, ⟨by repeat (first | (with_reducible first | exact HB.out | apply below_alloc | apply pw_below_drewN | apply below_drew1) | exact HB.out)⟩⟩
 case rest =>
  clear HC2
  try clear p2
  try clear c3
  try clear c3b0
  try clear c3b1
  try clear c4
  try clear c4b0
  try clear c4b1
  try clear c5
  obtain ⟨kq, x17_1, rfl, HA, HJ1, HB⟩ := hcut
  cases kq with
  | zero => exact absurd HA.out (by simp [impl_ArePoints.j0])
  | succ kj1 =>
   have H := HA.out
   clear HA
   simp only [impl_ArePoints.j0] at H
   by_cases c7 : x17_1 = true
   ·subst c7
    have H1 : (some false) = some r := by rw [if_pos rfl] at H; exact H
    clear H
    have H := H1
    clear H1
    obtain rfl := Option.some.inj H
    go_wp2
    go_ret
    exact ⟨by first | rfl | (simp [errW_none, errW_some] <;> rfl) | (simp [*, errW_none, errW_some] <;> rfl), by repeat (first | (with_reducible first | exact HB.out | apply below_alloc | apply pw_below_drewN | apply below_drew1) | exact HB.out)⟩
   ·replace c7 := Bool.eq_false_iff.mpr c7
    subst c7
    have H1 : ((impl_triplesOf.f kj1 (l0.length : Int)).bind fun t102 => (impl_ArePoints.l0 kj1 l0 t102 (t102.length : Int) 0)) = some r := by rw [if_neg (show ¬ (false = true) by decide)] at H; exact H
    clear H
    have H := H1
    clear H1
    replace H := Option.bind_eq_some_iff.mp H
    obtain ⟨t102, A80, H⟩ := H
    replace H : (impl_ArePoints.l0 kj1 l0 t102 (t102.length : Int) 0) = some r := H
    have A8 := Aside0.mk A80
    clear A80
    have H' := Aside0.mk H
    clear H
    go_wp2_with (first | ((with_reducible refine gate_callee (f := 62) rfl ?_); refine goesL_ (some 20) rfl rfl Try.func62 (by kernel_rfl) rfl #[.int .i64 (l0.length : Int)] rfl (by (try simp only [List.map_toArray, List.map_cons, List.map_nil]); first | done | rfl | (simp only [List.length_drop, List.length_take]; rfl)) ?_; (with_reducible refine (impl_triplesOf.calls kj1 (l0.length : Int) t102 _ A8.out).mono ?_); rintro e w9 ⟨v103, rfl, ho0, hb⟩; refine ⟨_, rfl, ?_⟩; have n0_ := Aside0.mk (Kd.R_lower ho0 (below_size (by repeat (first | (with_reducible first | exact HB.out | apply below_alloc | apply pw_below_drewN | apply below_drew1) | exact HB.out)))); have n1_ := Aside0.mk (below_step (by repeat (first | (with_reducible first | exact HB.out | apply below_alloc | apply pw_below_drewN | apply below_drew1) | exact HB.out)) hb); clear HB; have HO104 := n0_; have HB := n1_; clear n0_ n1_; (try clear hb); (try clear hb2); (try clear hk); (try clear hi); (try clear ho0); obtain ⟨Ao10, co10, eo10⟩ := Kd.R_slice HO104.out; subst eo10))
    go_loopg [22] kj1 (fun kq v22 w' => ∃ (x22_2 : Int), v22 = .int .i64 x22_2 ∧ Aside0 (impl_ArePoints.l0 kq l0 t102 (t102.length : Int) x22_2 = some r) ∧ Aside0 (kq ≤ kj1) ∧ Aside0 (Kd.R k65 65 w' w.heap.size (fun _ => True) (.slice Ao10 t102.length co10) t102) ∧ Aside0 (Below w.heap.size w w'))
    case atStart => exact ⟨(0), (by first | rfl | (simp; done) | (simp [*]; done)), H', ⟨Nat.le_refl _⟩, ⟨by (with_reducible repeat (first | apply Kd.R_alloc | apply Kd.R_drewN | apply Kd.R_drew)); exact HO104.out⟩, ⟨by repeat (first | (with_reducible first | exact HB.out | apply below_alloc | apply pw_below_drewN | apply below_drew1) | exact HB.out)⟩⟩
    case round =>
     clear H'
     try clear p2
     try clear c3
     try clear c3b0
     try clear c3b1
     try clear c4
     try clear c4b0
     try clear c4b1
     try clear c5
     try clear c6
     try clear c7
     try clear p2
     obtain ⟨x22_2, rfl, HA, HK2, HO_20, HB⟩ := hrel
     cases gk with
     | zero => exact absurd HA.out (by simp [impl_ArePoints.l0])
     | succ k2 =>
      have H := HA.out
      clear HA
      simp only [impl_ArePoints.l0] at H
      by_cases c11 : x22_2 < (t102.length : Int)
      ·rw [if_pos c11] at H
       have c11b0 : decide (x22_2 < (t102.length : Int)) = true := decide_eq_true c11
       clear c11
       by_cases c12 : 0 ≤ x22_2
       ·rw [if_pos c12] at H
        have c12b0 : decide (0 ≤ x22_2) = true := decide_eq_true c12
        clear c12
        by_cases c13 : x22_2 < (t102.length : Int)
        ·rw [if_pos c13] at H
         have c13b0 : decide (x22_2 < (t102.length : Int)) = true := decide_eq_true c13
         clear c13
         by_cases c14 : 0 ≤ ((rd_T65 t102 x22_2).f0)
         ·rw [if_pos c14] at H
          have c14b0 : decide (0 ≤ ((rd_T65 t102 x22_2).f0)) = true := decide_eq_true c14
          clear c14
          by_cases c15 : ((rd_T65 t102 x22_2).f0) < (l0.length : Int)
          ·rw [if_pos c15] at H
           have c15b0 : decide (((rd_T65 t102 x22_2).f0) < (l0.length : Int)) = true := decide_eq_true c15
           clear c15
           by_cases c16 : 0 ≤ ((rd_T65 t102 x22_2).f1)
           ·rw [if_pos c16] at H
            have c16b0 : decide (0 ≤ ((rd_T65 t102 x22_2).f1)) = true := decide_eq_true c16
            clear c16
            by_cases c17 : ((rd_T65 t102 x22_2).f1) < (l0.length : Int)
            ·rw [if_pos c17] at H
             have c17b0 : decide (((rd_T65 t102 x22_2).f1) < (l0.length : Int)) = true := decide_eq_true c17
             clear c17
             by_cases c18 : 0 ≤ ((rd_T65 t102 x22_2).f2)
             ·rw [if_pos c18] at H
              have c18b0 : decide (0 ≤ ((rd_T65 t102 x22_2).f2)) = true := decide_eq_true c18
              clear c18
              by_cases c19 : ((rd_T65 t102 x22_2).f2) < (l0.length : Int)
              ·rw [if_pos c19] at H
               have c19b0 : decide (((rd_T65 t102 x22_2).f2) < (l0.length : Int)) = true := decide_eq_true c19
               clear c19
               replace H := Option.bind_eq_some_iff.mp H
               obtain ⟨t110, A200, H⟩ := H
               replace H : (if t110 = 0 then (some false) else (impl_ArePoints.l0 k2 l0 t102 (t102.length : Int) (wrap64 (x22_2 + 1)))) = some r := H
               have A20 := Aside0.mk A200
               clear A200
               by_cases c21 : t110 = 0
               ·rw [if_pos c21] at H
                have c21b0 : (t110 == 0) = true := beq_iff_eq.mpr c21
                have c21b1 : (t110 != 0) = false := bne_eq_false_iff_eq.mpr c21
                clear c21
                obtain rfl := Option.some.inj H
                have p105 : 0 ≤ (x22_2 : Int) := of_decide_eq_true (by first | (with_reducible assumption) | assumption)
                have q105 : x22_2 < (t102.length : Int) := of_decide_eq_true (by first | (with_reducible assumption) | assumption)
                obtain ⟨ad105, e105, hx105_0, hx105_1, hx105_2⟩ := at_T65 (Kd.R_reads' HO_20.out).2.2 x22_2 p105 q105
                cases e105
                replace p105 := eq_true p105
                replace q105 := eq_true q105
                try go_wp2_with (first | ((with_reducible refine gate_dst (N := 4) rfl ?_); (try (refine gate_guard (by rfl) ?_; dsimp only)); refine box_event ?hg (N := 4) ?hd (cs := #[.int .i64 0, .int .i64 0, .int .i64 0]) (t := 65) ?hr ?_; (case hd => rfl); (case hg => rfl); (case hr => first | (go_simp; done) | (go_simp; rfl)); intro gb106 hg w22 hbox hb; have n0_ := Aside0.mk (Kd.R_below (Kd.R_elderB (by (with_reducible repeat (first | apply Kd.R_alloc | apply Kd.R_drewN | apply Kd.R_drew)); exact HO_20.out) gb106 (Nat.le_of_eq hg.symm)) hb); have n1_ := Aside0.mk (below_step (by repeat (first | (with_reducible first | exact HB.out | apply below_alloc | apply pw_below_drewN | apply below_drew1) | exact HB.out)) hb); have n2_ := Aside0.mk (hbox); have n3_ := Aside0.mk ((by rw [hg]; exact (below_size (by repeat (first | (with_reducible first | exact HB.out | apply below_alloc | apply pw_below_drewN | apply below_drew1) | exact HB.out))) : w.heap.size ≤ gb106)); have n4_ := Aside0.mk ((by rw [hg]; exact (below_size (by repeat (first | (with_reducible first | exact HB.out | apply below_alloc | apply pw_below_drewN | apply below_drew1) | exact HB.out))) : w.heap.size ≤ gb106)); clear HO_20; clear HB; have HO_20 := n0_; have HB := n1_; have BK106 := n2_; have GW106 := n3_; have GE106 := n4_; clear n0_ n1_ n2_ n3_ n4_; clear hb hbox hg; have hcz23_0 : w22.cell? ⟨gb106, 0, none⟩ = some (.int .i64 0) := (blk_cell BK106.out 0).trans rfl; have hcz23_1 : w22.cell? ⟨gb106, 1, none⟩ = some (.int .i64 0) := (blk_cell BK106.out 1).trans rfl; have hcz23_2 : w22.cell? ⟨gb106, 2, none⟩ = some (.int .i64 0) := (blk_cell BK106.out 2).trans rfl; have hfz23_0 := blk_frozen BK106.out 0; have hfz23_1 := blk_frozen BK106.out 1; have hfz23_2 := blk_frozen BK106.out 2))
                have n0_ : Aside0 (Kd.R k65 65 (((w22.setCell ⟨gb106, 0, none⟩ (.int .i64 ((rd_T65 t102 x22_2).f0))).setCell ⟨gb106, 1, none⟩ (.int .i64 ((rd_T65 t102 x22_2).f1))).setCell ⟨gb106, 2, none⟩ (.int .i64 ((rd_T65 t102 x22_2).f2))) w.heap.size (fun k_ => k_ ≠ gb106) (.slice (some ad105) t102.length co10) t102) := ⟨by (with_reducible repeat (first | apply Kd.R_alloc | apply Kd.R_drewN | apply Kd.R_drew)); exact Kd.R_mono (Kd.R_far (p := ⟨gb106, 2, none⟩) (Kd.R_far (p := ⟨gb106, 1, none⟩) (Kd.R_far (p := ⟨gb106, 0, none⟩) (Kd.R_mono HO_20.out (fun k_ hk => (⟨hk, hk.2⟩ : _ ∧ k_ ≠ gb106))) (fun _ hk => hk.2) (.int .i64 ((rd_T65 t102 x22_2).f0))) (fun _ hk => hk.2) (.int .i64 ((rd_T65 t102 x22_2).f1))) (fun _ hk => hk.2) (.int .i64 ((rd_T65 t102 x22_2).f2))) (fun _ hk => hk.1.2)⟩
                have n1_ : Aside0 ((((w22.setCell ⟨gb106, 0, none⟩ (.int .i64 ((rd_T65 t102 x22_2).f0))).setCell ⟨gb106, 1, none⟩ (.int .i64 ((rd_T65 t102 x22_2).f1))).setCell ⟨gb106, 2, none⟩ (.int .i64 ((rd_T65 t102 x22_2).f2))).heap[gb106]? = some (.cells #[.int .i64 ((rd_T65 t102 x22_2).f0), .int .i64 ((rd_T65 t102 x22_2).f1), .int .i64 ((rd_T65 t102 x22_2).f2)] 65 (0, 0))) := ⟨by (with_reducible repeat (first | refine blk_drewN ?_ _ | refine blk_drew ?_ | refine blk_alloc ?_ _)); refine blk_put (cs := #[.int .i64 ((rd_T65 t102 x22_2).f0), .int .i64 ((rd_T65 t102 x22_2).f1), .int .i64 0]) ?_ 2 _ rfl; (with_reducible repeat (first | refine blk_drewN ?_ _ | refine blk_drew ?_ | refine blk_alloc ?_ _)); refine blk_put (cs := #[.int .i64 ((rd_T65 t102 x22_2).f0), .int .i64 0, .int .i64 0]) ?_ 1 _ rfl; (with_reducible repeat (first | refine blk_drewN ?_ _ | refine blk_drew ?_ | refine blk_alloc ?_ _)); refine blk_put (cs := #[.int .i64 0, .int .i64 0, .int .i64 0]) ?_ 0 _ rfl; (with_reducible repeat (first | refine blk_drewN ?_ _ | refine blk_drew ?_ | refine blk_alloc ?_ _)); exact BK106.out⟩
                have n2_ : Aside0 (Below w.heap.size w (((w22.setCell ⟨gb106, 0, none⟩ (.int .i64 ((rd_T65 t102 x22_2).f0))).setCell ⟨gb106, 1, none⟩ (.int .i64 ((rd_T65 t102 x22_2).f1))).setCell ⟨gb106, 2, none⟩ (.int .i64 ((rd_T65 t102 x22_2).f2)))) := ⟨by repeat (first | (with_reducible first | exact HB.out | apply below_alloc | apply pw_below_drewN | apply below_drew1 | refine below_set ?_ GE106.out) | exact HB.out)⟩
                (try clear HO_20)
                (try clear BK106)
                (try clear HB)
                generalize (((w22.setCell ⟨gb106, 0, none⟩ (.int .i64 ((rd_T65 t102 x22_2).f0))).setCell ⟨gb106, 1, none⟩ (.int .i64 ((rd_T65 t102 x22_2).f1))).setCell ⟨gb106, 2, none⟩ (.int .i64 ((rd_T65 t102 x22_2).f2))) = w24 at n0_ n1_ n2_ ⊢
                have HO_20 := n0_
                have BK106 := n1_
                have HB := n2_
                clear n0_ n1_ n2_
                have n0_ := Aside0.mk (Kd.R_drew HO_20.out)
                have n1_ := Aside0.mk (blk_drew BK106.out)
                have n2_ := Aside0.mk (below_drew1 HB.out)
                clear HO_20
                clear BK106
                clear HB
                have HO_20 := n0_
                have BK106 := n1_
                have HB := n2_
                clear n0_ n1_ n2_
                have p107 : 0 ≤ (((rd_T65 t102 x22_2).f0) : Int) := of_decide_eq_true (by first | (with_reducible assumption) | assumption)
                have q107 : ((rd_T65 t102 x22_2).f0) < (l0.length : Int) := of_decide_eq_true (by first | (with_reducible assumption) | assumption)
                obtain ⟨ad107, e107, hx107_0, hx107_1⟩ := at_T25 HR0.out ((rd_T65 t102 x22_2).f0) p107 q107
                have hw107_1 := hx107_1
                have hw107_0 := hx107_0
                cases e107
                replace hx107_0 := (HB.out.cell (World.block_lt_of_cell? w _ hx107_0)).trans hx107_0
                replace hx107_1 := (HB.out.cell (World.block_lt_of_cell? w _ hx107_1)).trans hx107_1
                replace p107 := eq_true p107
                replace q107 := eq_true q107
                have p108 : 0 ≤ (((rd_T65 t102 x22_2).f1) : Int) := of_decide_eq_true (by first | (with_reducible assumption) | assumption)
                have q108 : ((rd_T65 t102 x22_2).f1) < (l0.length : Int) := of_decide_eq_true (by first | (with_reducible assumption) | assumption)
                obtain ⟨ad108, e108, hx108_0, hx108_1⟩ := at_T25 HR0.out ((rd_T65 t102 x22_2).f1) p108 q108
                have hw108_1 := hx108_1
                have hw108_0 := hx108_0
                obtain rfl : ad107 = ad108 := (by injection e108)
                replace hx108_0 := (HB.out.cell (World.block_lt_of_cell? w _ hx108_0)).trans hx108_0
                replace hx108_1 := (HB.out.cell (World.block_lt_of_cell? w _ hx108_1)).trans hx108_1
                replace p108 := eq_true p108
                replace q108 := eq_true q108
                have p109 : 0 ≤ (((rd_T65 t102 x22_2).f2) : Int) := of_decide_eq_true (by first | (with_reducible assumption) | assumption)
                have q109 : ((rd_T65 t102 x22_2).f2) < (l0.length : Int) := of_decide_eq_true (by first | (with_reducible assumption) | assumption)
                obtain ⟨ad109, e109, hx109_0, hx109_1⟩ := at_T25 HR0.out ((rd_T65 t102 x22_2).f2) p109 q109
                have hw109_1 := hx109_1
                have hw109_0 := hx109_0
                obtain rfl : ad107 = ad109 := (by injection e109)
                replace hx109_0 := (HB.out.cell (World.block_lt_of_cell? w _ hx109_0)).trans hx109_0
                replace hx109_1 := (HB.out.cell (World.block_lt_of_cell? w _ hx109_1)).trans hx109_1
                replace p109 := eq_true p109
                replace q109 := eq_true q109
                refine start_ (n := 17) (S := fun w' => w'.cell? ⟨gb106, 0, none⟩ = some (.int .i64 ((rd_T65 t102 x22_2).f0)) ∧ w'.cell? ⟨gb106, 1, none⟩ = some (.int .i64 ((rd_T65 t102 x22_2).f1)) ∧ w'.cell? ⟨gb106, 2, none⟩ = some (.int .i64 ((rd_T65 t102 x22_2).f2)) ∧ w'.cell? (ad107.add ((((rd_T65 t102 x22_2).f0)).toNat * 2)) = some (.int .i64 ((rd_T25 l0 ((rd_T65 t102 x22_2).f0)).f0)) ∧ w'.cell? ⟨(ad107.add ((((rd_T65 t102 x22_2).f0)).toNat * 2)).block, (ad107.add ((((rd_T65 t102 x22_2).f0)).toNat * 2)).off + 1, none⟩ = some (.int .i64 ((rd_T25 l0 ((rd_T65 t102 x22_2).f0)).f1)) ∧ w'.cell? (ad107.add ((((rd_T65 t102 x22_2).f1)).toNat * 2)) = some (.int .i64 ((rd_T25 l0 ((rd_T65 t102 x22_2).f1)).f0)) ∧ w'.cell? ⟨(ad107.add ((((rd_T65 t102 x22_2).f1)).toNat * 2)).block, (ad107.add ((((rd_T65 t102 x22_2).f1)).toNat * 2)).off + 1, none⟩ = some (.int .i64 ((rd_T25 l0 ((rd_T65 t102 x22_2).f1)).f1)) ∧ w'.cell? (ad107.add ((((rd_T65 t102 x22_2).f2)).toNat * 2)) = some (.int .i64 ((rd_T25 l0 ((rd_T65 t102 x22_2).f2)).f0)) ∧ w'.cell? ⟨(ad107.add ((((rd_T65 t102 x22_2).f2)).toNat * 2)).block, (ad107.add ((((rd_T65 t102 x22_2).f2)).toNat * 2)).off + 1, none⟩ = some (.int .i64 ((rd_T25 l0 ((rd_T65 t102 x22_2).f2)).f1))) (ds := []) (bm 17 0) (by kernel_rfl) rfl rfl ⟨(blk_cell BK106.out 0).trans rfl, (blk_cell BK106.out 1).trans rfl, (blk_cell BK106.out 2).trans rfl, ((HB.out.cell (World.block_lt_of_cell? w _ hw107_0)).trans hw107_0), ((HB.out.cell (World.block_lt_of_cell? w _ hw107_1)).trans hw107_1), ((HB.out.cell (World.block_lt_of_cell? w _ hw108_0)).trans hw108_0), ((HB.out.cell (World.block_lt_of_cell? w _ hw108_1)).trans hw108_1), ((HB.out.cell (World.block_lt_of_cell? w _ hw109_0)).trans hw109_0), ((HB.out.cell (World.block_lt_of_cell? w _ hw109_1)).trans hw109_1)⟩ (fun hHeld => ?_); refine with_tabW impl_ArePoints.tab6 impl_ArePoints.bits6 (fun HT_ HW_ => ?_)
                generalize w24.drew = w25 at HO_20 BK106 HB hx107_0 hx107_1 hx108_0 hx108_1 hx109_0 hx109_1 hHeld ⊢
                refine plan_ ((0, 0, 26, 1) :: (0, 1, 27, 3) :: (0, 5, 31, 35) :: (0, 6, 32, 99) :: (0, 10, 36, 1123) :: (0, 11, 37, 3171) :: (2, 2, 28, 3175) :: (0, 3, 29, 3183) :: (2, 4, 30, 3199) :: (2, 7, 33, 3327) :: (0, 8, 34, 3583) :: (2, 9, 35, 4095) :: (2, 12, 38, 8191) :: (0, 13, 39, 16383) :: (2, 14, 40, 32767) :: []) ?_
                iterate 15 (first | (refine planV_ ?_ ?_ rfl rfl (any_of HT_.out (by kernel_rfl)) (fun _ _ _ h => h) (Or.inl ⟨by rfl, ?_⟩) ?_ ?_; rotate_left 2; (· intro w'; go_simp; with_reducible rfl); (· simp only [Act.put, List.setIfInBounds_toArray, List.set_cons_zero, List.set_cons_succ, i64_w, i32_w]; rfl)) | (refine planT_ ?_ ?_ rfl rfl (take_ofW HT_.out HW_.out (by kernel_rfl)) (fun _ _ _ h => h) (Or.inl ⟨by rfl, ?_⟩) hHeld ?_ ?_; rotate_left 2; (· rintro w' ⟨s0, s1, s2, s3, s4, s5, s6, s7, s8⟩; go_simp; with_reducible rfl); (· simp only [Act.put, List.setIfInBounds_toArray, List.set_cons_zero, List.set_cons_succ, i64_w, i32_w]; rfl)))
                refine planEnd_ ?_
                refine one_ (i := 15) (N := some 41) (bm 17 65535) rfl rfl (one_of HT_.out (by kernel_rfl)) (by decide) (fun K hK => ?_)
                refine goes_ Try.func105 (by kernel_rfl) rfl #[.agg #[.int .i64 ((rd_T25 l0 ((rd_T65 t102 x22_2).f0)).f0), .int .i64 ((rd_T25 l0 ((rd_T65 t102 x22_2).f0)).f1)], .agg #[.int .i64 ((rd_T25 l0 ((rd_T65 t102 x22_2).f1)).f0), .int .i64 ((rd_T25 l0 ((rd_T65 t102 x22_2).f1)).f1)], .agg #[.int .i64 ((rd_T25 l0 ((rd_T65 t102 x22_2).f2)).f0), .int .i64 ((rd_T25 l0 ((rd_T65 t102 x22_2).f2)).f1)]] (by rfl) rfl rfl (by (try simp only [List.map_toArray, List.map_cons, List.map_nil]); first | done | rfl | (simp only [List.length_drop, List.length_take]; rfl)) ?_
                with_reducible refine (impl_TurnOf.calls ((rd_T25 l0 ((rd_T65 t102 x22_2).f0)).f0) ((rd_T25 l0 ((rd_T65 t102 x22_2).f0)).f1) ((rd_T25 l0 ((rd_T65 t102 x22_2).f1)).f0) ((rd_T25 l0 ((rd_T65 t102 x22_2).f1)).f1) ((rd_T25 l0 ((rd_T65 t102 x22_2).f2)).f0) ((rd_T25 l0 ((rd_T65 t102 x22_2).f2)).f1) t110 _ A20.out).mono ?_
                rintro e w26 ⟨rfl, hb⟩
                refine ⟨_, rfl, ?_⟩
                have n0_ := Aside0.mk (Kd.R_below (by (with_reducible repeat (first | apply Kd.R_alloc | apply Kd.R_drewN | apply Kd.R_drew)); exact HO_20.out) hb)
                have n1_ := Aside0.mk (blk_below (g := gb106) (o := .cells #[.int .i64 ((rd_T65 t102 x22_2).f0), .int .i64 ((rd_T65 t102 x22_2).f1), .int .i64 ((rd_T65 t102 x22_2).f2)] 65 (0, 0)) (by (with_reducible repeat (first | refine blk_drewN ?_ _ | refine blk_drew ?_ | refine blk_alloc ?_ _)); exact BK106.out) hb)
                have n2_ := Aside0.mk (below_step (by repeat (first | (with_reducible first | exact HB.out | apply below_alloc | apply pw_below_drewN | apply below_drew1 | refine below_set ?_ GE106.out) | exact HB.out)) hb)
                clear HO_20
                clear BK106
                clear HB
                have HO_20 := n0_
                have BK106 := n1_
                have HB := n2_
                clear n0_ n1_ n2_
                (try clear hb)
                (try clear hb2)
                (try clear hk)
                (try clear hi)
                refine hK.out _ _ ⟨(blk_cell BK106.out 0).trans rfl, (blk_cell BK106.out 1).trans rfl, (blk_cell BK106.out 2).trans rfl, ((HB.out.cell (World.block_lt_of_cell? w _ hw107_0)).trans hw107_0), ((HB.out.cell (World.block_lt_of_cell? w _ hw107_1)).trans hw107_1), ((HB.out.cell (World.block_lt_of_cell? w _ hw108_0)).trans hw108_0), ((HB.out.cell (World.block_lt_of_cell? w _ hw108_1)).trans hw108_1), ((HB.out.cell (World.block_lt_of_cell? w _ hw109_0)).trans hw109_0), ((HB.out.cell (World.block_lt_of_cell? w _ hw109_1)).trans hw109_1)⟩ (fun hHeld => ?_)
                clear hK K
                refine norm_ (a' := ?_) ?_ ?_
                rotate_left
                ·show Act.put _ (some 41) _ = _
                 simp only [Act.put, List.setIfInBounds_toArray, List.set_cons_zero, List.set_cons_succ, i64_w, i32_w]
                 rfl
                refine plan_ ((0, 16, 42, 131071) :: []) ?_
                iterate 1 (first | (refine planV_ ?_ ?_ rfl rfl (any_of HT_.out (by kernel_rfl)) (fun _ _ _ h => h) (Or.inl ⟨by rfl, ?_⟩) ?_ ?_; rotate_left 2; (· intro w'; go_simp; with_reducible rfl); (· simp only [Act.put, List.setIfInBounds_toArray, List.set_cons_zero, List.set_cons_succ, i64_w, i32_w]; rfl)))
                refine planEnd_ ?_
                refine done_ (done_of HT_.out (by kernel_rfl)) ?_
                try go_wp2
                go_ret
                exact ⟨by first | rfl | (simp [errW_none, errW_some] <;> rfl) | (simp [*, errW_none, errW_some] <;> rfl), by repeat (first | (with_reducible first | exact HB.out | apply below_alloc | apply pw_below_drewN | apply below_drew1 | refine below_set ?_ GE106.out) | exact HB.out)⟩
               ·rw [if_neg c21] at H
                have c21b0 : (t110 == 0) = false := beq_eq_false_iff_ne.mpr c21
                have c21b1 : (t110 != 0) = true := bne_iff_ne.mpr c21
                have H' := Aside0.mk H
                clear H
                have p105 : 0 ≤ (x22_2 : Int) := of_decide_eq_true (by first | (with_reducible assumption) | assumption)
                have q105 : x22_2 < (t102.length : Int) := of_decide_eq_true (by first | (with_reducible assumption) | assumption)
                obtain ⟨ad105, e105, hx105_0, hx105_1, hx105_2⟩ := at_T65 (Kd.R_reads' HO_20.out).2.2 x22_2 p105 q105
                cases e105
                replace p105 := eq_true p105
                replace q105 := eq_true q105
                try go_wp2_with (first | ((with_reducible refine gate_dst (N := 4) rfl ?_); (try (refine gate_guard (by rfl) ?_; dsimp only)); refine box_event ?hg (N := 4) ?hd (cs := #[.int .i64 0, .int .i64 0, .int .i64 0]) (t := 65) ?hr ?_; (case hd => rfl); (case hg => rfl); (case hr => first | (go_simp; done) | (go_simp; rfl)); intro gb106 hg w27 hbox hb; have n0_ := Aside0.mk (Kd.R_below (Kd.R_elderB (by (with_reducible repeat (first | apply Kd.R_alloc | apply Kd.R_drewN | apply Kd.R_drew)); exact HO_20.out) gb106 (Nat.le_of_eq hg.symm)) hb); have n1_ := Aside0.mk (below_step (by repeat (first | (with_reducible first | exact HB.out | apply below_alloc | apply pw_below_drewN | apply below_drew1) | exact HB.out)) hb); have n2_ := Aside0.mk (hbox); have n3_ := Aside0.mk ((by rw [hg]; exact (below_size (by repeat (first | (with_reducible first | exact HB.out | apply below_alloc | apply pw_below_drewN | apply below_drew1) | exact HB.out))) : w.heap.size ≤ gb106)); have n4_ := Aside0.mk ((by rw [hg]; exact (below_size (by repeat (first | (with_reducible first | exact HB.out | apply below_alloc | apply pw_below_drewN | apply below_drew1) | exact HB.out))) : w.heap.size ≤ gb106)); clear HO_20; clear HB; have HO_20 := n0_; have HB := n1_; have BK106 := n2_; have GW106 := n3_; have GE106 := n4_; clear n0_ n1_ n2_ n3_ n4_; clear hb hbox hg; have hcz28_0 : w27.cell? ⟨gb106, 0, none⟩ = some (.int .i64 0) := (blk_cell BK106.out 0).trans rfl; have hcz28_1 : w27.cell? ⟨gb106, 1, none⟩ = some (.int .i64 0) := (blk_cell BK106.out 1).trans rfl; have hcz28_2 : w27.cell? ⟨gb106, 2, none⟩ = some (.int .i64 0) := (blk_cell BK106.out 2).trans rfl; have hfz28_0 := blk_frozen BK106.out 0; have hfz28_1 := blk_frozen BK106.out 1; have hfz28_2 := blk_frozen BK106.out 2))
                have n0_ : Aside0 (Kd.R k65 65 (((w27.setCell ⟨gb106, 0, none⟩ (.int .i64 ((rd_T65 t102 x22_2).f0))).setCell ⟨gb106, 1, none⟩ (.int .i64 ((rd_T65 t102 x22_2).f1))).setCell ⟨gb106, 2, none⟩ (.int .i64 ((rd_T65 t102 x22_2).f2))) w.heap.size (fun k_ => k_ ≠ gb106) (.slice (some ad105) t102.length co10) t102) := ⟨by (with_reducible repeat (first | apply Kd.R_alloc | apply Kd.R_drewN | apply Kd.R_drew)); exact Kd.R_mono (Kd.R_far (p := ⟨gb106, 2, none⟩) (Kd.R_far (p := ⟨gb106, 1, none⟩) (Kd.R_far (p := ⟨gb106, 0, none⟩) (Kd.R_mono HO_20.out (fun k_ hk => (⟨hk, hk.2⟩ : _ ∧ k_ ≠ gb106))) (fun _ hk => hk.2) (.int .i64 ((rd_T65 t102 x22_2).f0))) (fun _ hk => hk.2) (.int .i64 ((rd_T65 t102 x22_2).f1))) (fun _ hk => hk.2) (.int .i64 ((rd_T65 t102 x22_2).f2))) (fun _ hk => hk.1.2)⟩
                have n1_ : Aside0 ((((w27.setCell ⟨gb106, 0, none⟩ (.int .i64 ((rd_T65 t102 x22_2).f0))).setCell ⟨gb106, 1, none⟩ (.int .i64 ((rd_T65 t102 x22_2).f1))).setCell ⟨gb106, 2, none⟩ (.int .i64 ((rd_T65 t102 x22_2).f2))).heap[gb106]? = some (.cells #[.int .i64 ((rd_T65 t102 x22_2).f0), .int .i64 ((rd_T65 t102 x22_2).f1), .int .i64 ((rd_T65 t102 x22_2).f2)] 65 (0, 0))) := ⟨by (with_reducible repeat (first | refine blk_drewN ?_ _ | refine blk_drew ?_ | refine blk_alloc ?_ _)); refine blk_put (cs := #[.int .i64 ((rd_T65 t102 x22_2).f0), .int .i64 ((rd_T65 t102 x22_2).f1), .int .i64 0]) ?_ 2 _ rfl; (with_reducible repeat (first | refine blk_drewN ?_ _ | refine blk_drew ?_ | refine blk_alloc ?_ _)); refine blk_put (cs := #[.int .i64 ((rd_T65 t102 x22_2).f0), .int .i64 0, .int .i64 0]) ?_ 1 _ rfl; (with_reducible repeat (first | refine blk_drewN ?_ _ | refine blk_drew ?_ | refine blk_alloc ?_ _)); refine blk_put (cs := #[.int .i64 0, .int .i64 0, .int .i64 0]) ?_ 0 _ rfl; (with_reducible repeat (first | refine blk_drewN ?_ _ | refine blk_drew ?_ | refine blk_alloc ?_ _)); exact BK106.out⟩
                have n2_ : Aside0 (Below w.heap.size w (((w27.setCell ⟨gb106, 0, none⟩ (.int .i64 ((rd_T65 t102 x22_2).f0))).setCell ⟨gb106, 1, none⟩ (.int .i64 ((rd_T65 t102 x22_2).f1))).setCell ⟨gb106, 2, none⟩ (.int .i64 ((rd_T65 t102 x22_2).f2)))) := ⟨by repeat (first | (with_reducible first | exact HB.out | apply below_alloc | apply pw_below_drewN | apply below_drew1 | refine below_set ?_ GE106.out) | exact HB.out)⟩
                (try clear HO_20)
                (try clear BK106)
                (try clear HB)
                generalize (((w27.setCell ⟨gb106, 0, none⟩ (.int .i64 ((rd_T65 t102 x22_2).f0))).setCell ⟨gb106, 1, none⟩ (.int .i64 ((rd_T65 t102 x22_2).f1))).setCell ⟨gb106, 2, none⟩ (.int .i64 ((rd_T65 t102 x22_2).f2))) = w29 at n0_ n1_ n2_ ⊢
                have HO_20 := n0_
                have BK106 := n1_
                have HB := n2_
                clear n0_ n1_ n2_
                have n0_ := Aside0.mk (Kd.R_drew HO_20.out)
                have n1_ := Aside0.mk (blk_drew BK106.out)
                have n2_ := Aside0.mk (below_drew1 HB.out)
                clear HO_20
                clear BK106
                clear HB
                have HO_20 := n0_
                have BK106 := n1_
                have HB := n2_
                clear n0_ n1_ n2_
                have p107 : 0 ≤ (((rd_T65 t102 x22_2).f0) : Int) := of_decide_eq_true (by first | (with_reducible assumption) | assumption)
                have q107 : ((rd_T65 t102 x22_2).f0) < (l0.length : Int) := of_decide_eq_true (by first | (with_reducible assumption) | assumption)
                obtain ⟨ad107, e107, hx107_0, hx107_1⟩ := at_T25 HR0.out ((rd_T65 t102 x22_2).f0) p107 q107
                have hw107_1 := hx107_1
                have hw107_0 := hx107_0
                cases e107
                replace hx107_0 := (HB.out.cell (World.block_lt_of_cell? w _ hx107_0)).trans hx107_0
                replace hx107_1 := (HB.out.cell (World.block_lt_of_cell? w _ hx107_1)).trans hx107_1
                replace p107 := eq_true p107
                replace q107 := eq_true q107
                have p108 : 0 ≤ (((rd_T65 t102 x22_2).f1) : Int) := of_decide_eq_true (by first | (with_reducible assumption) | assumption)
                have q108 : ((rd_T65 t102 x22_2).f1) < (l0.length : Int) := of_decide_eq_true (by first | (with_reducible assumption) | assumption)
                obtain ⟨ad108, e108, hx108_0, hx108_1⟩ := at_T25 HR0.out ((rd_T65 t102 x22_2).f1) p108 q108
                have hw108_1 := hx108_1
                have hw108_0 := hx108_0
                obtain rfl : ad107 = ad108 := (by injection e108)
                replace hx108_0 := (HB.out.cell (World.block_lt_of_cell? w _ hx108_0)).trans hx108_0
                replace hx108_1 := (HB.out.cell (World.block_lt_of_cell? w _ hx108_1)).trans hx108_1
                replace p108 := eq_true p108
                replace q108 := eq_true q108
                have p109 : 0 ≤ (((rd_T65 t102 x22_2).f2) : Int) := of_decide_eq_true (by first | (with_reducible assumption) | assumption)
                have q109 : ((rd_T65 t102 x22_2).f2) < (l0.length : Int) := of_decide_eq_true (by first | (with_reducible assumption) | assumption)
                obtain ⟨ad109, e109, hx109_0, hx109_1⟩ := at_T25 HR0.out ((rd_T65 t102 x22_2).f2) p109 q109
                have hw109_1 := hx109_1
                have hw109_0 := hx109_0
                obtain rfl : ad107 = ad109 := (by injection e109)
                replace hx109_0 := (HB.out.cell (World.block_lt_of_cell? w _ hx109_0)).trans hx109_0
                replace hx109_1 := (HB.out.cell (World.block_lt_of_cell? w _ hx109_1)).trans hx109_1
                replace p109 := eq_true p109
                replace q109 := eq_true q109
                refine start_ (n := 17) (S := fun w' => w'.cell? ⟨gb106, 0, none⟩ = some (.int .i64 ((rd_T65 t102 x22_2).f0)) ∧ w'.cell? ⟨gb106, 1, none⟩ = some (.int .i64 ((rd_T65 t102 x22_2).f1)) ∧ w'.cell? ⟨gb106, 2, none⟩ = some (.int .i64 ((rd_T65 t102 x22_2).f2)) ∧ w'.cell? (ad107.add ((((rd_T65 t102 x22_2).f0)).toNat * 2)) = some (.int .i64 ((rd_T25 l0 ((rd_T65 t102 x22_2).f0)).f0)) ∧ w'.cell? ⟨(ad107.add ((((rd_T65 t102 x22_2).f0)).toNat * 2)).block, (ad107.add ((((rd_T65 t102 x22_2).f0)).toNat * 2)).off + 1, none⟩ = some (.int .i64 ((rd_T25 l0 ((rd_T65 t102 x22_2).f0)).f1)) ∧ w'.cell? (ad107.add ((((rd_T65 t102 x22_2).f1)).toNat * 2)) = some (.int .i64 ((rd_T25 l0 ((rd_T65 t102 x22_2).f1)).f0)) ∧ w'.cell? ⟨(ad107.add ((((rd_T65 t102 x22_2).f1)).toNat * 2)).block, (ad107.add ((((rd_T65 t102 x22_2).f1)).toNat * 2)).off + 1, none⟩ = some (.int .i64 ((rd_T25 l0 ((rd_T65 t102 x22_2).f1)).f1)) ∧ w'.cell? (ad107.add ((((rd_T65 t102 x22_2).f2)).toNat * 2)) = some (.int .i64 ((rd_T25 l0 ((rd_T65 t102 x22_2).f2)).f0)) ∧ w'.cell? ⟨(ad107.add ((((rd_T65 t102 x22_2).f2)).toNat * 2)).block, (ad107.add ((((rd_T65 t102 x22_2).f2)).toNat * 2)).off + 1, none⟩ = some (.int .i64 ((rd_T25 l0 ((rd_T65 t102 x22_2).f2)).f1))) (ds := []) (bm 17 0) (by kernel_rfl) rfl rfl ⟨(blk_cell BK106.out 0).trans rfl, (blk_cell BK106.out 1).trans rfl, (blk_cell BK106.out 2).trans rfl, ((HB.out.cell (World.block_lt_of_cell? w _ hw107_0)).trans hw107_0), ((HB.out.cell (World.block_lt_of_cell? w _ hw107_1)).trans hw107_1), ((HB.out.cell (World.block_lt_of_cell? w _ hw108_0)).trans hw108_0), ((HB.out.cell (World.block_lt_of_cell? w _ hw108_1)).trans hw108_1), ((HB.out.cell (World.block_lt_of_cell? w _ hw109_0)).trans hw109_0), ((HB.out.cell (World.block_lt_of_cell? w _ hw109_1)).trans hw109_1)⟩ (fun hHeld => ?_); refine with_tabW impl_ArePoints.tab6 impl_ArePoints.bits6 (fun HT_ HW_ => ?_)
                generalize w29.drew = w30 at HO_20 BK106 HB hx107_0 hx107_1 hx108_0 hx108_1 hx109_0 hx109_1 hHeld ⊢
                refine plan_ ((0, 0, 26, 1) :: (0, 1, 27, 3) :: (0, 5, 31, 35) :: (0, 6, 32, 99) :: (0, 10, 36, 1123) :: (0, 11, 37, 3171) :: (2, 2, 28, 3175) :: (0, 3, 29, 3183) :: (2, 4, 30, 3199) :: (2, 7, 33, 3327) :: (0, 8, 34, 3583) :: (2, 9, 35, 4095) :: (2, 12, 38, 8191) :: (0, 13, 39, 16383) :: (2, 14, 40, 32767) :: []) ?_
                iterate 15 (first | (refine planV_ ?_ ?_ rfl rfl (any_of HT_.out (by kernel_rfl)) (fun _ _ _ h => h) (Or.inl ⟨by rfl, ?_⟩) ?_ ?_; rotate_left 2; (· intro w'; go_simp; with_reducible rfl); (· simp only [Act.put, List.setIfInBounds_toArray, List.set_cons_zero, List.set_cons_succ, i64_w, i32_w]; rfl)) | (refine planT_ ?_ ?_ rfl rfl (take_ofW HT_.out HW_.out (by kernel_rfl)) (fun _ _ _ h => h) (Or.inl ⟨by rfl, ?_⟩) hHeld ?_ ?_; rotate_left 2; (· rintro w' ⟨s0, s1, s2, s3, s4, s5, s6, s7, s8⟩; go_simp; with_reducible rfl); (· simp only [Act.put, List.setIfInBounds_toArray, List.set_cons_zero, List.set_cons_succ, i64_w, i32_w]; rfl)))
                refine planEnd_ ?_
                refine one_ (i := 15) (N := some 41) (bm 17 65535) rfl rfl (one_of HT_.out (by kernel_rfl)) (by decide) (fun K hK => ?_)
                refine goes_ Try.func105 (by kernel_rfl) rfl #[.agg #[.int .i64 ((rd_T25 l0 ((rd_T65 t102 x22_2).f0)).f0), .int .i64 ((rd_T25 l0 ((rd_T65 t102 x22_2).f0)).f1)], .agg #[.int .i64 ((rd_T25 l0 ((rd_T65 t102 x22_2).f1)).f0), .int .i64 ((rd_T25 l0 ((rd_T65 t102 x22_2).f1)).f1)], .agg #[.int .i64 ((rd_T25 l0 ((rd_T65 t102 x22_2).f2)).f0), .int .i64 ((rd_T25 l0 ((rd_T65 t102 x22_2).f2)).f1)]] (by rfl) rfl rfl (by (try simp only [List.map_toArray, List.map_cons, List.map_nil]); first | done | rfl | (simp only [List.length_drop, List.length_take]; rfl)) ?_
                with_reducible refine (impl_TurnOf.calls ((rd_T25 l0 ((rd_T65 t102 x22_2).f0)).f0) ((rd_T25 l0 ((rd_T65 t102 x22_2).f0)).f1) ((rd_T25 l0 ((rd_T65 t102 x22_2).f1)).f0) ((rd_T25 l0 ((rd_T65 t102 x22_2).f1)).f1) ((rd_T25 l0 ((rd_T65 t102 x22_2).f2)).f0) ((rd_T25 l0 ((rd_T65 t102 x22_2).f2)).f1) t110 _ A20.out).mono ?_
                rintro e w31 ⟨rfl, hb⟩
                refine ⟨_, rfl, ?_⟩
                have n0_ := Aside0.mk (Kd.R_below (by (with_reducible repeat (first | apply Kd.R_alloc | apply Kd.R_drewN | apply Kd.R_drew)); exact HO_20.out) hb)
                have n1_ := Aside0.mk (blk_below (g := gb106) (o := .cells #[.int .i64 ((rd_T65 t102 x22_2).f0), .int .i64 ((rd_T65 t102 x22_2).f1), .int .i64 ((rd_T65 t102 x22_2).f2)] 65 (0, 0)) (by (with_reducible repeat (first | refine blk_drewN ?_ _ | refine blk_drew ?_ | refine blk_alloc ?_ _)); exact BK106.out) hb)
                have n2_ := Aside0.mk (below_step (by repeat (first | (with_reducible first | exact HB.out | apply below_alloc | apply pw_below_drewN | apply below_drew1 | refine below_set ?_ GE106.out) | exact HB.out)) hb)
                clear HO_20
                clear BK106
                clear HB
                have HO_20 := n0_
                have BK106 := n1_
                have HB := n2_
                clear n0_ n1_ n2_
                (try clear hb)
                (try clear hb2)
                (try clear hk)
                (try clear hi)
                refine hK.out _ _ ⟨(blk_cell BK106.out 0).trans rfl, (blk_cell BK106.out 1).trans rfl, (blk_cell BK106.out 2).trans rfl, ((HB.out.cell (World.block_lt_of_cell? w _ hw107_0)).trans hw107_0), ((HB.out.cell (World.block_lt_of_cell? w _ hw107_1)).trans hw107_1), ((HB.out.cell (World.block_lt_of_cell? w _ hw108_0)).trans hw108_0), ((HB.out.cell (World.block_lt_of_cell? w _ hw108_1)).trans hw108_1), ((HB.out.cell (World.block_lt_of_cell? w _ hw109_0)).trans hw109_0), ((HB.out.cell (World.block_lt_of_cell? w _ hw109_1)).trans hw109_1)⟩ (fun hHeld => ?_)
                clear hK K
                refine norm_ (a' := ?_) ?_ ?_
                rotate_left
                ·show Act.put _ (some 41) _ = _
                 simp only [Act.put, List.setIfInBounds_toArray, List.set_cons_zero, List.set_cons_succ, i64_w, i32_w]
                 rfl
                refine plan_ ((0, 16, 42, 131071) :: []) ?_
                iterate 1 (first | (refine planV_ ?_ ?_ rfl rfl (any_of HT_.out (by kernel_rfl)) (fun _ _ _ h => h) (Or.inl ⟨by rfl, ?_⟩) ?_ ?_; rotate_left 2; (· intro w'; go_simp; with_reducible rfl); (· simp only [Act.put, List.setIfInBounds_toArray, List.set_cons_zero, List.set_cons_succ, i64_w, i32_w]; rfl)))
                refine planEnd_ ?_
                refine done_ (done_of HT_.out (by kernel_rfl)) ?_
                try go_wp2
                go_roundg k2
                case measure => have := HJ1.out; have := HK2.out; omega
                case rel => exact ⟨(wrap64 (x22_2 + 1)), (by first | rfl | (simp; done) | (simp [*]; done)), H', ⟨by have := HJ1.out; have := HK2.out; omega⟩, ⟨by (with_reducible repeat (first | apply Kd.R_alloc | apply Kd.R_drewN | apply Kd.R_drew)); exact Kd.R_mono HO_20.out (fun _ hk => trivial)⟩, ⟨by repeat (first | (with_reducible first | exact HB.out | apply below_alloc | apply pw_below_drewN | apply below_drew1 | refine below_set ?_ GE106.out) | exact HB.out)⟩⟩
              ·rw [if_neg c19] at H
               exact absurd H (by simp)
             ·rw [if_neg c18] at H
              exact absurd H (by simp)
            ·rw [if_neg c17] at H
             exact absurd H (by simp)
           ·rw [if_neg c16] at H
            exact absurd H (by simp)
          ·rw [if_neg c15] at H
           exact absurd H (by simp)
         ·rw [if_neg c14] at H
          exact absurd H (by simp)
        ·rw [if_neg c13] at H
         exact absurd H (by simp)
       ·rw [if_neg c12] at H
        exact absurd H (by simp)
      ·rw [if_neg c11] at H
       have c11b0 : decide (x22_2 < (t102.length : Int)) = false := decide_eq_false c11
       clear c11
       obtain rfl := Option.some.inj H
       go_wp2
       go_ret
       exact ⟨by first | rfl | (simp [errW_none, errW_some] <;> rfl) | (simp [*, errW_none, errW_some] <;> rfl), by repeat (first | (with_reducible first | exact HB.out | apply below_alloc | apply pw_below_drewN | apply below_drew1) | exact HB.out)⟩

end Go.Proofs.Ytijgjpfbhbggdaa.P

namespace Go.Proofs.Ytijgjpfbhbggdaa.P
open Go.RowKit Go.Proofs.YtijgjpfbhbggdaaW.PrintWords Go.Proofs.YtijgjpfbhbggdaaW.PrintLast Go.Proofs.YtijgjpfbhbggdaaW.PrintMore
attribute [local go_sem] max2_int min2_int max_two min_two max_three min_three max_four min_four   -- for this text's walks alone
set_option linter.unusedVariables false
set_option linter.unusedSimpArgs false

/-! ### impl_CenterTimes: function 18 -/
def cStep (s : Int × Int) (p : S25) : Int × Int := (wrap64 (s.1 + p.f0), wrap64 (s.2 + p.f1))
def impl_CenterTimes.f (k : Nat) (l0 : List S25) : Option (Int × Int) := (impl_ArePoints.f k l0).bind fun t => some (if t = true then l0.foldl cStep (0, 0) else (0, 0))
theorem impl_CenterTimes.mono : ∀ a0 k, LeO (impl_CenterTimes.f k a0) (impl_CenterTimes.f (k + 1) a0) := fun a0 k => LeO.bind (impl_ArePoints.mono a0 k) (fun _ => LeO.refl _)
def impl_CenterTimes.T6 : Bool × List (List Nat × List Nat) := (true, [([], []), ([0], [0]), ([], []), ([2], [2]), ([1, 3], [1, 3]), ([], []), ([5], [5]), ([], []), ([7], [7]), ([6, 8], [6, 8]), ([0, 1, 2, 3, 4, 5, 6], []), ([10, 4, 0, 1, 2, 3, 4, 5, 6], [4, 10]), ([0, 1, 2, 3, 4, 5, 6, 7, 8, 9, 10, 11], []), ([12, 9, 11, 0, 1, 2, 3, 4, 5, 6, 7, 8, 9, 10, 11], [9, 12])])
theorem impl_CenterTimes.tab6 : rtab .any (opsOf Try.f18 6) = impl_CenterTimes.T6 := by kernel_rfl
theorem cStep_drop (l : List S25) (k : Nat) (h : k < l.length) (s : Int × Int) : (l.drop k).foldl cStep s = (l.drop (k + 1)).foldl cStep (cStep s (rd_T25 l k)) := by
 rw [List.drop_eq_getElem_cons h]
 show _ = _
 rw [List.foldl_cons]
 congr 2
 simp [rd_T25, List.getD, List.getElem?_eq_getElem h]
set_option maxHeartbeats 8000000 in
set_option maxRecDepth 100000 in
theorem impl_CenterTimes.calls (k : Nat) (A0 : Option Addr) (c0 : Nat) (l0 : List S25) (r1 : Int) (r2 : Int) (w : World) (hr0 : Kd.C k25 w A0 l0.length l0) (hc0 : l0.length ≤ c0) (h : impl_CenterTimes.f k l0 = some (r1, r2)) :
  Calls Try.prog 18 #[.slice A0 l0.length c0] w fun e w' => e = .returned (.agg #[.int .i64 r1, .int .i64 r2]) ∧ Below w.heap.size w w' := by
 have hu25 := Try.underlying25
 obtain ⟨t, ht, hr⟩ := Option.bind_eq_some_iff.mp h
 have hmax : l0.length ≤ 9223372036854775807 := hr0.2.1
 have HT := Aside0.mk ht
 have HR := Aside0.mk hr0
 have HC := Aside0.mk hc0
 have HB := Aside0.mk (Below.refl w.heap.size w)
 clear h ht hr0 hc0
 cases t with
 | false =>
  have hr : ((0 : Int), (0 : Int)) = (r1, r2) := by simpa using hr
  injection hr with hr1 hr2
  subst hr1; subst hr2
  go_enter Try.func18, Try.ntmps18
  go_wp2_with (first | ((with_reducible refine gate_dst (N := 2) rfl ?_); refine box_event ?hg (N := 2) ?hd (cs := #[.int .i64 0, .int .i64 0]) (t := 25) ?hr ?_; (case hd => rfl); (case hg => rfl); (case hr => first | (go_simp; done) | (go_simp; rfl)); intro gb101 hg w2 hbox hb; have n0_ := Aside0.mk (below_step (by repeat (first | (with_reducible first | exact HB.out | apply below_alloc | apply pw_below_drewN | apply below_drew1) | exact HB.out)) hb); have n1_ := Aside0.mk (hbox); have n2_ := Aside0.mk ((by rw [hg]; exact (below_size (by repeat (first | (with_reducible first | exact HB.out | apply below_alloc | apply pw_below_drewN | apply below_drew1) | exact HB.out))) : w.heap.size ≤ gb101)); clear HB; have HB := n0_; have BK101 := n1_; have GE101 := n2_; clear n0_ n1_ n2_; clear hb hbox hg) | ((with_reducible refine gate_dst (N := 3) rfl ?_); refine box_event ?hg (N := 3) ?hd (cs := #[.int .i64 0, .int .i64 0]) (t := 25) ?hr ?_; (case hd => rfl); (case hg => rfl); (case hr => first | (go_simp; done) | (go_simp; rfl)); intro gb102 hg w3 hbox hb; have n0_ := Aside0.mk (blk_below (g := gb101) (o := .cells #[.int .i64 0, .int .i64 0] 25 (0, 0)) (by (with_reducible repeat (first | refine blk_drewN ?_ _ | refine blk_drew ?_ | refine blk_alloc ?_ _)); exact BK101.out) hb); have n1_ := Aside0.mk (below_step (by repeat (first | (with_reducible first | exact HB.out | apply below_alloc | apply pw_below_drewN | apply below_drew1 | refine below_set ?_ GE101.out) | exact HB.out)) hb); have n2_ := Aside0.mk (hbox); have n3_ := Aside0.mk ((by rw [hg]; exact (below_size (by repeat (first | (with_reducible first | exact HB.out | apply below_alloc | apply pw_below_drewN | apply below_drew1 | refine below_set ?_ GE101.out) | exact HB.out))) : w.heap.size ≤ gb102)); have n4_ := Aside0.mk ((by rw [hg]; exact Nat.ne_of_lt (blk_lt (g := gb101) (o := .cells #[.int .i64 0, .int .i64 0] 25 (0, 0)) (by (with_reducible repeat (first | refine blk_drewN ?_ _ | refine blk_drew ?_ | refine blk_alloc ?_ _)); exact BK101.out)) : gb101 ≠ gb102)); have n5_ := Aside0.mk ((by rw [hg]; exact Nat.ne_of_gt (blk_lt (g := gb101) (o := .cells #[.int .i64 0, .int .i64 0] 25 (0, 0)) (by (with_reducible repeat (first | refine blk_drewN ?_ _ | refine blk_drew ?_ | refine blk_alloc ?_ _)); exact BK101.out)) : gb102 ≠ gb101)); clear BK101; clear HB; have BK101 := n0_; have HB := n1_; have BK102 := n2_; have GE102 := n3_; have NB101_102 := n4_; have NB102_101 := n5_; clear n0_ n1_ n2_ n3_ n4_ n5_; clear hb hbox hg) | (go_at_call 56; (with_reducible refine (impl_ArePoints.calls k _ _ l0 false _ ?side1 ?side2 HT.out).mono ?_); (case side1 => repeat (first | exact (Kd.C_below HR.out HB.out) | (with_reducible refine Kd.C_alloc ?_ _) | (with_reducible refine Kd.C_drewN ?_ _) | (with_reducible refine Kd.C_drew ?_))); (case side2 => exact HC.out); rintro e w10 ⟨rfl, hb⟩; have n0_ := Aside0.mk (blk_below (g := gb101) (o := .cells #[.int .i64 0, .int .i64 0] 25 (0, 0)) (by (with_reducible repeat (first | refine blk_drewN ?_ _ | refine blk_drew ?_ | refine blk_alloc ?_ _)); exact BK101.out) hb); have n1_ := Aside0.mk (blk_below (g := gb102) (o := .cells #[.int .i64 0, .int .i64 0] 25 (0, 0)) (by (with_reducible repeat (first | refine blk_drewN ?_ _ | refine blk_drew ?_ | refine blk_alloc ?_ _)); exact BK102.out) hb); have n2_ := Aside0.mk (below_step (by repeat (first | (with_reducible first | exact HB.out | apply below_alloc | apply pw_below_drewN | apply below_drew1 | refine below_set ?_ GE101.out | refine below_set ?_ GE102.out) | exact HB.out)) hb); clear BK101; clear BK102; clear HB; have BK101 := n0_; have BK102 := n1_; have HB := n2_; clear n0_ n1_ n2_; clear hb; have hnb1 := NB101_102.out; have hnc1 := NB102_101.out; have hcz1_0 : w10.cell? ⟨gb101, 0, none⟩ = some (.int .i64 0) := (blk_cell BK101.out 0).trans rfl; have hcz1_1 : w10.cell? ⟨gb101, 1, none⟩ = some (.int .i64 0) := (blk_cell BK101.out 1).trans rfl; have hfz1_0 := blk_frozen BK101.out 0; have hfz1_1 := blk_frozen BK101.out 1; have hcz2_0 : w10.cell? ⟨gb102, 0, none⟩ = some (.int .i64 0) := (blk_cell BK102.out 0).trans rfl; have hcz2_1 : w10.cell? ⟨gb102, 1, none⟩ = some (.int .i64 0) := (blk_cell BK102.out 1).trans rfl; have hfz2_0 := blk_frozen BK102.out 0; have hfz2_1 := blk_frozen BK102.out 1))
  refine bodyPost_ret (results_cell_row rfl _ _ gb101 25 #[.int .i64 0, .int .i64 0] (0, 0) _ rfl (by (with_reducible repeat (first | refine blk_drewN ?_ _ | refine blk_drew ?_ | refine blk_alloc ?_ _)); refine blk_put (cs := #[.int .i64 0, .int .i64 0]) ?_ 1 _ rfl; (with_reducible repeat (first | refine blk_drewN ?_ _ | refine blk_drew ?_ | refine blk_alloc ?_ _)); refine blk_put (cs := #[.int .i64 0, .int .i64 0]) ?_ 0 _ rfl; (with_reducible repeat (first | refine blk_drewN ?_ _ | refine blk_drew ?_ | refine blk_alloc ?_ _)); exact BK101.out) Try.underlying25 rfl (by kernel_rfl)) rfl ?_
  exact ⟨rfl, by repeat (first | (with_reducible first | exact HB.out | apply below_alloc | apply pw_below_drewN | apply below_drew1 | refine below_set ?_ GE101.out | refine below_set ?_ GE102.out) | exact HB.out)⟩
 | true =>
  have hr : l0.foldl cStep (0, 0) = (r1, r2) := by simpa using hr
  have HE := Aside0.mk hr
  clear hr
  go_enter Try.func18, Try.ntmps18
  go_wp2_with (first | ((with_reducible refine gate_dst (N := 2) rfl ?_); refine box_event ?hg (N := 2) ?hd (cs := #[.int .i64 0, .int .i64 0]) (t := 25) ?hr ?_; (case hd => rfl); (case hg => rfl); (case hr => first | (go_simp; done) | (go_simp; rfl)); intro gb101 hg w2 hbox hb; have n0_ := Aside0.mk (below_step (by repeat (first | (with_reducible first | exact HB.out | apply below_alloc | apply pw_below_drewN | apply below_drew1) | exact HB.out)) hb); have n1_ := Aside0.mk (hbox); have n2_ := Aside0.mk ((by rw [hg]; exact (below_size (by repeat (first | (with_reducible first | exact HB.out | apply below_alloc | apply pw_below_drewN | apply below_drew1) | exact HB.out))) : w.heap.size ≤ gb101)); clear HB; have HB := n0_; have BK101 := n1_; have GE101 := n2_; clear n0_ n1_ n2_; clear hb hbox hg) | ((with_reducible refine gate_dst (N := 3) rfl ?_); refine box_event ?hg (N := 3) ?hd (cs := #[.int .i64 0, .int .i64 0]) (t := 25) ?hr ?_; (case hd => rfl); (case hg => rfl); (case hr => first | (go_simp; done) | (go_simp; rfl)); intro gb102 hg w3 hbox hb; have n0_ := Aside0.mk (blk_below (g := gb101) (o := .cells #[.int .i64 0, .int .i64 0] 25 (0, 0)) (by (with_reducible repeat (first | refine blk_drewN ?_ _ | refine blk_drew ?_ | refine blk_alloc ?_ _)); exact BK101.out) hb); have n1_ := Aside0.mk (below_step (by repeat (first | (with_reducible first | exact HB.out | apply below_alloc | apply pw_below_drewN | apply below_drew1 | refine below_set ?_ GE101.out) | exact HB.out)) hb); have n2_ := Aside0.mk (hbox); have n3_ := Aside0.mk ((by rw [hg]; exact (below_size (by repeat (first | (with_reducible first | exact HB.out | apply below_alloc | apply pw_below_drewN | apply below_drew1 | refine below_set ?_ GE101.out) | exact HB.out))) : w.heap.size ≤ gb102)); have n4_ := Aside0.mk ((by rw [hg]; exact Nat.ne_of_lt (blk_lt (g := gb101) (o := .cells #[.int .i64 0, .int .i64 0] 25 (0, 0)) (by (with_reducible repeat (first | refine blk_drewN ?_ _ | refine blk_drew ?_ | refine blk_alloc ?_ _)); exact BK101.out)) : gb101 ≠ gb102)); have n5_ := Aside0.mk ((by rw [hg]; exact Nat.ne_of_gt (blk_lt (g := gb101) (o := .cells #[.int .i64 0, .int .i64 0] 25 (0, 0)) (by (with_reducible repeat (first | refine blk_drewN ?_ _ | refine blk_drew ?_ | refine blk_alloc ?_ _)); exact BK101.out)) : gb102 ≠ gb101)); clear BK101; clear HB; have BK101 := n0_; have HB := n1_; have BK102 := n2_; have GE102 := n3_; have NB101_102 := n4_; have NB102_101 := n5_; clear n0_ n1_ n2_ n3_ n4_ n5_; clear hb hbox hg) | (go_at_call 56; (with_reducible refine (impl_ArePoints.calls k _ _ l0 true _ ?side1 ?side2 HT.out).mono ?_); (case side1 => repeat (first | exact (Kd.C_below HR.out HB.out) | (with_reducible refine Kd.C_alloc ?_ _) | (with_reducible refine Kd.C_drewN ?_ _) | (with_reducible refine Kd.C_drew ?_))); (case side2 => exact HC.out); rintro e w10 ⟨rfl, hb⟩; have n0_ := Aside0.mk (blk_below (g := gb101) (o := .cells #[.int .i64 0, .int .i64 0] 25 (0, 0)) (by (with_reducible repeat (first | refine blk_drewN ?_ _ | refine blk_drew ?_ | refine blk_alloc ?_ _)); exact BK101.out) hb); have n1_ := Aside0.mk (blk_below (g := gb102) (o := .cells #[.int .i64 0, .int .i64 0] 25 (0, 0)) (by (with_reducible repeat (first | refine blk_drewN ?_ _ | refine blk_drew ?_ | refine blk_alloc ?_ _)); exact BK102.out) hb); have n2_ := Aside0.mk (below_step (by repeat (first | (with_reducible first | exact HB.out | apply below_alloc | apply pw_below_drewN | apply below_drew1 | refine below_set ?_ GE101.out | refine below_set ?_ GE102.out) | exact HB.out)) hb); clear BK101; clear BK102; clear HB; have BK101 := n0_; have BK102 := n1_; have HB := n2_; clear n0_ n1_ n2_; clear hb))
  go_loopg [10] l0.length (fun gg v10 wr => ∃ (kk : Nat) (x y : Int), v10 = .int .i64 kk ∧ kk ≤ l0.length ∧ l0.length - kk ≤ gg ∧ Aside0 ((l0.drop kk).foldl cStep (x, y) = (r1, r2)) ∧ Aside0 (wr.heap[gb101]? = some (.cells #[.int .i64 0, .int .i64 0] 25 (0, 0))) ∧ Aside0 (wr.heap[gb102]? = some (.cells #[.int .i64 x, .int .i64 y] 25 (0, 0))) ∧ Aside0 (Below w.heap.size w wr))
  case atStart => exact ⟨0, 0, 0, rfl, Nat.zero_le _, by omega, ⟨by simpa using HE.out⟩, BK101, BK102, HB⟩
  case round =>
   obtain ⟨kk, x, y, rfl, hkk, hg, HF, BK101, BK102, HB⟩ := hrel
   by_cases hlt : kk < l0.length
   ·have hltz : (kk : Int) < (l0.length : Int) := by omega
    have h0z : (0 : Int) ≤ (kk : Int) := by omega
    obtain ⟨ad, rfl, hx0, hx1⟩ := at_T25 (Kd.C_below HR.out HB.out) (kk : Int) h0z hltz
    simp only [Int.toNat_natCast] at hx0 hx1
    have HF2 := Aside0.mk ((cStep_drop l0 kk hlt (x, y)).symm.trans HF.out)
    generalize rd_T25 l0 (kk : Int) = pp at hx0 hx1 HF2
    go_wp2_with (first | ((with_reducible refine gate_dst (N := 5) rfl ?_); refine box_event ?hg (N := 5) ?hd (cs := #[.int .i64 0, .int .i64 0]) (t := 25) ?hr ?_; (case hd => rfl); (case hg => rfl); (case hr => first | (go_simp; done) | (go_simp; rfl)); intro gb103 hg w24 hbox hb; have n0_ := Aside0.mk (blk_below (g := gb101) (o := .cells #[.int .i64 0, .int .i64 0] 25 (0, 0)) (by (with_reducible repeat (first | refine blk_drewN ?_ _ | refine blk_drew ?_ | refine blk_alloc ?_ _)); exact BK101.out) hb); have n1_ := Aside0.mk (blk_below (g := gb102) (o := .cells #[.int .i64 x, .int .i64 y] 25 (0, 0)) (by (with_reducible repeat (first | refine blk_drewN ?_ _ | refine blk_drew ?_ | refine blk_alloc ?_ _)); exact BK102.out) hb); have n2_ := Aside0.mk (below_step (by repeat (first | (with_reducible first | exact HB.out | apply below_alloc | apply pw_below_drewN | apply below_drew1 | refine below_set ?_ GE101.out | refine below_set ?_ GE102.out) | exact HB.out)) hb); have n3_ := Aside0.mk (hbox); have n4_ := Aside0.mk ((by rw [hg]; exact (below_size (by repeat (first | (with_reducible first | exact HB.out | apply below_alloc | apply pw_below_drewN | apply below_drew1 | refine below_set ?_ GE101.out | refine below_set ?_ GE102.out) | exact HB.out))) : w.heap.size ≤ gb103)); have n5_ := Aside0.mk ((by rw [hg]; exact Nat.ne_of_lt (blk_lt (g := gb101) (o := .cells #[.int .i64 0, .int .i64 0] 25 (0, 0)) (by (with_reducible repeat (first | refine blk_drewN ?_ _ | refine blk_drew ?_ | refine blk_alloc ?_ _)); exact BK101.out)) : gb101 ≠ gb103)); have n6_ := Aside0.mk ((by rw [hg]; exact Nat.ne_of_gt (blk_lt (g := gb101) (o := .cells #[.int .i64 0, .int .i64 0] 25 (0, 0)) (by (with_reducible repeat (first | refine blk_drewN ?_ _ | refine blk_drew ?_ | refine blk_alloc ?_ _)); exact BK101.out)) : gb103 ≠ gb101)); have n7_ := Aside0.mk ((by rw [hg]; exact Nat.ne_of_lt (blk_lt (g := gb102) (o := .cells #[.int .i64 x, .int .i64 y] 25 (0, 0)) (by (with_reducible repeat (first | refine blk_drewN ?_ _ | refine blk_drew ?_ | refine blk_alloc ?_ _)); exact BK102.out)) : gb102 ≠ gb103)); have n8_ := Aside0.mk ((by rw [hg]; exact Nat.ne_of_gt (blk_lt (g := gb102) (o := .cells #[.int .i64 x, .int .i64 y] 25 (0, 0)) (by (with_reducible repeat (first | refine blk_drewN ?_ _ | refine blk_drew ?_ | refine blk_alloc ?_ _)); exact BK102.out)) : gb103 ≠ gb102)); clear BK101; clear BK102; clear HB; have BK101 := n0_; have BK102 := n1_; have HB := n2_; have BK103 := n3_; have GE103 := n4_; have NB101_103 := n5_; have NB103_101 := n6_; have NB102_103 := n7_; have NB103_102 := n8_; clear n0_ n1_ n2_ n3_ n4_ n5_ n6_ n7_ n8_; clear hb hbox hg; have hcz3_0 : w24.cell? ⟨gb103, 0, none⟩ = some (.int .i64 0) := (blk_cell BK103.out 0).trans rfl; have hcz3_1 : w24.cell? ⟨gb103, 1, none⟩ = some (.int .i64 0) := (blk_cell BK103.out 1).trans rfl; have hfz3_0 := blk_frozen BK103.out 0; have hfz3_1 := blk_frozen BK103.out 1))
    have m1_ : Aside0 (((w24.setCell ⟨gb103, 0, none⟩ (.int .i64 pp.f0)).setCell ⟨gb103, 1, none⟩ (.int .i64 pp.f1)).heap[gb101]? = some (.cells #[.int .i64 0, .int .i64 0] 25 (0, 0))) := ⟨blk_far (blk_far BK101.out NB101_103.out _) NB101_103.out _⟩
    have m2_ : Aside0 (((w24.setCell ⟨gb103, 0, none⟩ (.int .i64 pp.f0)).setCell ⟨gb103, 1, none⟩ (.int .i64 pp.f1)).heap[gb102]? = some (.cells #[.int .i64 x, .int .i64 y] 25 (0, 0))) := ⟨blk_far (blk_far BK102.out NB102_103.out _) NB102_103.out _⟩
    have m3_ : Aside0 (((w24.setCell ⟨gb103, 0, none⟩ (.int .i64 pp.f0)).setCell ⟨gb103, 1, none⟩ (.int .i64 pp.f1)).heap[gb103]? = some (.cells #[.int .i64 pp.f0, .int .i64 pp.f1] 25 (0, 0))) := ⟨blk_put (cs := #[.int .i64 pp.f0, .int .i64 0]) (blk_put (cs := #[.int .i64 0, .int .i64 0]) BK103.out 0 _ rfl) 1 _ rfl⟩
    have m4_ : Aside0 (Below w.heap.size w ((w24.setCell ⟨gb103, 0, none⟩ (.int .i64 pp.f0)).setCell ⟨gb103, 1, none⟩ (.int .i64 pp.f1))) := ⟨below_set (below_set HB.out GE103.out) GE103.out⟩
    clear BK101 BK102 BK103 HB hcz3_0 hcz3_1 hfz3_0 hfz3_1 hx0 hx1
    generalize ((w24.setCell ⟨gb103, 0, none⟩ (.int .i64 pp.f0)).setCell ⟨gb103, 1, none⟩ (.int .i64 pp.f1)) = w25 at m1_ m2_ m3_ m4_ ⊢
    have BK101 := Aside0.mk (blk_drew m1_.out)
    have BK102 := Aside0.mk (blk_drew m2_.out)
    have BK103 := Aside0.mk (blk_drew m3_.out)
    have HB := Aside0.mk (below_drew1 m4_.out)
    clear m1_ m2_ m3_ m4_
    refine start_ (n := 14) (S := fun w' => w'.cell? ⟨gb103, 0, none⟩ = some (.int .i64 pp.f0) ∧ w'.cell? ⟨gb103, 1, none⟩ = some (.int .i64 pp.f1) ∧ w'.cell? ⟨gb102, 1, none⟩ = some (.int .i64 y)) (ds := [13]) (bm 14 0) (by kernel_rfl) rfl rfl ⟨(blk_cell BK103.out 0).trans rfl, (blk_cell BK103.out 1).trans rfl, (blk_cell BK102.out 1).trans rfl⟩ (fun hHeld => ?_); refine with_tab impl_CenterTimes.tab6 (fun HT_ => ?_)
    generalize w25.drew = w26 at BK101 BK102 BK103 HB hHeld ⊢
    refine plan_ ((0, 0, 14, 1) :: (0, 2, 16, 5) :: (0, 5, 19, 37) :: (0, 7, 21, 165) :: (2, 3, 17, 173) :: (2, 6, 20, 237) :: (2, 8, 22, 493) :: (0, 9, 23, 1005) :: []) ?_
    iterate 8 (first | (refine planV_ ?_ ?_ rfl rfl (any_of HT_.out (by kernel_rfl)) (fun _ _ _ h => h) (Or.inl ⟨by rfl, ?_⟩) ?_ ?_; rotate_left 2; (· intro w'; go_simp; with_reducible rfl); (· simp only [Act.put, List.setIfInBounds_toArray, List.set_cons_zero, List.set_cons_succ, i64_w, i32_w]; rfl)) | (refine planT_ ?_ ?_ rfl rfl (take_of HT_.out (by kernel_rfl)) (fun _ _ _ h => h) (Or.inl ⟨by rfl, ?_⟩) hHeld ?_ ?_; rotate_left 2; (· rintro w' ⟨s0, s1, s2⟩; go_simp; with_reducible rfl); (· simp only [Act.put, List.setIfInBounds_toArray, List.set_cons_zero, List.set_cons_succ, i64_w, i32_w]; rfl)))
    refine planEnd_ ?_
    refine one_ (i := 1) (N := some 15) (bm 14 1007) rfl rfl (one_of HT_.out (by kernel_rfl)) (by decide) (fun K hK => ?_)
    have hl1 : w26.cell? ⟨gb102, 0, none⟩ = some (.int .i64 x) := (blk_cell BK102.out 0).trans rfl
    refine value_ (w1 := ?_) (v := ?_) (by rfl) rfl ?_ ?_
    rotate_left 2
    ·go_simp
     constructor
     ·rfl
     ·rfl
    refine hK.out _ _ hHeld (fun hHeld => ?_)
    clear hK K hl1
    refine norm_ (a' := ?_) ?_ ?_
    rotate_left
    ·show Act.put _ (some 15) _ = _
     simp only [Act.put, List.setIfInBounds_toArray, List.set_cons_zero, List.set_cons_succ, i64_w, i32_w]
     rfl
    refine plan_ ((0, 4, 18, 1023) :: (0, 10, 24, 2047) :: []) ?_
    iterate 2 (refine planV_ ?_ ?_ rfl rfl (any_of HT_.out (by kernel_rfl)) (fun _ _ _ h => h) (Or.inl ⟨by rfl, ?_⟩) ?_ ?_; rotate_left 2; (· intro w'; go_simp; with_reducible rfl); (· simp only [Act.put, List.setIfInBounds_toArray, List.set_cons_zero, List.set_cons_succ, i64_w, i32_w]; rfl))
    refine planEnd_ ?_
    refine one_ (i := 11) (N := none) (bm 14 4095) rfl rfl (one_of HT_.out (by kernel_rfl)) (by decide) (fun K hK => ?_)
    have hs1 : w26.cell? ⟨gb102, 0, none⟩ = some (.int .i64 x) := (blk_cell BK102.out 0).trans rfl
    have hfs1 := blk_frozen BK102.out 0
    refine skip_ (w1 := ?_) (by rfl) rfl ?_ ?_
    rotate_left
    ·go_simp
     rfl
    have m1_ : Aside0 ((w26.setCell ⟨gb102, 0, none⟩ (.int .i64 (wrap64 (x + pp.f0)))).heap[gb101]? = some (.cells #[.int .i64 0, .int .i64 0] 25 (0, 0))) := ⟨blk_far BK101.out NB101_102.out _⟩
    have m2_ : Aside0 ((w26.setCell ⟨gb102, 0, none⟩ (.int .i64 (wrap64 (x + pp.f0)))).heap[gb102]? = some (.cells #[.int .i64 (wrap64 (x + pp.f0)), .int .i64 y] 25 (0, 0))) := ⟨blk_put (cs := #[.int .i64 x, .int .i64 y]) BK102.out 0 _ rfl⟩
    have m3_ : Aside0 ((w26.setCell ⟨gb102, 0, none⟩ (.int .i64 (wrap64 (x + pp.f0)))).heap[gb103]? = some (.cells #[.int .i64 pp.f0, .int .i64 pp.f1] 25 (0, 0))) := ⟨blk_far BK103.out NB103_102.out _⟩
    have m4_ : Aside0 (Below w.heap.size w (w26.setCell ⟨gb102, 0, none⟩ (.int .i64 (wrap64 (x + pp.f0))))) := ⟨below_set HB.out GE102.out⟩
    clear BK101 BK102 BK103 HB hs1 hfs1 hHeld
    refine hK.out _ _ ⟨(blk_cell m3_.out 0).trans rfl, (blk_cell m3_.out 1).trans rfl, (blk_cell m2_.out 1).trans rfl⟩ (fun hHeld => ?_)
    clear hK K
    generalize (w26.setCell ⟨gb102, 0, none⟩ (.int .i64 (wrap64 (x + pp.f0)))) = w28 at m1_ m2_ m3_ m4_ hHeld ⊢
    refine plan_ ((0, 12, 25, 8191) :: []) ?_
    iterate 1 (refine planV_ ?_ ?_ rfl rfl (any_of HT_.out (by kernel_rfl)) (fun _ _ _ h => h) (Or.inl ⟨by rfl, ?_⟩) ?_ ?_; rotate_left 2; (· intro w'; go_simp; with_reducible rfl); (· simp only [Act.put, List.setIfInBounds_toArray, List.set_cons_zero, List.set_cons_succ, i64_w, i32_w]; rfl))
    refine planEnd_ ?_
    refine last_ (i := 13) (N := none) (bm 14 16383) rfl rfl (one_of HT_.out (by kernel_rfl)) (by decide) (fun K hK => ?_)
    have hs2 : w28.cell? ⟨gb102, 1, none⟩ = some (.int .i64 y) := (blk_cell m2_.out 1).trans rfl
    have hfs2 := blk_frozen m2_.out 1
    refine skip_ (w1 := ?_) (by rfl) rfl ?_ ?_
    rotate_left
    ·go_simp
     rfl
    refine hK.out _ _ ?_
    clear hK K
    refine done_ (done_of HT_.out (by kernel_rfl)) ?_
    try go_wp2
    go_roundg (l0.length - (kk + 1))
    case measure => omega
    case rel => exact ⟨kk + 1, (wrap64 (x + pp.f0)), (wrap64 (y + pp.f1)), by go_num, by omega, by omega, HF2, ⟨blk_far m1_.out NB101_102.out _⟩, ⟨blk_put (cs := #[.int .i64 (wrap64 (x + pp.f0)), .int .i64 y]) m2_.out 1 _ rfl⟩, ⟨below_set m4_.out GE102.out⟩⟩
   ·have hltz : ¬ (kk : Int) < (l0.length : Int) := by omega
    have hf : (x, y) = (r1, r2) := by have := HF.out; rw [List.drop_of_length_le (by omega)] at this; exact this
    injection hf with hf1 hf2
    subst hf1; subst hf2
    have hnb1 := NB101_102.out; have hnc1 := NB102_101.out
    have hcz1_0 : wr.cell? ⟨gb101, 0, none⟩ = some (.int .i64 0) := (blk_cell BK101.out 0).trans rfl; have hcz1_1 : wr.cell? ⟨gb101, 1, none⟩ = some (.int .i64 0) := (blk_cell BK101.out 1).trans rfl; have hfz1_0 := blk_frozen BK101.out 0; have hfz1_1 := blk_frozen BK101.out 1
    have hcz2_0 : wr.cell? ⟨gb102, 0, none⟩ = some (.int .i64 x) := (blk_cell BK102.out 0).trans rfl; have hcz2_1 : wr.cell? ⟨gb102, 1, none⟩ = some (.int .i64 y) := (blk_cell BK102.out 1).trans rfl; have hfz2_0 := blk_frozen BK102.out 0; have hfz2_1 := blk_frozen BK102.out 1
    go_wp2
    refine bodyPost_ret (results_cell_row rfl _ _ gb101 25 #[.int .i64 x, .int .i64 y] (0, 0) _ rfl (by (with_reducible repeat (first | refine blk_drewN ?_ _ | refine blk_drew ?_ | refine blk_alloc ?_ _)); refine blk_put (cs := #[.int .i64 x, .int .i64 0]) ?_ 1 _ rfl; (with_reducible repeat (first | refine blk_drewN ?_ _ | refine blk_drew ?_ | refine blk_alloc ?_ _)); refine blk_put (cs := #[.int .i64 0, .int .i64 0]) ?_ 0 _ rfl; (with_reducible repeat (first | refine blk_drewN ?_ _ | refine blk_drew ?_ | refine blk_alloc ?_ _)); exact BK101.out) Try.underlying25 rfl (by kernel_rfl)) rfl ?_
    exact ⟨rfl, by repeat (first | (with_reducible first | exact HB.out | apply below_alloc | apply pw_below_drewN | apply below_drew1 | refine below_set ?_ GE101.out | refine below_set ?_ GE102.out) | exact HB.out)⟩

end Go.Proofs.Ytijgjpfbhbggdaa.P

namespace Go.Proofs.Ytijgjpfbhbggdaa.P
open Go.RowKit Go.Proofs.YtijgjpfbhbggdaaW.PrintWords Go.Proofs.YtijgjpfbhbggdaaW.PrintLast Go.Proofs.YtijgjpfbhbggdaaW.PrintMore
attribute [local go_sem] max2_int min2_int max_two min_two max_three min_three max_four min_four   -- for this text's walks alone
set_option linter.unusedVariables false
set_option linter.unusedSimpArgs false

/-! ### laws_eqPoint: function 19 -/
def laws_eqPoint.f (a0_0 : Int) (a0_1 : Int) (a1_0 : Int) (a1_1 : Int) : Option (Bool) := if a0_0 = a1_0 then (if a0_1 = a1_1 then (some true) else (some false)) else (some false)
set_option maxHeartbeats 8000000 in
set_option maxRecDepth 100000 in
theorem laws_eqPoint.calls (a0_0 : Int) (a0_1 : Int) (a1_0 : Int) (a1_1 : Int) (r : Bool) (w : World) (h : laws_eqPoint.f a0_0 a0_1 a1_0 a1_1 = some r) :
  Calls Try.prog 19 #[.agg #[.int .i64 a0_0, .int .i64 a0_1], .agg #[.int .i64 a1_0, .int .i64 a1_1]] w fun e w' => e = .returned (.bool r) ∧ Below w.heap.size w w' := by
 have hu25 := Try.underlying25
 have HB := Aside0.mk (Below.refl w.heap.size w)
 have H : (if a0_0 = a1_0 then (if a0_1 = a1_1 then (some true) else (some false)) else (some false)) = some r := h
 clear h
 by_cases c3 : a0_0 = a1_0
 ·rw [if_pos c3] at H
  have c3b0 : (a0_0 == a1_0) = true := beq_iff_eq.mpr c3
  have c3b1 : (a0_0 != a1_0) = false := bne_eq_false_iff_eq.mpr c3
  clear c3
  by_cases c4 : a0_1 = a1_1
  ·rw [if_pos c4] at H
   have c4b0 : (a0_1 == a1_1) = true := beq_iff_eq.mpr c4
   have c4b1 : (a0_1 != a1_1) = false := bne_eq_false_iff_eq.mpr c4
   clear c4
   obtain rfl := Option.some.inj H
   go_enter Try.func19, Try.ntmps19
   go_wp2_with (first | ((with_reducible refine gate_dst (N := 2) rfl ?_); refine box_event ?hg (N := 2) ?hd (cs := #[.int .i64 a0_0, .int .i64 a0_1]) (t := 25) ?hr ?_; (case hd => rfl); (case hg => rfl); (case hr => first | (go_simp; done) | (go_simp; rfl)); intro gb101 hg w5 hbox hb; have n0_ := Aside0.mk (below_step (by repeat (first | (with_reducible first | exact HB.out | apply below_alloc | apply pw_below_drewN | apply below_drew1) | exact HB.out)) hb); have n1_ := Aside0.mk (hbox); have n2_ := Aside0.mk ((by rw [hg]; exact (below_size (by repeat (first | (with_reducible first | exact HB.out | apply below_alloc | apply pw_below_drewN | apply below_drew1) | exact HB.out))) : w.heap.size ≤ gb101)); have n3_ := Aside0.mk ((by rw [hg]; exact (below_size (by repeat (first | (with_reducible first | exact HB.out | apply below_alloc | apply pw_below_drewN | apply below_drew1) | exact HB.out))) : w.heap.size ≤ gb101)); clear HB; have HB := n0_; have BK101 := n1_; have GW101 := n2_; have GE101 := n3_; clear n0_ n1_ n2_ n3_; clear hb hbox hg) | ((with_reducible refine gate_dst (N := 3) rfl ?_); refine box_event ?hg (N := 3) ?hd (cs := #[.int .i64 a1_0, .int .i64 a1_1]) (t := 25) ?hr ?_; (case hd => rfl); (case hg => rfl); (case hr => first | (go_simp; done) | (go_simp; rfl)); intro gb102 hg w6 hbox hb; have n0_ := Aside0.mk (blk_below (g := gb101) (o := .cells #[.int .i64 a0_0, .int .i64 a0_1] 25 (0, 0)) (by (with_reducible repeat (first | refine blk_drewN ?_ _ | refine blk_drew ?_ | refine blk_alloc ?_ _)); exact BK101.out) hb); have n1_ := Aside0.mk (below_step (by repeat (first | (with_reducible first | exact HB.out | apply below_alloc | apply pw_below_drewN | apply below_drew1 | refine below_set ?_ GE101.out) | exact HB.out)) hb); have n2_ := Aside0.mk (hbox); have n3_ := Aside0.mk ((by rw [hg]; exact (below_size (by repeat (first | (with_reducible first | exact HB.out | apply below_alloc | apply pw_below_drewN | apply below_drew1 | refine below_set ?_ GE101.out) | exact HB.out))) : w.heap.size ≤ gb102)); have n4_ := Aside0.mk ((by rw [hg]; exact (below_size (by repeat (first | (with_reducible first | exact HB.out | apply below_alloc | apply pw_below_drewN | apply below_drew1 | refine below_set ?_ GE101.out) | exact HB.out))) : w.heap.size ≤ gb102)); have n5_ := Aside0.mk ((by rw [hg]; exact Nat.ne_of_lt (blk_lt (g := gb101) (o := .cells #[.int .i64 a0_0, .int .i64 a0_1] 25 (0, 0)) (by (with_reducible repeat (first | refine blk_drewN ?_ _ | refine blk_drew ?_ | refine blk_alloc ?_ _)); exact BK101.out)) : gb101 ≠ gb102)); have n6_ := Aside0.mk ((by rw [hg]; exact Nat.ne_of_gt (blk_lt (g := gb101) (o := .cells #[.int .i64 a0_0, .int .i64 a0_1] 25 (0, 0)) (by (with_reducible repeat (first | refine blk_drewN ?_ _ | refine blk_drew ?_ | refine blk_alloc ?_ _)); exact BK101.out)) : gb102 ≠ gb101)); clear BK101; clear HB; have BK101 := n0_; have HB := n1_; have BK102 := n2_; have GW102 := n3_; have GE102 := n4_; have NB101_102 := n5_; have NB102_101 := n6_; clear n0_ n1_ n2_ n3_ n4_ n5_ n6_; clear hb hbox hg; have hnb7 := NB101_102.out; have hnc7 := NB102_101.out; have hcz8_0 : w6.cell? ⟨gb101, 0, none⟩ = some (.int .i64 a0_0) := (blk_cell BK101.out 0).trans rfl; have hcz8_1 : w6.cell? ⟨gb101, 1, none⟩ = some (.int .i64 a0_1) := (blk_cell BK101.out 1).trans rfl; have hfz8_0 := blk_frozen BK101.out 0; have hfz8_1 := blk_frozen BK101.out 1; have hcz9_0 : w6.cell? ⟨gb102, 0, none⟩ = some (.int .i64 a1_0) := (blk_cell BK102.out 0).trans rfl; have hcz9_1 : w6.cell? ⟨gb102, 1, none⟩ = some (.int .i64 a1_1) := (blk_cell BK102.out 1).trans rfl; have hfz9_0 := blk_frozen BK102.out 0; have hfz9_1 := blk_frozen BK102.out 1))
   go_ret
   exact ⟨by first | rfl | (simp [errW_none, errW_some] <;> rfl) | (simp [*, errW_none, errW_some] <;> rfl), by repeat (first | (with_reducible first | exact HB.out | apply below_alloc | apply pw_below_drewN | apply below_drew1 | refine below_set ?_ GE101.out | refine below_set ?_ GE102.out) | exact HB.out)⟩
  ·rw [if_neg c4] at H
   have c4b0 : (a0_1 == a1_1) = false := beq_eq_false_iff_ne.mpr c4
   have c4b1 : (a0_1 != a1_1) = true := bne_iff_ne.mpr c4
   obtain rfl := Option.some.inj H
   go_enter Try.func19, Try.ntmps19
   go_wp2_with (first | ((with_reducible refine gate_dst (N := 2) rfl ?_); refine box_event ?hg (N := 2) ?hd (cs := #[.int .i64 a0_0, .int .i64 a0_1]) (t := 25) ?hr ?_; (case hd => rfl); (case hg => rfl); (case hr => first | (go_simp; done) | (go_simp; rfl)); intro gb101 hg w10 hbox hb; have n0_ := Aside0.mk (below_step (by repeat (first | (with_reducible first | exact HB.out | apply below_alloc | apply pw_below_drewN | apply below_drew1) | exact HB.out)) hb); have n1_ := Aside0.mk (hbox); have n2_ := Aside0.mk ((by rw [hg]; exact (below_size (by repeat (first | (with_reducible first | exact HB.out | apply below_alloc | apply pw_below_drewN | apply below_drew1) | exact HB.out))) : w.heap.size ≤ gb101)); have n3_ := Aside0.mk ((by rw [hg]; exact (below_size (by repeat (first | (with_reducible first | exact HB.out | apply below_alloc | apply pw_below_drewN | apply below_drew1) | exact HB.out))) : w.heap.size ≤ gb101)); clear HB; have HB := n0_; have BK101 := n1_; have GW101 := n2_; have GE101 := n3_; clear n0_ n1_ n2_ n3_; clear hb hbox hg) | ((with_reducible refine gate_dst (N := 3) rfl ?_); refine box_event ?hg (N := 3) ?hd (cs := #[.int .i64 a1_0, .int .i64 a1_1]) (t := 25) ?hr ?_; (case hd => rfl); (case hg => rfl); (case hr => first | (go_simp; done) | (go_simp; rfl)); intro gb102 hg w11 hbox hb; have n0_ := Aside0.mk (blk_below (g := gb101) (o := .cells #[.int .i64 a0_0, .int .i64 a0_1] 25 (0, 0)) (by (with_reducible repeat (first | refine blk_drewN ?_ _ | refine blk_drew ?_ | refine blk_alloc ?_ _)); exact BK101.out) hb); have n1_ := Aside0.mk (below_step (by repeat (first | (with_reducible first | exact HB.out | apply below_alloc | apply pw_below_drewN | apply below_drew1 | refine below_set ?_ GE101.out) | exact HB.out)) hb); have n2_ := Aside0.mk (hbox); have n3_ := Aside0.mk ((by rw [hg]; exact (below_size (by repeat (first | (with_reducible first | exact HB.out | apply below_alloc | apply pw_below_drewN | apply below_drew1 | refine below_set ?_ GE101.out) | exact HB.out))) : w.heap.size ≤ gb102)); have n4_ := Aside0.mk ((by rw [hg]; exact (below_size (by repeat (first | (with_reducible first | exact HB.out | apply below_alloc | apply pw_below_drewN | apply below_drew1 | refine below_set ?_ GE101.out) | exact HB.out))) : w.heap.size ≤ gb102)); have n5_ := Aside0.mk ((by rw [hg]; exact Nat.ne_of_lt (blk_lt (g := gb101) (o := .cells #[.int .i64 a0_0, .int .i64 a0_1] 25 (0, 0)) (by (with_reducible repeat (first | refine blk_drewN ?_ _ | refine blk_drew ?_ | refine blk_alloc ?_ _)); exact BK101.out)) : gb101 ≠ gb102)); have n6_ := Aside0.mk ((by rw [hg]; exact Nat.ne_of_gt (blk_lt (g := gb101) (o := .cells #[.int .i64 a0_0, .int .i64 a0_1] 25 (0, 0)) (by (with_reducible repeat (first | refine blk_drewN ?_ _ | refine blk_drew ?_ | refine blk_alloc ?_ _)); exact BK101.out)) : gb102 ≠ gb101)); clear BK101; clear HB; have BK101 := n0_; have HB := n1_; have BK102 := n2_; have GW102 := n3_; have GE102 := n4_; have NB101_102 := n5_; have NB102_101 := n6_; clear n0_ n1_ n2_ n3_ n4_ n5_ n6_; clear hb hbox hg; have hnb12 := NB101_102.out; have hnc12 := NB102_101.out; have hcz13_0 : w11.cell? ⟨gb101, 0, none⟩ = some (.int .i64 a0_0) := (blk_cell BK101.out 0).trans rfl; have hcz13_1 : w11.cell? ⟨gb101, 1, none⟩ = some (.int .i64 a0_1) := (blk_cell BK101.out 1).trans rfl; have hfz13_0 := blk_frozen BK101.out 0; have hfz13_1 := blk_frozen BK101.out 1; have hcz14_0 : w11.cell? ⟨gb102, 0, none⟩ = some (.int .i64 a1_0) := (blk_cell BK102.out 0).trans rfl; have hcz14_1 : w11.cell? ⟨gb102, 1, none⟩ = some (.int .i64 a1_1) := (blk_cell BK102.out 1).trans rfl; have hfz14_0 := blk_frozen BK102.out 0; have hfz14_1 := blk_frozen BK102.out 1))
   go_ret
   exact ⟨by first | rfl | (simp [errW_none, errW_some] <;> rfl) | (simp [*, errW_none, errW_some] <;> rfl), by repeat (first | (with_reducible first | exact HB.out | apply below_alloc | apply pw_below_drewN | apply below_drew1 | refine below_set ?_ GE101.out | refine below_set ?_ GE102.out) | exact HB.out)⟩
 ·rw [if_neg c3] at H
  have c3b0 : (a0_0 == a1_0) = false := beq_eq_false_iff_ne.mpr c3
  have c3b1 : (a0_0 != a1_0) = true := bne_iff_ne.mpr c3
  obtain rfl := Option.some.inj H
  go_enter Try.func19, Try.ntmps19
  go_wp2_with (first | ((with_reducible refine gate_dst (N := 2) rfl ?_); refine box_event ?hg (N := 2) ?hd (cs := #[.int .i64 a0_0, .int .i64 a0_1]) (t := 25) ?hr ?_; (case hd => rfl); (case hg => rfl); (case hr => first | (go_simp; done) | (go_simp; rfl)); intro gb101 hg w15 hbox hb; have n0_ := Aside0.mk (below_step (by repeat (first | (with_reducible first | exact HB.out | apply below_alloc | apply pw_below_drewN | apply below_drew1) | exact HB.out)) hb); have n1_ := Aside0.mk (hbox); have n2_ := Aside0.mk ((by rw [hg]; exact (below_size (by repeat (first | (with_reducible first | exact HB.out | apply below_alloc | apply pw_below_drewN | apply below_drew1) | exact HB.out))) : w.heap.size ≤ gb101)); have n3_ := Aside0.mk ((by rw [hg]; exact (below_size (by repeat (first | (with_reducible first | exact HB.out | apply below_alloc | apply pw_below_drewN | apply below_drew1) | exact HB.out))) : w.heap.size ≤ gb101)); clear HB; have HB := n0_; have BK101 := n1_; have GW101 := n2_; have GE101 := n3_; clear n0_ n1_ n2_ n3_; clear hb hbox hg) | ((with_reducible refine gate_dst (N := 3) rfl ?_); refine box_event ?hg (N := 3) ?hd (cs := #[.int .i64 a1_0, .int .i64 a1_1]) (t := 25) ?hr ?_; (case hd => rfl); (case hg => rfl); (case hr => first | (go_simp; done) | (go_simp; rfl)); intro gb102 hg w16 hbox hb; have n0_ := Aside0.mk (blk_below (g := gb101) (o := .cells #[.int .i64 a0_0, .int .i64 a0_1] 25 (0, 0)) (by (with_reducible repeat (first | refine blk_drewN ?_ _ | refine blk_drew ?_ | refine blk_alloc ?_ _)); exact BK101.out) hb); have n1_ := Aside0.mk (below_step (by repeat (first | (with_reducible first | exact HB.out | apply below_alloc | apply pw_below_drewN | apply below_drew1 | refine below_set ?_ GE101.out) | exact HB.out)) hb); have n2_ := Aside0.mk (hbox); have n3_ := Aside0.mk ((by rw [hg]; exact (below_size (by repeat (first | (with_reducible first | exact HB.out | apply below_alloc | apply pw_below_drewN | apply below_drew1 | refine below_set ?_ GE101.out) | exact HB.out))) : w.heap.size ≤ gb102)); have n4_ := Aside0.mk ((by rw [hg]; exact (below_size (by repeat (first | (with_reducible first | exact HB.out | apply below_alloc | apply pw_below_drewN | apply below_drew1 | refine below_set ?_ GE101.out) | exact HB.out))) : w.heap.size ≤ gb102)); have n5_ := Aside0.mk ((by rw [hg]; exact Nat.ne_of_lt (blk_lt (g := gb101) (o := .cells #[.int .i64 a0_0, .int .i64 a0_1] 25 (0, 0)) (by (with_reducible repeat (first | refine blk_drewN ?_ _ | refine blk_drew ?_ | refine blk_alloc ?_ _)); exact BK101.out)) : gb101 ≠ gb102)); have n6_ := Aside0.mk ((by rw [hg]; exact Nat.ne_of_gt (blk_lt (g := gb101) (o := .cells #[.int .i64 a0_0, .int .i64 a0_1] 25 (0, 0)) (by (with_reducible repeat (first | refine blk_drewN ?_ _ | refine blk_drew ?_ | refine blk_alloc ?_ _)); exact BK101.out)) : gb102 ≠ gb101)); clear BK101; clear HB; have BK101 := n0_; have HB := n1_; have BK102 := n2_; have GW102 := n3_; have GE102 := n4_; have NB101_102 := n5_; have NB102_101 := n6_; clear n0_ n1_ n2_ n3_ n4_ n5_ n6_; clear hb hbox hg; have hnb17 := NB101_102.out; have hnc17 := NB102_101.out; have hcz18_0 : w16.cell? ⟨gb101, 0, none⟩ = some (.int .i64 a0_0) := (blk_cell BK101.out 0).trans rfl; have hcz18_1 : w16.cell? ⟨gb101, 1, none⟩ = some (.int .i64 a0_1) := (blk_cell BK101.out 1).trans rfl; have hfz18_0 := blk_frozen BK101.out 0; have hfz18_1 := blk_frozen BK101.out 1; have hcz19_0 : w16.cell? ⟨gb102, 0, none⟩ = some (.int .i64 a1_0) := (blk_cell BK102.out 0).trans rfl; have hcz19_1 : w16.cell? ⟨gb102, 1, none⟩ = some (.int .i64 a1_1) := (blk_cell BK102.out 1).trans rfl; have hfz19_0 := blk_frozen BK102.out 0; have hfz19_1 := blk_frozen BK102.out 1))
  go_ret
  exact ⟨by first | rfl | (simp [errW_none, errW_some] <;> rfl) | (simp [*, errW_none, errW_some] <;> rfl), by repeat (first | (with_reducible first | exact HB.out | apply below_alloc | apply pw_below_drewN | apply below_drew1 | refine below_set ?_ GE101.out | refine below_set ?_ GE102.out) | exact HB.out)⟩

end Go.Proofs.Ytijgjpfbhbggdaa.P

namespace Go.Proofs.Ytijgjpfbhbggdaa.P
open Go.RowKit Go.Proofs.YtijgjpfbhbggdaaW.PrintWords Go.Proofs.YtijgjpfbhbggdaaW.PrintLast Go.Proofs.YtijgjpfbhbggdaaW.PrintMore
attribute [local go_sem] max2_int min2_int max_two min_two max_three min_three max_four min_four   -- for this text's walks alone
set_option linter.unusedVariables false
set_option linter.unusedSimpArgs false

/-! ### laws_eqPointS: function 20 -/
def laws_eqPointS.l0 : Nat → List (S25) → List (S25) → Int → Option (Bool)
 | 0, _, _, _ => none
 | k + 1, x0, x1, x5 => if x5 < (x0.length : Int) then (if 0 ≤ x5 then (if x5 < (x1.length : Int) then ((laws_eqPoint.f ((rd_T25 x0 x5).f0) ((rd_T25 x0 x5).f1) ((rd_T25 x1 x5).f0) ((rd_T25 x1 x5).f1)).bind fun t103 => (if t103 = true then (laws_eqPointS.l0 k x0 x1 (wrap64 (x5 + 1))) else (some false))) else (none)) else (none)) else (some true)
def laws_eqPointS.f (k : Nat) (l0 : List (S25)) (l1 : List (S25)) : Option (Bool) := if (l0.length : Int) = (l1.length : Int) then (laws_eqPointS.l0 k l0 l1 0) else (some false)
theorem laws_eqPointS.mono_l : ∀ k, (∀ y0 y1 y2, LeO (laws_eqPointS.l0 k y0 y1 y2) (laws_eqPointS.l0 (k + 1) y0 y1 y2))
 | 0 => fun _ _ _ r h => by simp [laws_eqPointS.l0] at h
 | k + 1 => by
  have ih0 := laws_eqPointS.mono_l k
  ·intro y0 y1 y2
   unfold laws_eqPointS.l0
   repeat' first
   | (with_reducible exact ih0 _ _ _)
   | (with_reducible exact LeO.refl _)
   | (with_reducible exact LeO.none _)
   | (with_reducible refine LeO.ite ?_ ?_)
   | (with_reducible refine LeO.bind ?_ (fun _ => ?_))
   | exact ih0 _ _ _
   | exact LeO.none _
   | refine LeO.ite ?_ ?_
   | refine LeO.bind ?_ (fun _ => ?_)
theorem laws_eqPointS.mono : ∀ a0 a1 k, LeO (laws_eqPointS.f k a0 a1) (laws_eqPointS.f (k + 1) a0 a1) := by
 intro a0 a1 k
 have ih0 := laws_eqPointS.mono_l k
 unfold laws_eqPointS.f
 repeat' first
   | (with_reducible exact ih0 _ _ _)
   | (with_reducible exact LeO.refl _)
   | (with_reducible exact LeO.none _)
   | (with_reducible refine LeO.ite ?_ ?_)
   | (with_reducible refine LeO.bind ?_ (fun _ => ?_))
   | exact ih0 _ _ _
   | exact LeO.none _
   | refine LeO.ite ?_ ?_
   | refine LeO.bind ?_ (fun _ => ?_)
def laws_eqPointS.T6 : Bool × List (List Nat × List Nat) := (true, [([], []), ([], []), ([0, 1], [0, 1]), ([2], [2]), ([], []), ([], []), ([4, 5], [4, 5]), ([6], [6]), ([3, 7], [3, 7]), ([8], [8])])
def laws_eqPointS.B6 : List Nat := [0, 0, 3, 7, 0, 0, 48, 112, 255, 511]
theorem laws_eqPointS.tab6 : rtab .any (opsOf Try.f20 6) = laws_eqPointS.T6 := by kernel_rfl
theorem laws_eqPointS.bits6 : waitsOk laws_eqPointS.T6.2 laws_eqPointS.B6 = true := by kernel_rfl
set_option maxHeartbeats 8000000 in
set_option maxRecDepth 100000 in
theorem laws_eqPointS.calls (k : Nat) (A0 : Option Addr) (c0 : Nat) (l0 : List (S25)) (A1 : Option Addr) (c1 : Nat) (l1 : List (S25)) (r : Bool) (w : World) (hr0 : Kd.C k25 w A0 l0.length l0) (hc0 : l0.length ≤ c0) (hr1 : Kd.C k25 w A1 l1.length l1) (hc1 : l1.length ≤ c1) (h : laws_eqPointS.f k l0 l1 = some r) :
  Calls Try.prog 20 #[.slice A0 l0.length c0, .slice A1 l1.length c1] w fun e w' => e = .returned (.bool r) ∧ Below w.heap.size w w' := by
 have hu25 := Try.underlying25
 have HR0 := Aside0.mk hr0
 have HC0 := Aside0.mk hc0
 clear hr0 hc0
 have HR1 := Aside0.mk hr1
 have HC1 := Aside0.mk hc1
 clear hr1 hc1
 have HB := Aside0.mk (Below.refl w.heap.size w)
 have H : (if (l0.length : Int) = (l1.length : Int) then (laws_eqPointS.l0 k l0 l1 0) else (some false)) = some r := h
 clear h
 by_cases c3 : (l0.length : Int) = (l1.length : Int)
 ·rw [if_pos c3] at H
  have c3b0 : ((l0.length : Int) == (l1.length : Int)) = true := beq_iff_eq.mpr c3
  have c3b1 : ((l0.length : Int) != (l1.length : Int)) = false := bne_eq_false_iff_eq.mpr c3
  have c3b2 : (l0.length == l1.length) = true := by first | simpa using c3 | (simp at c3 ⊢; omega)
  clear c3
  have H' := Aside0.mk H
  clear H
  go_enter Try.func20, Try.ntmps20
  go_wp2
  go_loopg [5] k (fun kq v5 w' => ∃ (x5_1 : Int), v5 = .int .i64 x5_1 ∧ Aside0 (laws_eqPointS.l0 kq l0 l1 x5_1 = some r) ∧ Aside0 (kq ≤ k) ∧ Aside0 (Below w.heap.size w w'))
  case atStart => exact ⟨(0), (by first | rfl | (simp; done) | (simp [*]; done)), H', ⟨Nat.le_refl _⟩, ⟨by repeat (first | (with_reducible first | exact HB.out | apply below_alloc | apply pw_below_drewN | apply below_drew1) | exact HB.out)⟩⟩
  case round =>
   clear H'
   try clear c1
   try clear c2
   try clear p2
   try clear c3
   try clear c3b0
   try clear c3b1
   try clear c3b2
   obtain ⟨x5_1, rfl, HA, HK1, HB⟩ := hrel
   cases gk with
   | zero => exact absurd HA.out (by simp [laws_eqPointS.l0])
   | succ k1 =>
    have H := HA.out
    clear HA
    simp only [laws_eqPointS.l0] at H
    by_cases c4 : x5_1 < (l0.length : Int)
    ·rw [if_pos c4] at H
     have c4b0 : decide (x5_1 < (l0.length : Int)) = true := decide_eq_true c4
     clear c4
     by_cases c5 : 0 ≤ x5_1
     ·rw [if_pos c5] at H
      have c5b0 : decide (0 ≤ x5_1) = true := decide_eq_true c5
      clear c5
      by_cases c6 : x5_1 < (l1.length : Int)
      ·rw [if_pos c6] at H
       have c6b0 : decide (x5_1 < (l1.length : Int)) = true := decide_eq_true c6
       clear c6
       replace H := Option.bind_eq_some_iff.mp H
       obtain ⟨t103, A70, H⟩ := H
       replace H : (if t103 = true then (laws_eqPointS.l0 k1 l0 l1 (wrap64 (x5_1 + 1))) else (some false)) = some r := H
       have A7 := Aside0.mk A70
       clear A70
       by_cases c8 : t103 = true
       ·subst c8
        have H1 : (laws_eqPointS.l0 k1 l0 l1 (wrap64 (x5_1 + 1))) = some r := by rw [if_pos rfl] at H; exact H
        clear H
        have H := H1
        clear H1
        have H' := Aside0.mk H
        clear H
        try go_wp2
        have n0_ := Aside0.mk (below_drew1 HB.out)
        clear HB
        have HB := n0_
        clear n0_
        have p101 : 0 ≤ (x5_1 : Int) := of_decide_eq_true (by first | (with_reducible assumption) | assumption)
        have q101 : x5_1 < (l0.length : Int) := of_decide_eq_true (by first | (with_reducible assumption) | assumption)
        obtain ⟨ad101, e101, hx101_0, hx101_1⟩ := at_T25 HR0.out x5_1 p101 q101
        have hw101_1 := hx101_1
        have hw101_0 := hx101_0
        cases e101
        replace hx101_0 := (HB.out.cell (World.block_lt_of_cell? w _ hx101_0)).trans hx101_0
        replace hx101_1 := (HB.out.cell (World.block_lt_of_cell? w _ hx101_1)).trans hx101_1
        replace p101 := eq_true p101
        replace q101 := eq_true q101
        have p102 : 0 ≤ (x5_1 : Int) := of_decide_eq_true (by first | (with_reducible assumption) | assumption)
        have q102 : x5_1 < (l1.length : Int) := of_decide_eq_true (by first | (with_reducible assumption) | assumption)
        obtain ⟨ad102, e102, hx102_0, hx102_1⟩ := at_T25 HR1.out x5_1 p102 q102
        have hw102_1 := hx102_1
        have hw102_0 := hx102_0
        cases e102
        replace hx102_0 := (HB.out.cell (World.block_lt_of_cell? w _ hx102_0)).trans hx102_0
        replace hx102_1 := (HB.out.cell (World.block_lt_of_cell? w _ hx102_1)).trans hx102_1
        replace p102 := eq_true p102
        replace q102 := eq_true q102
        refine start_ (n := 10) (S := fun w' => w'.cell? (ad101.add ((x5_1).toNat * 2)) = some (.int .i64 ((rd_T25 l0 x5_1).f0)) ∧ w'.cell? ⟨(ad101.add ((x5_1).toNat * 2)).block, (ad101.add ((x5_1).toNat * 2)).off + 1, none⟩ = some (.int .i64 ((rd_T25 l0 x5_1).f1)) ∧ w'.cell? (ad102.add ((x5_1).toNat * 2)) = some (.int .i64 ((rd_T25 l1 x5_1).f0)) ∧ w'.cell? ⟨(ad102.add ((x5_1).toNat * 2)).block, (ad102.add ((x5_1).toNat * 2)).off + 1, none⟩ = some (.int .i64 ((rd_T25 l1 x5_1).f1))) (ds := []) (bm 10 0) (by kernel_rfl) rfl rfl ⟨((HB.out.cell (World.block_lt_of_cell? w _ hw101_0)).trans hw101_0), ((HB.out.cell (World.block_lt_of_cell? w _ hw101_1)).trans hw101_1), ((HB.out.cell (World.block_lt_of_cell? w _ hw102_0)).trans hw102_0), ((HB.out.cell (World.block_lt_of_cell? w _ hw102_1)).trans hw102_1)⟩ (fun hHeld => ?_); refine with_tabW laws_eqPointS.tab6 laws_eqPointS.bits6 (fun HT_ HW_ => ?_)
        generalize wr.drew = w9 at HB hx101_0 hx101_1 hx102_0 hx102_1 hHeld ⊢
        refine plan_ ((0, 0, 17, 1) :: (0, 1, 18, 3) :: (0, 2, 19, 7) :: (0, 4, 21, 23) :: (0, 5, 22, 55) :: (0, 6, 23, 119) :: (2, 3, 20, 127) :: (2, 7, 24, 255) :: []) ?_
        iterate 8 (first | (refine planV_ ?_ ?_ rfl rfl (any_of HT_.out (by kernel_rfl)) (fun _ _ _ h => h) (Or.inl ⟨by rfl, ?_⟩) ?_ ?_; rotate_left 2; (· intro w'; go_simp; with_reducible rfl); (· simp only [Act.put, List.setIfInBounds_toArray, List.set_cons_zero, List.set_cons_succ, i64_w, i32_w]; rfl)) | (refine planT_ ?_ ?_ rfl rfl (take_ofW HT_.out HW_.out (by kernel_rfl)) (fun _ _ _ h => h) (Or.inl ⟨by rfl, ?_⟩) hHeld ?_ ?_; rotate_left 2; (· rintro w' ⟨s0, s1, s2, s3⟩; go_simp; with_reducible rfl); (· simp only [Act.put, List.setIfInBounds_toArray, List.set_cons_zero, List.set_cons_succ, i64_w, i32_w]; rfl)))
        refine planEnd_ ?_
        refine one_ (i := 8) (N := some 25) (bm 10 511) rfl rfl (one_of HT_.out (by kernel_rfl)) (by decide) (fun K hK => ?_)
        refine goes_ Try.func19 (by kernel_rfl) rfl #[.agg #[.int .i64 ((rd_T25 l0 x5_1).f0), .int .i64 ((rd_T25 l0 x5_1).f1)], .agg #[.int .i64 ((rd_T25 l1 x5_1).f0), .int .i64 ((rd_T25 l1 x5_1).f1)]] (by rfl) rfl rfl (by (try simp only [List.map_toArray, List.map_cons, List.map_nil]); first | done | rfl | (simp only [List.length_drop, List.length_take]; rfl)) ?_
        with_reducible refine (laws_eqPoint.calls ((rd_T25 l0 x5_1).f0) ((rd_T25 l0 x5_1).f1) ((rd_T25 l1 x5_1).f0) ((rd_T25 l1 x5_1).f1) true _ A7.out).mono ?_
        rintro e w10 ⟨rfl, hb⟩
        refine ⟨_, rfl, ?_⟩
        have n0_ := Aside0.mk (below_step (by repeat (first | (with_reducible first | exact HB.out | apply below_alloc | apply pw_below_drewN | apply below_drew1) | exact HB.out)) hb)
        clear HB
        have HB := n0_
        clear n0_
        (try clear hb)
        (try clear hb2)
        (try clear hk)
        (try clear hi)
        refine hK.out _ _ ⟨((HB.out.cell (World.block_lt_of_cell? w _ hw101_0)).trans hw101_0), ((HB.out.cell (World.block_lt_of_cell? w _ hw101_1)).trans hw101_1), ((HB.out.cell (World.block_lt_of_cell? w _ hw102_0)).trans hw102_0), ((HB.out.cell (World.block_lt_of_cell? w _ hw102_1)).trans hw102_1)⟩ (fun hHeld => ?_)
        clear hK K
        refine norm_ (a' := ?_) ?_ ?_
        rotate_left
        ·show Act.put _ (some 25) _ = _
         simp only [Act.put, List.setIfInBounds_toArray, List.set_cons_zero, List.set_cons_succ, i64_w, i32_w]
         rfl
        refine plan_ ((0, 9, 26, 1023) :: []) ?_
        iterate 1 (first | (refine planV_ ?_ ?_ rfl rfl (any_of HT_.out (by kernel_rfl)) (fun _ _ _ h => h) (Or.inl ⟨by rfl, ?_⟩) ?_ ?_; rotate_left 2; (· intro w'; go_simp; with_reducible rfl); (· simp only [Act.put, List.setIfInBounds_toArray, List.set_cons_zero, List.set_cons_succ, i64_w, i32_w]; rfl)))
        refine planEnd_ ?_
        refine done_ (done_of HT_.out (by kernel_rfl)) ?_
        try go_wp2
        go_roundg k1
        case measure => have := HK1.out; omega
        case rel => exact ⟨(wrap64 (x5_1 + 1)), (by first | rfl | (simp; done) | (simp [*]; done)), H', ⟨by have := HK1.out; omega⟩, ⟨by repeat (first | (with_reducible first | exact HB.out | apply below_alloc | apply pw_below_drewN | apply below_drew1) | exact HB.out)⟩⟩
       ·replace c8 := Bool.eq_false_iff.mpr c8
        subst c8
        have H1 : (some false) = some r := by rw [if_neg (show ¬ (false = true) by decide)] at H; exact H
        clear H
        have H := H1
        clear H1
        obtain rfl := Option.some.inj H
        try go_wp2
        have n0_ := Aside0.mk (below_drew1 HB.out)
        clear HB
        have HB := n0_
        clear n0_
        have p101 : 0 ≤ (x5_1 : Int) := of_decide_eq_true (by first | (with_reducible assumption) | assumption)
        have q101 : x5_1 < (l0.length : Int) := of_decide_eq_true (by first | (with_reducible assumption) | assumption)
        obtain ⟨ad101, e101, hx101_0, hx101_1⟩ := at_T25 HR0.out x5_1 p101 q101
        have hw101_1 := hx101_1
        have hw101_0 := hx101_0
        cases e101
        replace hx101_0 := (HB.out.cell (World.block_lt_of_cell? w _ hx101_0)).trans hx101_0
        replace hx101_1 := (HB.out.cell (World.block_lt_of_cell? w _ hx101_1)).trans hx101_1
        replace p101 := eq_true p101
        replace q101 := eq_true q101
        have p102 : 0 ≤ (x5_1 : Int) := of_decide_eq_true (by first | (with_reducible assumption) | assumption)
        have q102 : x5_1 < (l1.length : Int) := of_decide_eq_true (by first | (with_reducible assumption) | assumption)
        obtain ⟨ad102, e102, hx102_0, hx102_1⟩ := at_T25 HR1.out x5_1 p102 q102
        have hw102_1 := hx102_1
        have hw102_0 := hx102_0
        cases e102
        replace hx102_0 := (HB.out.cell (World.block_lt_of_cell? w _ hx102_0)).trans hx102_0
        replace hx102_1 := (HB.out.cell (World.block_lt_of_cell? w _ hx102_1)).trans hx102_1
        replace p102 := eq_true p102
        replace q102 := eq_true q102
        refine start_ (n := 10) (S := fun w' => w'.cell? (ad101.add ((x5_1).toNat * 2)) = some (.int .i64 ((rd_T25 l0 x5_1).f0)) ∧ w'.cell? ⟨(ad101.add ((x5_1).toNat * 2)).block, (ad101.add ((x5_1).toNat * 2)).off + 1, none⟩ = some (.int .i64 ((rd_T25 l0 x5_1).f1)) ∧ w'.cell? (ad102.add ((x5_1).toNat * 2)) = some (.int .i64 ((rd_T25 l1 x5_1).f0)) ∧ w'.cell? ⟨(ad102.add ((x5_1).toNat * 2)).block, (ad102.add ((x5_1).toNat * 2)).off + 1, none⟩ = some (.int .i64 ((rd_T25 l1 x5_1).f1))) (ds := []) (bm 10 0) (by kernel_rfl) rfl rfl ⟨((HB.out.cell (World.block_lt_of_cell? w _ hw101_0)).trans hw101_0), ((HB.out.cell (World.block_lt_of_cell? w _ hw101_1)).trans hw101_1), ((HB.out.cell (World.block_lt_of_cell? w _ hw102_0)).trans hw102_0), ((HB.out.cell (World.block_lt_of_cell? w _ hw102_1)).trans hw102_1)⟩ (fun hHeld => ?_); refine with_tabW laws_eqPointS.tab6 laws_eqPointS.bits6 (fun HT_ HW_ => ?_)
        generalize wr.drew = w11 at HB hx101_0 hx101_1 hx102_0 hx102_1 hHeld ⊢
        refine plan_ ((0, 0, 17, 1) :: (0, 1, 18, 3) :: (0, 2, 19, 7) :: (0, 4, 21, 23) :: (0, 5, 22, 55) :: (0, 6, 23, 119) :: (2, 3, 20, 127) :: (2, 7, 24, 255) :: []) ?_
        iterate 8 (first | (refine planV_ ?_ ?_ rfl rfl (any_of HT_.out (by kernel_rfl)) (fun _ _ _ h => h) (Or.inl ⟨by rfl, ?_⟩) ?_ ?_; rotate_left 2; (· intro w'; go_simp; with_reducible rfl); (· simp only [Act.put, List.setIfInBounds_toArray, List.set_cons_zero, List.set_cons_succ, i64_w, i32_w]; rfl)) | (refine planT_ ?_ ?_ rfl rfl (take_ofW HT_.out HW_.out (by kernel_rfl)) (fun _ _ _ h => h) (Or.inl ⟨by rfl, ?_⟩) hHeld ?_ ?_; rotate_left 2; (· rintro w' ⟨s0, s1, s2, s3⟩; go_simp; with_reducible rfl); (· simp only [Act.put, List.setIfInBounds_toArray, List.set_cons_zero, List.set_cons_succ, i64_w, i32_w]; rfl)))
        refine planEnd_ ?_
        refine one_ (i := 8) (N := some 25) (bm 10 511) rfl rfl (one_of HT_.out (by kernel_rfl)) (by decide) (fun K hK => ?_)
        refine goes_ Try.func19 (by kernel_rfl) rfl #[.agg #[.int .i64 ((rd_T25 l0 x5_1).f0), .int .i64 ((rd_T25 l0 x5_1).f1)], .agg #[.int .i64 ((rd_T25 l1 x5_1).f0), .int .i64 ((rd_T25 l1 x5_1).f1)]] (by rfl) rfl rfl (by (try simp only [List.map_toArray, List.map_cons, List.map_nil]); first | done | rfl | (simp only [List.length_drop, List.length_take]; rfl)) ?_
        with_reducible refine (laws_eqPoint.calls ((rd_T25 l0 x5_1).f0) ((rd_T25 l0 x5_1).f1) ((rd_T25 l1 x5_1).f0) ((rd_T25 l1 x5_1).f1) false _ A7.out).mono ?_
        rintro e w12 ⟨rfl, hb⟩
        refine ⟨_, rfl, ?_⟩
        have n0_ := Aside0.mk (below_step (by repeat (first | (with_reducible first | exact HB.out | apply below_alloc | apply pw_below_drewN | apply below_drew1) | exact HB.out)) hb)
        clear HB
        have HB := n0_
        clear n0_
        (try clear hb)
        (try clear hb2)
        (try clear hk)
        (try clear hi)
        refine hK.out _ _ ⟨((HB.out.cell (World.block_lt_of_cell? w _ hw101_0)).trans hw101_0), ((HB.out.cell (World.block_lt_of_cell? w _ hw101_1)).trans hw101_1), ((HB.out.cell (World.block_lt_of_cell? w _ hw102_0)).trans hw102_0), ((HB.out.cell (World.block_lt_of_cell? w _ hw102_1)).trans hw102_1)⟩ (fun hHeld => ?_)
        clear hK K
        refine norm_ (a' := ?_) ?_ ?_
        rotate_left
        ·show Act.put _ (some 25) _ = _
         simp only [Act.put, List.setIfInBounds_toArray, List.set_cons_zero, List.set_cons_succ, i64_w, i32_w]
         rfl
        refine plan_ ((0, 9, 26, 1023) :: []) ?_
        iterate 1 (first | (refine planV_ ?_ ?_ rfl rfl (any_of HT_.out (by kernel_rfl)) (fun _ _ _ h => h) (Or.inl ⟨by rfl, ?_⟩) ?_ ?_; rotate_left 2; (· intro w'; go_simp; with_reducible rfl); (· simp only [Act.put, List.setIfInBounds_toArray, List.set_cons_zero, List.set_cons_succ, i64_w, i32_w]; rfl)))
        refine planEnd_ ?_
        refine done_ (done_of HT_.out (by kernel_rfl)) ?_
        try go_wp2
        go_ret
        exact ⟨by first | rfl | (simp [errW_none, errW_some] <;> rfl) | (simp [*, errW_none, errW_some] <;> rfl), by repeat (first | (with_reducible first | exact HB.out | apply below_alloc | apply pw_below_drewN | apply below_drew1) | exact HB.out)⟩
      ·rw [if_neg c6] at H
       exact absurd H (by simp)
     ·rw [if_neg c5] at H
      exact absurd H (by simp)
    ·rw [if_neg c4] at H
     have c4b0 : decide (x5_1 < (l0.length : Int)) = false := decide_eq_false c4
     clear c4
     obtain rfl := Option.some.inj H
     go_wp2
     go_ret
     exact ⟨by first | rfl | (simp [errW_none, errW_some] <;> rfl) | (simp [*, errW_none, errW_some] <;> rfl), by repeat (first | (with_reducible first | exact HB.out | apply below_alloc | apply pw_below_drewN | apply below_drew1) | exact HB.out)⟩
 ·rw [if_neg c3] at H
  have c3b0 : ((l0.length : Int) == (l1.length : Int)) = false := beq_eq_false_iff_ne.mpr c3
  have c3b1 : ((l0.length : Int) != (l1.length : Int)) = true := bne_iff_ne.mpr c3
  have c3b2 : (l0.length == l1.length) = false := by first | simpa using c3 | (simp at c3 ⊢; omega)
  obtain rfl := Option.some.inj H
  go_enter Try.func20, Try.ntmps20
  go_wp2
  go_ret
  exact ⟨by first | rfl | (simp [errW_none, errW_some] <;> rfl) | (simp [*, errW_none, errW_some] <;> rfl), by repeat (first | (with_reducible first | exact HB.out | apply below_alloc | apply pw_below_drewN | apply below_drew1) | exact HB.out)⟩

end Go.Proofs.Ytijgjpfbhbggdaa.P

namespace Go.Proofs.Ytijgjpfbhbggdaa.P
open Go.RowKit Go.Proofs.YtijgjpfbhbggdaaW.PrintWords Go.Proofs.YtijgjpfbhbggdaaW.PrintLast Go.Proofs.YtijgjpfbhbggdaaW.PrintMore
attribute [local go_sem] max2_int min2_int max_two min_two max_three min_three max_four min_four   -- for this text's walks alone
set_option linter.unusedVariables false
set_option linter.unusedSimpArgs false

/-! ### laws_FnExactCenterTimes: function 3 -/
def laws_FnExactCenterTimes.f (k : Nat) (l0 : List (S56)) : Option (Bool) := (laws_szPointS.f l0 1048576).bind fun t101 => (if t101 < 0 then (some true) else ((laws_toPointS.f k l0).bind fun t102 => ((spec_CenterTimes.f k t102).bind fun bt105 => ((laws_toPointS.f k l0).bind fun t108 => ((impl_CenterTimes.f k t108).bind fun bt111 => ((laws_eqPoint.f bt111.1 bt111.2 bt105.1 bt105.2).bind fun t114 => (if t114 = true then ((laws_toPointS.f k l0).bind fun t115 => ((laws_eqPointS.f k t108 t115).bind fun t118 => (if t118 = true then (some true) else (some false)))) else (some false))))))))
theorem laws_FnExactCenterTimes.mono : ∀ a0 k, LeO (laws_FnExactCenterTimes.f k a0) (laws_FnExactCenterTimes.f (k + 1) a0) := by
 intro a0 k
 unfold laws_FnExactCenterTimes.f
 repeat' first
   | (with_reducible exact impl_CenterTimes.mono _ _)
   | (with_reducible exact laws_eqPointS.mono _ _ _)
   | (with_reducible exact laws_toPointS.mono _ _)
   | (with_reducible exact spec_CenterTimes.mono _ _)
   | (with_reducible exact LeO.refl _)
   | (with_reducible exact LeO.none _)
   | (with_reducible refine LeO.ite ?_ ?_)
   | (with_reducible refine LeO.bind ?_ (fun _ => ?_))
   | exact impl_CenterTimes.mono _ _
   | exact laws_eqPointS.mono _ _ _
   | exact laws_toPointS.mono _ _
   | exact spec_CenterTimes.mono _ _
   | exact LeO.none _
   | refine LeO.ite ?_ ?_
   | refine LeO.bind ?_ (fun _ => ?_)
set_option maxHeartbeats 8000000 in
set_option maxRecDepth 100000 in
theorem laws_FnExactCenterTimes.calls (k : Nat) (A0 : Option Addr) (c0 : Nat) (l0 : List (S56)) (r : Bool) (w : World) (hr0 : Kd.C k56 w A0 l0.length l0) (hc0 : l0.length ≤ c0) (h : laws_FnExactCenterTimes.f k l0 = some true) :
  Calls Try.prog 3 #[.slice A0 l0.length c0] w fun e w' => e = .returned (.bool true) ∧ Below w.heap.size w w' := by
 have hu25 := Try.underlying25
 have HR0 := Aside0.mk hr0
 have HC0 := Aside0.mk hc0
 clear hr0 hc0
 have HB := Aside0.mk (Below.refl w.heap.size w)
 have H : ((laws_szPointS.f l0 1048576).bind fun t101 => (if t101 < 0 then (some true) else ((laws_toPointS.f k l0).bind fun t102 => ((spec_CenterTimes.f k t102).bind fun bt105 => ((laws_toPointS.f k l0).bind fun t108 => ((impl_CenterTimes.f k t108).bind fun bt111 => ((laws_eqPoint.f bt111.1 bt111.2 bt105.1 bt105.2).bind fun t114 => (if t114 = true then ((laws_toPointS.f k l0).bind fun t115 => ((laws_eqPointS.f k t108 t115).bind fun t118 => (if t118 = true then (some true) else (some false)))) else (some false))))))))) = some true := h
 clear h
 replace H := Option.bind_eq_some_iff.mp H
 obtain ⟨t101, A20, H⟩ := H
 replace H : (if t101 < 0 then (some true) else ((laws_toPointS.f k l0).bind fun t102 => ((spec_CenterTimes.f k t102).bind fun bt105 => ((laws_toPointS.f k l0).bind fun t108 => ((impl_CenterTimes.f k t108).bind fun bt111 => ((laws_eqPoint.f bt111.1 bt111.2 bt105.1 bt105.2).bind fun t114 => (if t114 = true then ((laws_toPointS.f k l0).bind fun t115 => ((laws_eqPointS.f k t108 t115).bind fun t118 => (if t118 = true then (some true) else (some false)))) else (some false)))))))) = some true := H
 have A2 := Aside0.mk A20
 clear A20
 by_cases c3 : t101 < 0
 ·rw [if_pos c3] at H
  have c3b0 : decide (t101 < 0) = true := decide_eq_true c3
  clear c3
  clear H
  go_enter Try.func3, Try.ntmps3
  go_wp2_with (first | ((with_reducible refine gate_callee (f := 15) rfl ?_); refine goesL_ (some 9) rfl rfl Try.func15 (by kernel_rfl) rfl #[.slice A0 l0.length c0, .int .i64 1048576] rfl (by (try simp only [List.map_toArray, List.map_cons, List.map_nil]); first | done | rfl | (simp only [List.length_drop, List.length_take]; rfl)) ?_; (with_reducible refine (laws_szPointS.calls _ _ l0 1048576 t101 _ ?side1 ?side2 A2.out).mono ?_); (case side1 => repeat (first | exact HR0.out | (with_reducible refine Kd.C_alloc ?_ _) | (with_reducible refine Kd.C_drewN ?_ _) | (with_reducible refine Kd.C_drew ?_))); (case side2 => exact HC0.out); rintro e w' ⟨rfl, ⟨nd, rfl⟩⟩; refine ⟨_, rfl, ?_⟩))
  go_ret
  exact ⟨by first | rfl | (simp [errW_none, errW_some] <;> rfl) | (simp [*, errW_none, errW_some] <;> rfl), by repeat (first | (with_reducible first | exact HB.out | apply below_alloc | apply pw_below_drewN | apply below_drew1) | exact HB.out)⟩
 ·rw [if_neg c3] at H
  have c3b0 : decide (t101 < 0) = false := decide_eq_false c3
  clear c3
  replace H := Option.bind_eq_some_iff.mp H
  obtain ⟨t102, A40, H⟩ := H
  replace H : ((spec_CenterTimes.f k t102).bind fun bt105 => ((laws_toPointS.f k l0).bind fun t108 => ((impl_CenterTimes.f k t108).bind fun bt111 => ((laws_eqPoint.f bt111.1 bt111.2 bt105.1 bt105.2).bind fun t114 => (if t114 = true then ((laws_toPointS.f k l0).bind fun t115 => ((laws_eqPointS.f k t108 t115).bind fun t118 => (if t118 = true then (some true) else (some false)))) else (some false)))))) = some true := H
  have A4 := Aside0.mk A40
  clear A40
  replace H := Option.bind_eq_some_iff.mp H
  obtain ⟨⟨t105, t106⟩, A50, H⟩ := H
  replace H : ((laws_toPointS.f k l0).bind fun t108 => ((impl_CenterTimes.f k t108).bind fun bt111 => ((laws_eqPoint.f bt111.1 bt111.2 t105 t106).bind fun t114 => (if t114 = true then ((laws_toPointS.f k l0).bind fun t115 => ((laws_eqPointS.f k t108 t115).bind fun t118 => (if t118 = true then (some true) else (some false)))) else (some false))))) = some true := H
  have A5 := Aside0.mk A50
  clear A50
  replace H := Option.bind_eq_some_iff.mp H
  obtain ⟨t108, A60, H⟩ := H
  replace H : ((impl_CenterTimes.f k t108).bind fun bt111 => ((laws_eqPoint.f bt111.1 bt111.2 t105 t106).bind fun t114 => (if t114 = true then ((laws_toPointS.f k l0).bind fun t115 => ((laws_eqPointS.f k t108 t115).bind fun t118 => (if t118 = true then (some true) else (some false)))) else (some false)))) = some true := H
  have A6 := Aside0.mk A60
  clear A60
  replace H := Option.bind_eq_some_iff.mp H
  obtain ⟨⟨t111, t112⟩, A70, H⟩ := H
  replace H : ((laws_eqPoint.f t111 t112 t105 t106).bind fun t114 => (if t114 = true then ((laws_toPointS.f k l0).bind fun t115 => ((laws_eqPointS.f k t108 t115).bind fun t118 => (if t118 = true then (some true) else (some false)))) else (some false))) = some true := H
  have A7 := Aside0.mk A70
  clear A70
  replace H := Option.bind_eq_some_iff.mp H
  obtain ⟨t114, A80, H⟩ := H
  replace H : (if t114 = true then ((laws_toPointS.f k l0).bind fun t115 => ((laws_eqPointS.f k t108 t115).bind fun t118 => (if t118 = true then (some true) else (some false)))) else (some false)) = some true := H
  have A8 := Aside0.mk A80
  clear A80
  by_cases c9 : t114 = true
  ·subst c9
   have H1 : ((laws_toPointS.f k l0).bind fun t115 => ((laws_eqPointS.f k t108 t115).bind fun t118 => (if t118 = true then (some true) else (some false)))) = some true := by rw [if_pos rfl] at H; exact H
   clear H
   have H := H1
   clear H1
   replace H := Option.bind_eq_some_iff.mp H
   obtain ⟨t115, A100, H⟩ := H
   replace H : ((laws_eqPointS.f k t108 t115).bind fun t118 => (if t118 = true then (some true) else (some false))) = some true := H
   have A10 := Aside0.mk A100
   clear A100
   replace H := Option.bind_eq_some_iff.mp H
   obtain ⟨t118, A110, H⟩ := H
   replace H : (if t118 = true then (some true) else (some false)) = some true := H
   have A11 := Aside0.mk A110
   clear A110
   by_cases c12 : t118 = true
   ·subst c12
    have H1 : (some true : Option Bool) = some true := rfl
    clear H
    have H := H1
    clear H1
    clear H
    go_enter Try.func3, Try.ntmps3
    go_wp2_with (first | ((with_reducible refine gate_callee (f := 15) rfl ?_); refine goesL_ (some 9) rfl rfl Try.func15 (by kernel_rfl) rfl #[.slice A0 l0.length c0, .int .i64 1048576] rfl (by (try simp only [List.map_toArray, List.map_cons, List.map_nil]); first | done | rfl | (simp only [List.length_drop, List.length_take]; rfl)) ?_; (with_reducible refine (laws_szPointS.calls _ _ l0 1048576 t101 _ ?side1 ?side2 A2.out).mono ?_); (case side1 => repeat (first | exact HR0.out | (with_reducible refine Kd.C_alloc ?_ _) | (with_reducible refine Kd.C_drewN ?_ _) | (with_reducible refine Kd.C_drew ?_))); (case side2 => exact HC0.out); rintro e w' ⟨rfl, ⟨nd, rfl⟩⟩; refine ⟨_, rfl, ?_⟩) | ((with_reducible refine gate_callee (f := 17) rfl ?_); refine goesL_ (some 13) rfl rfl Try.func17 (by kernel_rfl) rfl #[.slice A0 l0.length c0] rfl (by (try simp only [List.map_toArray, List.map_cons, List.map_nil]); first | done | rfl | (simp only [List.length_drop, List.length_take]; rfl)) ?_; (with_reducible refine (laws_toPointS.calls k _ _ l0 t102 _ ?side1 ?side2 A4.out).mono ?_); (case side1 => repeat (first | exact HR0.out | (with_reducible refine Kd.C_alloc ?_ _) | (with_reducible refine Kd.C_drewN ?_ _) | (with_reducible refine Kd.C_drew ?_))); (case side2 => exact HC0.out); rintro e w13 ⟨v103, rfl, ho0, hb⟩; refine ⟨_, rfl, ?_⟩; have n0_ := Aside0.mk (Kd.R_lower ho0 (below_size (by repeat (first | (with_reducible first | exact HB.out | apply below_alloc | apply pw_below_drewN | apply below_drew1) | exact HB.out)))); have n1_ := Aside0.mk (below_step (by repeat (first | (with_reducible first | exact HB.out | apply below_alloc | apply pw_below_drewN | apply below_drew1) | exact HB.out)) hb); clear HB; have HO104 := n0_; have HB := n1_; clear n0_ n1_; (try clear hb); (try clear hb2); (try clear hk); (try clear hi); (try clear ho0); obtain ⟨Ao14, co14, eo14⟩ := Kd.R_slice HO104.out; subst eo14) | ((with_reducible refine gate_callee (f := 16) rfl ?_); refine goesL_ (some 14) rfl rfl Try.func16 (by kernel_rfl) rfl #[.slice Ao14 t102.length co14] rfl (by (try simp only [List.map_toArray, List.map_cons, List.map_nil]); first | done | rfl | (simp only [List.length_drop, List.length_take]; rfl)) ?_; (with_reducible refine (spec_CenterTimes.calls k _ _ t102 t105 t106 _ ?side1 ?side2 A5.out).mono ?_); (case side1 => repeat (first | exact (Kd.R_reads' HO104.out).2.2 | (with_reducible refine Kd.C_alloc ?_ _) | (with_reducible refine Kd.C_drewN ?_ _) | (with_reducible refine Kd.C_drew ?_))); (case side2 => exact (Kd.R_reads' HO104.out).2.1); rintro e w15 ⟨rfl, hb⟩; refine ⟨_, rfl, ?_⟩; have n0_ := Aside0.mk (Kd.R_below (by (with_reducible repeat (first | apply Kd.R_alloc | apply Kd.R_drewN | apply Kd.R_drew)); exact HO104.out) hb); have n1_ := Aside0.mk (below_step (by repeat (first | (with_reducible first | exact HB.out | apply below_alloc | apply pw_below_drewN | apply below_drew1) | exact HB.out)) hb); clear HO104; clear HB; have HO104 := n0_; have HB := n1_; clear n0_ n1_; (try clear hb); (try clear hb2); (try clear hk); (try clear hi)) | ((with_reducible refine gate_dst (N := 4) rfl ?_); refine box_event ?hg (N := 4) ?hd (cs := #[.int .i64 0, .int .i64 0]) (t := 25) ?hr ?_; (case hd => rfl); (case hg => rfl); (case hr => first | (go_simp; done) | (go_simp; rfl)); intro gb107 hg w16 hbox hb; have n0_ := Aside0.mk (Kd.R_below (Kd.R_elderB (by (with_reducible repeat (first | apply Kd.R_alloc | apply Kd.R_drewN | apply Kd.R_drew)); exact HO104.out) gb107 (Nat.le_of_eq hg.symm)) hb); have n1_ := Aside0.mk (below_step (by repeat (first | (with_reducible first | exact HB.out | apply below_alloc | apply pw_below_drewN | apply below_drew1) | exact HB.out)) hb); have n2_ := Aside0.mk (hbox); have n3_ := Aside0.mk ((by rw [hg]; exact (below_size (by repeat (first | (with_reducible first | exact HB.out | apply below_alloc | apply pw_below_drewN | apply below_drew1) | exact HB.out))) : w.heap.size ≤ gb107)); have n4_ := Aside0.mk ((by rw [hg]; exact (below_size (by repeat (first | (with_reducible first | exact HB.out | apply below_alloc | apply pw_below_drewN | apply below_drew1) | exact HB.out))) : w.heap.size ≤ gb107)); clear HO104; clear HB; have HO104 := n0_; have HB := n1_; have BK107 := n2_; have GW107 := n3_; have GE107 := n4_; clear n0_ n1_ n2_ n3_ n4_; clear hb hbox hg; have hcz17_0 : w16.cell? ⟨gb107, 0, none⟩ = some (.int .i64 0) := (blk_cell BK107.out 0).trans rfl; have hcz17_1 : w16.cell? ⟨gb107, 1, none⟩ = some (.int .i64 0) := (blk_cell BK107.out 1).trans rfl; have hfz17_0 := blk_frozen BK107.out 0; have hfz17_1 := blk_frozen BK107.out 1) | ((with_reducible refine gate_callee (f := 17) rfl ?_); refine goesL_ (some 16) rfl rfl Try.func17 (by kernel_rfl) rfl #[.slice A0 l0.length c0] rfl (by (try simp only [List.map_toArray, List.map_cons, List.map_nil]); first | done | rfl | (simp only [List.length_drop, List.length_take]; rfl)) ?_; (with_reducible refine (laws_toPointS.calls k _ _ l0 t108 _ ?side1 ?side2 A6.out).mono ?_); (case side1 => exact Kd.C_below HR0.out (by repeat (first | (with_reducible first | exact HB.out | apply below_alloc | apply pw_below_drewN | apply below_drew1 | refine below_set ?_ GE107.out) | exact HB.out))); (case side2 => exact HC0.out); rintro e w18 ⟨v109, rfl, ho0, hb⟩; refine ⟨_, rfl, ?_⟩; have n0_ := Aside0.mk (Kd.R_elder' (by (with_reducible repeat (first | apply Kd.R_alloc | apply Kd.R_drewN | apply Kd.R_drew)); exact (Kd.R_mono (Kd.R_far (p := ⟨gb107, 1, none⟩) (Kd.R_far (p := ⟨gb107, 0, none⟩) (Kd.R_mono HO104.out (fun k_ hk => (⟨hk, hk.2⟩ : _ ∧ k_ ≠ gb107))) (fun _ hk => hk.2) (.int .i64 t105)) (fun _ hk => hk.2) (.int .i64 t106)) (fun _ h_ => h_.1))) (Kd.R_base ho0) hb); have n1_ := Aside0.mk (Kd.R_lower (Kd.R_newB (Kd.R_new' ho0 (Kd.R_lt (by (with_reducible repeat (first | apply Kd.R_alloc | apply Kd.R_drewN | apply Kd.R_drew)); exact (Kd.R_mono (Kd.R_far (p := ⟨gb107, 1, none⟩) (Kd.R_far (p := ⟨gb107, 0, none⟩) (Kd.R_mono HO104.out (fun k_ hk => (⟨hk, hk.2⟩ : _ ∧ k_ ≠ gb107))) (fun _ hk => hk.2) (.int .i64 t105)) (fun _ hk => hk.2) (.int .i64 t106)) (fun _ h_ => h_.1))))) (g := gb107) (o := .cells #[.int .i64 t105, .int .i64 t106] 25 (0, 0)) (by (with_reducible repeat (first | refine blk_drewN ?_ _ | refine blk_drew ?_ | refine blk_alloc ?_ _)); refine blk_put (cs := #[.int .i64 t105, .int .i64 0]) ?_ 1 _ rfl; (with_reducible repeat (first | refine blk_drewN ?_ _ | refine blk_drew ?_ | refine blk_alloc ?_ _)); refine blk_put (cs := #[.int .i64 0, .int .i64 0]) ?_ 0 _ rfl; (with_reducible repeat (first | refine blk_drewN ?_ _ | refine blk_drew ?_ | refine blk_alloc ?_ _)); exact BK107.out)) (below_size (by repeat (first | (with_reducible first | exact HB.out | apply below_alloc | apply pw_below_drewN | apply below_drew1 | refine below_set ?_ GE107.out) | exact HB.out)))); have n2_ := Aside0.mk (blk_below (g := gb107) (o := .cells #[.int .i64 t105, .int .i64 t106] 25 (0, 0)) (by (with_reducible repeat (first | refine blk_drewN ?_ _ | refine blk_drew ?_ | refine blk_alloc ?_ _)); refine blk_put (cs := #[.int .i64 t105, .int .i64 0]) ?_ 1 _ rfl; (with_reducible repeat (first | refine blk_drewN ?_ _ | refine blk_drew ?_ | refine blk_alloc ?_ _)); refine blk_put (cs := #[.int .i64 0, .int .i64 0]) ?_ 0 _ rfl; (with_reducible repeat (first | refine blk_drewN ?_ _ | refine blk_drew ?_ | refine blk_alloc ?_ _)); exact BK107.out) hb); have n3_ := Aside0.mk (below_step (by repeat (first | (with_reducible first | exact HB.out | apply below_alloc | apply pw_below_drewN | apply below_drew1 | refine below_set ?_ GE107.out) | exact HB.out)) hb); clear HO104; clear BK107; clear HB; have HO104 := n0_; have HO110 := n1_; have BK107 := n2_; have HB := n3_; clear n0_ n1_ n2_ n3_; (try clear hb); (try clear hb2); (try clear hk); (try clear hi); (try clear ho0); obtain ⟨Ao19, co19, eo19⟩ := Kd.R_slice HO110.out; subst eo19) | ((with_reducible refine gate_callee (f := 18) rfl ?_); refine goesL_ (some 18) rfl rfl Try.func18 (by kernel_rfl) rfl #[.slice Ao19 t108.length co19] rfl (by (try simp only [List.map_toArray, List.map_cons, List.map_nil]); first | done | rfl | (simp only [List.length_drop, List.length_take]; rfl)) ?_; (with_reducible refine (impl_CenterTimes.calls k _ _ t108 t111 t112 _ ?side1 ?side2 A7.out).mono ?_); (case side1 => repeat (first | exact (Kd.R_reads' HO110.out).2.2 | (with_reducible refine Kd.C_alloc ?_ _) | (with_reducible refine Kd.C_drewN ?_ _) | (with_reducible refine Kd.C_drew ?_))); (case side2 => exact (Kd.R_reads' HO110.out).2.1); rintro e w20 ⟨rfl, hb⟩; refine ⟨_, rfl, ?_⟩; have n0_ := Aside0.mk (Kd.R_below (by (with_reducible repeat (first | apply Kd.R_alloc | apply Kd.R_drewN | apply Kd.R_drew)); exact HO104.out) hb); have n1_ := Aside0.mk (Kd.R_below (by (with_reducible repeat (first | apply Kd.R_alloc | apply Kd.R_drewN | apply Kd.R_drew)); exact HO110.out) hb); have n2_ := Aside0.mk (blk_below (g := gb107) (o := .cells #[.int .i64 t105, .int .i64 t106] 25 (0, 0)) (by (with_reducible repeat (first | refine blk_drewN ?_ _ | refine blk_drew ?_ | refine blk_alloc ?_ _)); exact BK107.out) hb); have n3_ := Aside0.mk (below_step (by repeat (first | (with_reducible first | exact HB.out | apply below_alloc | apply pw_below_drewN | apply below_drew1 | refine below_set ?_ GE107.out) | exact HB.out)) hb); clear HO104; clear HO110; clear BK107; clear HB; have HO104 := n0_; have HO110 := n1_; have BK107 := n2_; have HB := n3_; clear n0_ n1_ n2_ n3_; (try clear hb); (try clear hb2); (try clear hk); (try clear hi)) | ((with_reducible refine gate_dst (N := 6) rfl ?_); refine box_event ?hg (N := 6) ?hd (cs := #[.int .i64 0, .int .i64 0]) (t := 25) ?hr ?_; (case hd => rfl); (case hg => rfl); (case hr => first | (go_simp; done) | (go_simp; rfl)); intro gb113 hg w21 hbox hb; have n0_ := Aside0.mk (Kd.R_below (Kd.R_elderB (by (with_reducible repeat (first | apply Kd.R_alloc | apply Kd.R_drewN | apply Kd.R_drew)); exact HO104.out) gb113 (Nat.le_of_eq hg.symm)) hb); have n1_ := Aside0.mk (Kd.R_below (Kd.R_elderB (by (with_reducible repeat (first | apply Kd.R_alloc | apply Kd.R_drewN | apply Kd.R_drew)); exact HO110.out) gb113 (Nat.le_of_eq hg.symm)) hb); have n2_ := Aside0.mk (blk_below (g := gb107) (o := .cells #[.int .i64 t105, .int .i64 t106] 25 (0, 0)) (by (with_reducible repeat (first | refine blk_drewN ?_ _ | refine blk_drew ?_ | refine blk_alloc ?_ _)); exact BK107.out) hb); have n3_ := Aside0.mk (below_step (by repeat (first | (with_reducible first | exact HB.out | apply below_alloc | apply pw_below_drewN | apply below_drew1 | refine below_set ?_ GE107.out) | exact HB.out)) hb); have n4_ := Aside0.mk (hbox); have n5_ := Aside0.mk ((by rw [hg]; exact (below_size (by repeat (first | (with_reducible first | exact HB.out | apply below_alloc | apply pw_below_drewN | apply below_drew1 | refine below_set ?_ GE107.out) | exact HB.out))) : w.heap.size ≤ gb113)); have n6_ := Aside0.mk ((by rw [hg]; exact (below_size (by repeat (first | (with_reducible first | exact HB.out | apply below_alloc | apply pw_below_drewN | apply below_drew1 | refine below_set ?_ GE107.out) | exact HB.out))) : w.heap.size ≤ gb113)); have n7_ := Aside0.mk ((by rw [hg]; exact Nat.ne_of_lt (blk_lt (g := gb107) (o := .cells #[.int .i64 t105, .int .i64 t106] 25 (0, 0)) (by (with_reducible repeat (first | refine blk_drewN ?_ _ | refine blk_drew ?_ | refine blk_alloc ?_ _)); exact BK107.out)) : gb107 ≠ gb113)); have n8_ := Aside0.mk ((by rw [hg]; exact Nat.ne_of_gt (blk_lt (g := gb107) (o := .cells #[.int .i64 t105, .int .i64 t106] 25 (0, 0)) (by (with_reducible repeat (first | refine blk_drewN ?_ _ | refine blk_drew ?_ | refine blk_alloc ?_ _)); exact BK107.out)) : gb113 ≠ gb107)); clear HO104; clear HO110; clear BK107; clear HB; have HO104 := n0_; have HO110 := n1_; have BK107 := n2_; have HB := n3_; have BK113 := n4_; have GW113 := n5_; have GE113 := n6_; have NB107_113 := n7_; have NB113_107 := n8_; clear n0_ n1_ n2_ n3_ n4_ n5_ n6_ n7_ n8_; clear hb hbox hg; have hnb22 := NB113_107.out; have hnc22 := NB107_113.out; have hcz23_0 : w21.cell? ⟨gb113, 0, none⟩ = some (.int .i64 0) := (blk_cell BK113.out 0).trans rfl; have hcz23_1 : w21.cell? ⟨gb113, 1, none⟩ = some (.int .i64 0) := (blk_cell BK113.out 1).trans rfl; have hfz23_0 := blk_frozen BK113.out 0; have hfz23_1 := blk_frozen BK113.out 1; have hcz24_0 : w21.cell? ⟨gb107, 0, none⟩ = some (.int .i64 t105) := (blk_cell BK107.out 0).trans rfl; have hcz24_1 : w21.cell? ⟨gb107, 1, none⟩ = some (.int .i64 t106) := (blk_cell BK107.out 1).trans rfl; have hfz24_0 := blk_frozen BK107.out 0; have hfz24_1 := blk_frozen BK107.out 1) | ((with_reducible refine gate_callee (f := 19) rfl ?_); refine goesL_ (some 21) rfl rfl Try.func19 (by kernel_rfl) rfl #[.agg #[.int .i64 t111, .int .i64 t112], .agg #[.int .i64 t105, .int .i64 t106]] rfl (by (try simp only [List.map_toArray, List.map_cons, List.map_nil]); first | done | rfl | (simp only [List.length_drop, List.length_take]; rfl)) ?_; (with_reducible refine (laws_eqPoint.calls t111 t112 t105 t106 true _ A8.out).mono ?_); rintro e w25 ⟨rfl, hb⟩; refine ⟨_, rfl, ?_⟩; have n0_ := Aside0.mk (Kd.R_below (by (with_reducible repeat (first | apply Kd.R_alloc | apply Kd.R_drewN | apply Kd.R_drew)); exact (Kd.R_mono (Kd.R_far (p := ⟨gb113, 1, none⟩) (Kd.R_far (p := ⟨gb113, 0, none⟩) (Kd.R_mono HO104.out (fun k_ hk => (⟨hk, hk.2⟩ : _ ∧ k_ ≠ gb113))) (fun _ hk => hk.2) (.int .i64 t111)) (fun _ hk => hk.2) (.int .i64 t112)) (fun _ h_ => h_.1))) hb); have n1_ := Aside0.mk (Kd.R_below (by (with_reducible repeat (first | apply Kd.R_alloc | apply Kd.R_drewN | apply Kd.R_drew)); exact (Kd.R_mono (Kd.R_far (p := ⟨gb113, 1, none⟩) (Kd.R_far (p := ⟨gb113, 0, none⟩) (Kd.R_mono HO110.out (fun k_ hk => (⟨hk, hk.2⟩ : _ ∧ k_ ≠ gb113))) (fun _ hk => hk.2) (.int .i64 t111)) (fun _ hk => hk.2) (.int .i64 t112)) (fun _ h_ => h_.1))) hb); have n2_ := Aside0.mk (blk_below (g := gb107) (o := .cells #[.int .i64 t105, .int .i64 t106] 25 (0, 0)) (by (with_reducible repeat (first | refine blk_drewN ?_ _ | refine blk_drew ?_ | refine blk_alloc ?_ _)); refine blk_far ?_ NB107_113.out _; (with_reducible repeat (first | refine blk_drewN ?_ _ | refine blk_drew ?_ | refine blk_alloc ?_ _)); refine blk_far ?_ NB107_113.out _; (with_reducible repeat (first | refine blk_drewN ?_ _ | refine blk_drew ?_ | refine blk_alloc ?_ _)); exact BK107.out) hb); have n3_ := Aside0.mk (blk_below (g := gb113) (o := .cells #[.int .i64 t111, .int .i64 t112] 25 (0, 0)) (by (with_reducible repeat (first | refine blk_drewN ?_ _ | refine blk_drew ?_ | refine blk_alloc ?_ _)); refine blk_put (cs := #[.int .i64 t111, .int .i64 0]) ?_ 1 _ rfl; (with_reducible repeat (first | refine blk_drewN ?_ _ | refine blk_drew ?_ | refine blk_alloc ?_ _)); refine blk_put (cs := #[.int .i64 0, .int .i64 0]) ?_ 0 _ rfl; (with_reducible repeat (first | refine blk_drewN ?_ _ | refine blk_drew ?_ | refine blk_alloc ?_ _)); exact BK113.out) hb); have n4_ := Aside0.mk (below_step (by repeat (first | (with_reducible first | exact HB.out | apply below_alloc | apply pw_below_drewN | apply below_drew1 | refine below_set ?_ GE107.out | refine below_set ?_ GE113.out) | exact HB.out)) hb); clear HO104; clear HO110; clear BK107; clear BK113; clear HB; have HO104 := n0_; have HO110 := n1_; have BK107 := n2_; have BK113 := n3_; have HB := n4_; clear n0_ n1_ n2_ n3_ n4_; (try clear hb); (try clear hb2); (try clear hk); (try clear hi)) | ((with_reducible refine gate_callee (f := 17) rfl ?_); refine goesL_ (some 25) rfl rfl Try.func17 (by kernel_rfl) rfl #[.slice A0 l0.length c0] rfl (by (try simp only [List.map_toArray, List.map_cons, List.map_nil]); first | done | rfl | (simp only [List.length_drop, List.length_take]; rfl)) ?_; (with_reducible refine (laws_toPointS.calls k _ _ l0 t115 _ ?side1 ?side2 A10.out).mono ?_); (case side1 => repeat (first | exact (Kd.C_below HR0.out HB.out) | (with_reducible refine Kd.C_alloc ?_ _) | (with_reducible refine Kd.C_drewN ?_ _) | (with_reducible refine Kd.C_drew ?_))); (case side2 => exact HC0.out); rintro e w26 ⟨v116, rfl, ho0, hb⟩; refine ⟨_, rfl, ?_⟩; have n0_ := Aside0.mk (Kd.R_elder' (by (with_reducible repeat (first | apply Kd.R_alloc | apply Kd.R_drewN | apply Kd.R_drew)); exact HO104.out) (Kd.R_base ho0) hb); have n1_ := Aside0.mk (Kd.R_elder' (by (with_reducible repeat (first | apply Kd.R_alloc | apply Kd.R_drewN | apply Kd.R_drew)); exact HO110.out) (Kd.R_base ho0) hb); have n2_ := Aside0.mk (Kd.R_lower (Kd.R_newB (Kd.R_newB (Kd.R_new' (Kd.R_new' ho0 (Kd.R_lt (by (with_reducible repeat (first | apply Kd.R_alloc | apply Kd.R_drewN | apply Kd.R_drew)); exact HO104.out))) (Kd.R_lt (by (with_reducible repeat (first | apply Kd.R_alloc | apply Kd.R_drewN | apply Kd.R_drew)); exact HO110.out))) (g := gb107) (o := .cells #[.int .i64 t105, .int .i64 t106] 25 (0, 0)) (by (with_reducible repeat (first | refine blk_drewN ?_ _ | refine blk_drew ?_ | refine blk_alloc ?_ _)); exact BK107.out)) (g := gb113) (o := .cells #[.int .i64 t111, .int .i64 t112] 25 (0, 0)) (by (with_reducible repeat (first | refine blk_drewN ?_ _ | refine blk_drew ?_ | refine blk_alloc ?_ _)); exact BK113.out)) (below_size (by repeat (first | (with_reducible first | exact HB.out | apply below_alloc | apply pw_below_drewN | apply below_drew1 | refine below_set ?_ GE107.out | refine below_set ?_ GE113.out) | exact HB.out)))); have n3_ := Aside0.mk (blk_below (g := gb107) (o := .cells #[.int .i64 t105, .int .i64 t106] 25 (0, 0)) (by (with_reducible repeat (first | refine blk_drewN ?_ _ | refine blk_drew ?_ | refine blk_alloc ?_ _)); exact BK107.out) hb); have n4_ := Aside0.mk (blk_below (g := gb113) (o := .cells #[.int .i64 t111, .int .i64 t112] 25 (0, 0)) (by (with_reducible repeat (first | refine blk_drewN ?_ _ | refine blk_drew ?_ | refine blk_alloc ?_ _)); exact BK113.out) hb); have n5_ := Aside0.mk (below_step (by repeat (first | (with_reducible first | exact HB.out | apply below_alloc | apply pw_below_drewN | apply below_drew1 | refine below_set ?_ GE107.out | refine below_set ?_ GE113.out) | exact HB.out)) hb); clear HO104; clear HO110; clear BK107; clear BK113; clear HB; have HO104 := n0_; have HO110 := n1_; have HO117 := n2_; have BK107 := n3_; have BK113 := n4_; have HB := n5_; clear n0_ n1_ n2_ n3_ n4_ n5_; (try clear hb); (try clear hb2); (try clear hk); (try clear hi); (try clear ho0); obtain ⟨Ao27, co27, eo27⟩ := Kd.R_slice HO117.out; subst eo27) | ((with_reducible refine gate_callee (f := 20) rfl ?_); refine goesL_ (some 26) rfl rfl Try.func20 (by kernel_rfl) rfl #[.slice Ao19 t108.length co19, .slice Ao27 t115.length co27] rfl (by (try simp only [List.map_toArray, List.map_cons, List.map_nil]); first | done | rfl | (simp only [List.length_drop, List.length_take]; rfl)) ?_; (with_reducible refine (laws_eqPointS.calls k _ _ t108 _ _ t115 true _ ?side1 ?side2 ?side3 ?side4 A11.out).mono ?_); (case side1 => repeat (first | exact (Kd.R_reads' HO110.out).2.2 | (with_reducible refine Kd.C_alloc ?_ _) | (with_reducible refine Kd.C_drewN ?_ _) | (with_reducible refine Kd.C_drew ?_))); (case side2 => exact (Kd.R_reads' HO110.out).2.1); (case side3 => repeat (first | exact (Kd.R_reads' HO117.out).2.2 | (with_reducible refine Kd.C_alloc ?_ _) | (with_reducible refine Kd.C_drewN ?_ _) | (with_reducible refine Kd.C_drew ?_))); (case side4 => exact (Kd.R_reads' HO117.out).2.1); rintro e w28 ⟨rfl, hb⟩; refine ⟨_, rfl, ?_⟩; have n0_ := Aside0.mk (Kd.R_below (by (with_reducible repeat (first | apply Kd.R_alloc | apply Kd.R_drewN | apply Kd.R_drew)); exact HO104.out) hb); have n1_ := Aside0.mk (Kd.R_below (by (with_reducible repeat (first | apply Kd.R_alloc | apply Kd.R_drewN | apply Kd.R_drew)); exact HO110.out) hb); have n2_ := Aside0.mk (Kd.R_below (by (with_reducible repeat (first | apply Kd.R_alloc | apply Kd.R_drewN | apply Kd.R_drew)); exact HO117.out) hb); have n3_ := Aside0.mk (blk_below (g := gb107) (o := .cells #[.int .i64 t105, .int .i64 t106] 25 (0, 0)) (by (with_reducible repeat (first | refine blk_drewN ?_ _ | refine blk_drew ?_ | refine blk_alloc ?_ _)); exact BK107.out) hb); have n4_ := Aside0.mk (blk_below (g := gb113) (o := .cells #[.int .i64 t111, .int .i64 t112] 25 (0, 0)) (by (with_reducible repeat (first | refine blk_drewN ?_ _ | refine blk_drew ?_ | refine blk_alloc ?_ _)); exact BK113.out) hb); have n5_ := Aside0.mk (below_step (by repeat (first | (with_reducible first | exact HB.out | apply below_alloc | apply pw_below_drewN | apply below_drew1 | refine below_set ?_ GE107.out | refine below_set ?_ GE113.out) | exact HB.out)) hb); clear HO104; clear HO110; clear HO117; clear BK107; clear BK113; clear HB; have HO104 := n0_; have HO110 := n1_; have HO117 := n2_; have BK107 := n3_; have BK113 := n4_; have HB := n5_; clear n0_ n1_ n2_ n3_ n4_ n5_; (try clear hb); (try clear hb2); (try clear hk); (try clear hi)))
    go_ret
    exact ⟨by first | rfl | (simp [errW_none, errW_some] <;> rfl) | (simp [*, errW_none, errW_some] <;> rfl), by repeat (first | (with_reducible first | exact HB.out | apply below_alloc | apply pw_below_drewN | apply below_drew1 | refine below_set ?_ GE107.out | refine below_set ?_ GE113.out) | exact HB.out)⟩
   ·replace c12 := Bool.eq_false_iff.mpr c12
    subst c12
    have H1 : (some false) = some true := by rw [if_neg (show ¬ (false = true) by decide)] at H; exact H
    clear H
    have H := H1
    clear H1
    exact absurd H (by simp)
  ·replace c9 := Bool.eq_false_iff.mpr c9
   subst c9
   have H1 : (some false) = some true := by rw [if_neg (show ¬ (false = true) by decide)] at H; exact H
   clear H
   have H := H1
   clear H1
   exact absurd H (by simp)
/-- THE ONE PURE STATEMENT of laws_FnExactCenterTimes. -/
def laws_FnExactCenterTimes.Pure : Prop := ∀ (x0 : List (S56)), (x0.length ≤ maxLen ∧ ∀ y0 ∈ x0, ((Lit.int .i64 y0.f0).wf = true ∧ (Lit.int .i64 y0.f1).wf = true)) → ∃ k, laws_FnExactCenterTimes.f k x0 = some true

end Go.Proofs.Ytijgjpfbhbggdaa.P

namespace Go.Proofs.Ytijgjpfbhbggdaa.Com
open Go.RowKit Go.Proofs.YtijgjpfbhbggdaaW.PrintWords
set_option linter.unusedSimpArgs false
set_option linter.unusedVariables false

theorem w64 {x : Int} (h0 : -9223372036854775808 ≤ x) (h1 : x ≤ 9223372036854775807) : wrap64 x = x := by unfold wrap64; omega
theorem set_take_succ {α : Type} (l : List α) (n : Nat) (v : α) (h : n < l.length) : (l.set n v).take (n + 1) = l.take n ++ [v] := by
  rw [List.take_succ_eq_append_getElem (by simpa using h), List.take_set_of_le (Nat.le_refl n)]; simp
theorem drop_cons {α : Type} (l : List α) (n : Nat) (d : α) (h : n < l.length) : l.drop n = l.getD n d :: l.drop (n + 1) := by
  rw [List.drop_eq_getElem_cons h]; simp [List.getD, List.getElem?_eq_getElem h]
theorem getD_set {α : Type} (l : List α) (n : Nat) (d v : α) (h : n < l.length) : (l.set n v).getD n d = v := by
  simp [List.getD, List.getElem?_set, h]
theorem getD_mem {α : Type} (l : List α) (n : Nat) (d : α) (h : n < l.length) : l.getD n d ∈ l := by
  simp [List.getD, List.getElem?_eq_getElem h]
theorem getD_map {α β : Type} (f : α → β) (l : List α) (n : Nat) (d : α) (e : β) (h : n < l.length) : (l.map f).getD n e = f (l.getD n d) := by
  simp [List.getD, h]
theorem succ_of_lt {d k : Nat} (h : d < k) : ∃ m, k = m + 1 ∧ d ≤ m := ⟨k - 1, by omega, by omega⟩
theorem Ev.iteT {α : Type} {c : Prop} [Decidable c] {g f : Nat → Option α} {r : α} (hc : c) (h : Ev g r) : Ev (fun k => if c then g k else f k) r := by simpa only [if_pos hc] using h
theorem Ev.iteF {α : Type} {c : Prop} [Decidable c] {g f : Nat → Option α} {r : α} (hc : ¬ c) (h : Ev f r) : Ev (fun k => if c then g k else f k) r := by simpa only [if_neg hc] using h
theorem Ev.const {α : Type} {o : Option α} {r : α} (h : o = some r) : Ev (fun _ => o) r := ⟨0, fun _ _ => h⟩
/-- Rounds enough, told by a bound. -/
theorem Ev.from {α : Type} {g : Nat → Option α} {r : α} (K : Nat) (h : ∀ k, K ≤ k → g k = some r) : Ev g r := ⟨K, h⟩
theorem Ev.bind0 {α β : Type} {o : Option α} {f : Nat → α → Option β} {a : α} {r : β} (h : o = some a) (k : Ev (fun n => f n a) r) : Ev (fun n => o.bind (f n)) r := Ev.bind ⟨0, fun _ _ => h⟩ k
end Go.Proofs.Ytijgjpfbhbggdaa.Com

namespace Go.Proofs.Ytijgjpfbhbggdaa.Pure
open Go.RowKit Go.Proofs.Ytijgjpfbhbggdaa.P Go.Proofs.YtijgjpfbhbggdaaW.PrintWords Go.Proofs.YtijgjpfbhbggdaaW.PrintLast
set_option linter.unusedSimpArgs false
set_option linter.unusedVariables false
open Go.Proofs.Ytijgjpfbhbggdaa.Com
def convPoint (x : S56) : S25 := ⟨x.f0, x.f1⟩
theorem toPointS_l0 (l : List S56) (hm : l.length ≤ 1099511627776) (d : Nat) : ∀ (k : Nat) (i : Int) (out : List S25), 0 ≤ i → i + d = l.length → out.length = l.length → d < k →
    laws_toPointS.l0 k l out i = some (out.take i.toNat ++ (l.drop i.toNat).map convPoint) := by
  induction d with
  | zero =>
    intro k i out h0 hi ho hk
    obtain ⟨k, rfl, _⟩ := succ_of_lt hk
    simp only [laws_toPointS.l0]
    rw [if_neg (by omega), List.take_of_length_le (by omega), List.drop_of_length_le (by omega)]; simp
  | succ d ih =>
    intro k i out h0 hi ho hk
    obtain ⟨k, rfl, hk⟩ := succ_of_lt hk
    have hlt : i.toNat < out.length := by omega
    simp only [laws_toPointS.l0]
    rw [if_pos (by omega), if_pos h0]
    simp only [laws_toPoint.f, Option.bind_some]
    rw [if_pos (by omega), w64 (by omega) (by omega), ih k (i + 1) _ (by omega) (by omega) (by simpa using ho) (by omega)]
    rw [show (i + 1).toNat = i.toNat + 1 from by omega, set_take_succ _ _ _ hlt, drop_cons l i.toNat z56 (by omega)]
    simp [convPoint, rd_T56]
theorem toPointS_eq (l : List S56) (hm : l.length ≤ 1048576) : Ev (fun k => laws_toPointS.f k l) (l.map convPoint) := by
  refine ⟨l.length + 1, fun k hk => ?_⟩
  dsimp only
  unfold laws_toPointS.f
  rw [if_pos (by omega), if_pos (by omega), toPointS_l0 l (by omega) l.length k 0 _ (by omega) (by omega) (by simp) (by omega)]
  simp
theorem eqPointS_l0 (a : List S25) (hm : a.length ≤ 1099511627776) (d : Nat) : ∀ (k : Nat) (i : Int), 0 ≤ i → i + d = a.length → d < k → laws_eqPointS.l0 k a a i = some true := by
  induction d with
  | zero =>
    intro k i h0 hi hk
    obtain ⟨k, rfl, _⟩ := succ_of_lt hk
    simp only [laws_eqPointS.l0]
    rw [if_neg (by omega)]
  | succ d ih =>
    intro k i h0 hi hk
    obtain ⟨k, rfl, hk⟩ := succ_of_lt hk
    simp only [laws_eqPointS.l0]
    rw [if_pos (by omega), if_pos h0, if_pos (by omega)]
    simp only [laws_eqPoint.f, if_true, Option.bind_some]
    rw [w64 (by omega) (by omega), ih k (i + 1) (by omega) (by omega) (by omega)]
theorem eqPointS_refl (a : List S25) (hm : a.length ≤ 1099511627776) : Ev (fun k => laws_eqPointS.f k a a) true := by
  refine ⟨a.length + 1, fun k hk => ?_⟩
  dsimp only
  unfold laws_eqPointS.f
  rw [if_pos rfl, eqPointS_l0 a hm a.length k 0 (by omega) (by omega) (by omega)]
end Go.Proofs.Ytijgjpfbhbggdaa.Pure

namespace Go.Proofs.Ytijgjpfbhbggdaa.Pure
open Go.RowKit Go.Proofs.Ytijgjpfbhbggdaa.P Go.Proofs.YtijgjpfbhbggdaaW.PrintWords Go.Proofs.YtijgjpfbhbggdaaW.PrintLast Go.Proofs.Ytijgjpfbhbggdaa.Com
set_option linter.unusedSimpArgs false
set_option linter.unusedVariables false

theorem szPointS_eq (l : List S56) (hm : l.length ≤ maxLen) : laws_szPointS.f l 1048576 = some (if l.length ≤ 1048576 then 1048576 - (l.length : Int) else -1) := by
  unfold maxLen at hm
  unfold laws_szPointS.f
  rw [w64 (by omega) (by omega)]
  by_cases h : l.length ≤ 1048576
  · rw [if_neg (by omega), if_pos h]
  · rw [if_pos (by omega), if_neg h]
end Go.Proofs.Ytijgjpfbhbggdaa.Pure

namespace Go.Proofs.Ytijgjpfbhbggdaa.Pure
open Go.RowKit Go.Proofs.Ytijgjpfbhbggdaa.P Go.Proofs.YtijgjpfbhbggdaaW.PrintWords Go.Proofs.YtijgjpfbhbggdaaW.PrintLast Go.Proofs.Ytijgjpfbhbggdaa.Com
set_option linter.unusedSimpArgs false
set_option linter.unusedVariables false

def inB (n m : Int) : Bool := decide (-m ≤ n ∧ n ≤ m)
theorem inB_iff {n m : Int} : inB n m = true ↔ -m ≤ n ∧ n ≤ m := by simp [inB]
theorem l1In_eq (a lo hi : Int) : spec_l1In.f a lo hi = some (decide (lo ≤ a ∧ a ≤ hi)) := by
  unfold spec_l1In.f
  by_cases h : a ≥ lo
  · rw [if_pos h]; congr 1; simp only [decide_eq_decide]; omega
  · rw [if_neg h]; congr 1; symm; simp only [decide_eq_false_iff_not]; omega
theorem l1In_inB (a m : Int) (h0 : 0 ≤ m) (h1 : m ≤ 4611686018427387904) : spec_l1In.f a (wrap64 (-m)) m = some (inB a m) := by
  rw [w64 (by omega) (by omega), l1In_eq]; rfl
end Go.Proofs.Ytijgjpfbhbggdaa.Pure

namespace Go.Proofs.Ytijgjpfbhbggdaa.Pure
open Go.RowKit Go.Proofs.Ytijgjpfbhbggdaa.P Go.Proofs.YtijgjpfbhbggdaaW.PrintWords Go.Proofs.YtijgjpfbhbggdaaW.PrintLast Go.Proofs.Ytijgjpfbhbggdaa.Com
set_option linter.unusedSimpArgs false
set_option linter.unusedVariables false

theorem farB_eq (n m : Int) (h0 : 0 ≤ m) (h1 : m ≤ 4611686018427387904) : farB n m = !inB n m := by
  unfold farB impl_isFar.f inB
  rw [w64 (by omega) (by omega)]
  by_cases h : n < -m
  · rw [if_pos h, Option.getD_some, Bool.eq_iff_iff]; simp; omega
  · rw [if_neg h, Option.getD_some, Bool.eq_iff_iff]; simp; omega
theorem l2Fits_eq (x y m : Int) (h0 : 0 ≤ m) (h1 : m ≤ 4611686018427387904) : spec_l2Fits.f x y m = some (inB x m && inB y m) := by
  unfold spec_l2Fits.f
  rw [l1In_inB x m h0 h1, l1In_inB y m h0 h1]
  simp only [Option.bind_some]
  cases inB x m <;> simp
theorem areNear_eq (m : Int) (l : List S25) (h0 : 0 ≤ m) (h1 : m ≤ 4611686018427387904) : impl_areNear.f m l = some (l.all fun p => inB p.f0 m && inB p.f1 m) := by
  unfold impl_areNear.f outPoint
  congr 1
  rw [List.not_any_eq_all_not]
  congr 1
  funext p
  rw [farB_eq _ _ h0 h1, farB_eq _ _ h0 h1]
  simp
end Go.Proofs.Ytijgjpfbhbggdaa.Pure

namespace Go.Proofs.Ytijgjpfbhbggdaa.Pure
open Go.RowKit Go.Proofs.YtijgjpfbhbggdaaW.PrintWords Go.Proofs.YtijgjpfbhbggdaaW.PrintLast Go.Proofs.Ytijgjpfbhbggdaa.Com
set_option linter.unusedSimpArgs false
set_option linter.unusedVariables false

theorem ww_add_l (x y : Int) : wrap64 (wrap64 x + y) = wrap64 (x + y) := by unfold wrap64; omega
theorem ww_add_r (x y : Int) : wrap64 (x + wrap64 y) = wrap64 (x + y) := by unfold wrap64; omega
theorem ww_sub_l (x y : Int) : wrap64 (wrap64 x - y) = wrap64 (x - y) := by unfold wrap64; omega
theorem ww_sub_r (x y : Int) : wrap64 (x - wrap64 y) = wrap64 (x - y) := by unfold wrap64; omega
theorem ww_neg (x : Int) : wrap64 (-wrap64 x) = wrap64 (-x) := by unfold wrap64; omega
theorem ww (x : Int) : wrap64 (wrap64 x) = wrap64 x := by unfold wrap64; omega
theorem wrap_is (x : Int) : ∃ q : Int, wrap64 x = x + q * 18446744073709551616 := ⟨-((x + 9223372036854775808) / 18446744073709551616), by unfold wrap64; omega⟩
theorem wrap_shift (x q : Int) : wrap64 (x + q * 18446744073709551616) = wrap64 x := by unfold wrap64; omega
theorem ww_mul_l (x y : Int) : wrap64 (wrap64 x * y) = wrap64 (x * y) := by
  obtain ⟨q, h⟩ := wrap_is x
  rw [h, Int.add_mul, Int.mul_assoc q, Int.mul_comm 18446744073709551616 y, ← Int.mul_assoc q, wrap_shift]
theorem ww_mul_r (x y : Int) : wrap64 (x * wrap64 y) = wrap64 (x * y) := by rw [Int.mul_comm, ww_mul_l, Int.mul_comm]
theorem abs_mul_le {a b : Int} {A B : Nat} (ha : a.natAbs ≤ A) (hb : b.natAbs ≤ B) : (a * b).natAbs ≤ A * B := by
  rw [Int.natAbs_mul]; exact Nat.mul_le_mul ha hb
theorem wrap_abs (x : Int) (h : x.natAbs ≤ 4611686018427387904) : wrap64 x = x := by unfold wrap64; omega
end Go.Proofs.Ytijgjpfbhbggdaa.Pure

namespace Go.Proofs.Ytijgjpfbhbggdaa.P
open Go.RowKit Go.Proofs.YtijgjpfbhbggdaaW.PrintWords Go.Proofs.YtijgjpfbhbggdaaW.PrintLast Go.Proofs.YtijgjpfbhbggdaaW.PrintMore
attribute [local go_sem] max2_int min2_int max_two min_two max_three min_three max_four min_four   -- for this text's walks alone
set_option linter.unusedVariables false
set_option linter.unusedSimpArgs false

/-! ### spec_l1Bit: function 117 -/
def spec_l1Bit.f (a0 : Bool) : Option (Int) := if a0 = true then (some 1) else (some 0)
set_option maxHeartbeats 8000000 in
set_option maxRecDepth 100000 in
theorem spec_l1Bit.calls (a0 : Bool) (r : Int) (w : World) (h : spec_l1Bit.f a0 = some r) :
  Calls Try.prog 117 #[.bool a0] w fun e w' => e = .returned (.int .i64 r) ∧ Drawn0 w w' := by
 have H : (if a0 = true then (some 1) else (some 0)) = some r := h
 clear h
 by_cases c2 : a0 = true
 ·subst c2
  have H1 : (some 1) = some r := by rw [if_pos rfl] at H; exact H
  clear H
  have H := H1
  clear H1
  obtain rfl := Option.some.inj H
  go_enter Try.func117, Try.ntmps117
  go_wp2
  go_ret
  exact ⟨by first | rfl | (simp; done) | (simp [*]; done), by repeat (first | exact Drawn0.refl _ | apply Drawn0.step)⟩
 ·replace c2 := Bool.eq_false_iff.mpr c2
  subst c2
  have H1 : (some 0) = some r := by rw [if_neg (show ¬ (false = true) by decide)] at H; exact H
  clear H
  have H := H1
  clear H1
  obtain rfl := Option.some.inj H
  go_enter Try.func117, Try.ntmps117
  go_wp2
  go_ret
  exact ⟨by first | rfl | (simp; done) | (simp [*]; done), by repeat (first | exact Drawn0.refl _ | apply Drawn0.step)⟩

end Go.Proofs.Ytijgjpfbhbggdaa.P

namespace Go.Proofs.Ytijgjpfbhbggdaa.P
open Go.RowKit Go.Proofs.YtijgjpfbhbggdaaW.PrintWords Go.Proofs.YtijgjpfbhbggdaaW.PrintLast Go.Proofs.YtijgjpfbhbggdaaW.PrintMore
attribute [local go_sem] max2_int min2_int max_two min_two max_three min_three max_four min_four   -- for this text's walks alone
set_option linter.unusedVariables false
set_option linter.unusedSimpArgs false

/-! ### spec_l2Sign: function 110 -/
def spec_l2Sign.f (a0 : Int) : Option (Int) := (spec_l1Bit.f (decide (a0 > 0))).bind fun t101 => ((spec_l1Bit.f (decide (a0 < 0))).bind fun t102 => (some (wrap64 (t101 - t102))))
set_option maxHeartbeats 8000000 in
set_option maxRecDepth 100000 in
theorem spec_l2Sign.calls (a0 : Int) (r : Int) (w : World) (h : spec_l2Sign.f a0 = some r) :
  Calls Try.prog 110 #[.int .i64 a0] w fun e w' => e = .returned (.int .i64 r) ∧ Drawn0 w w' := by
 have H : ((spec_l1Bit.f (decide (a0 > 0))).bind fun t101 => ((spec_l1Bit.f (decide (a0 < 0))).bind fun t102 => (some (wrap64 (t101 - t102))))) = some r := h
 clear h
 replace H := Option.bind_eq_some_iff.mp H
 obtain ⟨t101, A20, H⟩ := H
 replace H : ((spec_l1Bit.f (decide (a0 < 0))).bind fun t102 => (some (wrap64 (t101 - t102)))) = some r := H
 have A2 := Aside0.mk A20
 clear A20
 replace H := Option.bind_eq_some_iff.mp H
 obtain ⟨t102, A30, H⟩ := H
 replace H : (some (wrap64 (t101 - t102))) = some r := H
 have A3 := Aside0.mk A30
 clear A30
 obtain rfl := Option.some.inj H
 go_enter Try.func110, Try.ntmps110
 go_wp2_with (first | ((with_reducible refine gate_callee (f := 117) rfl ?_); refine goesL_ (some 5) rfl rfl Try.func117 (by kernel_rfl) rfl #[.bool (decide (a0 > 0))] rfl (by (try simp only [List.map_toArray, List.map_cons, List.map_nil]); first | done | rfl | (simp only [List.length_drop, List.length_take]; rfl)) ?_; (with_reducible refine (spec_l1Bit.calls (decide (a0 > 0)) t101 _ A2.out).mono ?_); rintro e w' ⟨rfl, ⟨nd, rfl⟩⟩; refine ⟨_, rfl, ?_⟩) | ((with_reducible refine gate_callee (f := 117) rfl ?_); refine goesL_ (some 8) rfl rfl Try.func117 (by kernel_rfl) rfl #[.bool (decide (a0 < 0))] rfl (by (try simp only [List.map_toArray, List.map_cons, List.map_nil]); first | done | rfl | (simp only [List.length_drop, List.length_take]; rfl)) ?_; (with_reducible refine (spec_l1Bit.calls (decide (a0 < 0)) t102 _ A3.out).mono ?_); rintro e w' ⟨rfl, ⟨nd, rfl⟩⟩; refine ⟨_, rfl, ?_⟩))
 go_ret
 exact ⟨by first | rfl | (simp; done) | (simp [*]; done), by repeat (first | exact Drawn0.refl _ | apply Drawn0.step)⟩

end Go.Proofs.Ytijgjpfbhbggdaa.P

namespace Go.Proofs.Ytijgjpfbhbggdaa.Pure
open Go.RowKit Go.Proofs.Ytijgjpfbhbggdaa.P Go.Proofs.YtijgjpfbhbggdaaW.PrintWords Go.Proofs.YtijgjpfbhbggdaaW.PrintLast Go.Proofs.Ytijgjpfbhbggdaa.Com
set_option linter.unusedSimpArgs false
set_option linter.unusedVariables false

def sgn (x : Int) : Int := if 0 < x then 1 else if x < 0 then -1 else 0
theorem l2Sign_eq (x : Int) : spec_l2Sign.f x = some (sgn x) := by
  unfold spec_l2Sign.f spec_l1Bit.f sgn
  by_cases h1 : 0 < x
  · have h2 : ¬ x < 0 := by omega
    simp [h1, h2, wrap64]
  · by_cases h2 : x < 0
    · simp [h1, h2, wrap64]
    · simp [h1, h2, wrap64]
theorem signOf_eq (x : Int) : impl_signOf.f x = some (sgn x) := by
  unfold impl_signOf.f cmp_Compare_int.f cmp_isNaN_int.f sgn
  by_cases h1 : 0 < x
  · have h2 : ¬ x < 0 := by omega
    simp [h1, h2]
  · by_cases h2 : x < 0
    · simp [h1, h2]
    · simp [h1, h2]
/-- Twice a triangle's area, as Go reckons it. -/
def areaW (a b c d e f : Int) : Int := wrap64 ((c - a) * (f - b) - (d - b) * (e - a))
theorem l2Area_eq (a b c d e f : Int) : spec_l2Area.f a b c d e f = some (areaW a b c d e f) := by
  simp only [spec_l2Area.f, areaW, ww_sub_l, ww_sub_r, ww_mul_l, ww_mul_r]
theorem area_eq (a b c d e f : Int) : impl_area.f a b c d e f = some (areaW a b c d e f) := by
  simp only [impl_area.f, areaW, ww_sub_l, ww_sub_r, ww_mul_l, ww_mul_r]
theorem TurnOf_eq (a b c d e f : Int) : impl_TurnOf.f a b c d e f = some (if ((inB a 1000 && inB b 1000) && ((inB c 1000 && inB d 1000) && (inB e 1000 && inB f 1000))) = true then sgn (areaW a b c d e f) else 0) := by
  unfold impl_TurnOf.f
  rw [areNear_eq 1000 _ (by omega) (by omega), area_eq]
  simp only [Option.bind_some, signOf_eq, List.all_cons, List.all_nil, Bool.and_true]
  split <;> rfl
end Go.Proofs.Ytijgjpfbhbggdaa.Pure

namespace Go.Proofs.Ytijgjpfbhbggdaa.Com
open Go.RowKit Go.Proofs.YtijgjpfbhbggdaaW.PrintWords
set_option linter.unusedSimpArgs false
set_option linter.unusedVariables false
variable {σ τ ρ υ : Type}
/-- A fold of rounds that hand on to what follows. -/
def foldT (T : σ → τ → (σ → ρ → Prop) → ρ → Prop) (C : σ → ρ → Prop) : List τ → σ → ρ → Prop
  | [], s, r => C s r
  | t :: L, s, r => T s t (foldT T C L) r
def MonoT (T : σ → τ → (σ → ρ → Prop) → ρ → Prop) : Prop := ∀ s t (C D : σ → ρ → Prop) r, (∀ s' r', C s' r' → D s' r') → T s t C r → T s t D r
theorem foldT_mono {T : σ → τ → (σ → ρ → Prop) → ρ → Prop} (hT : MonoT T) {C D : σ → ρ → Prop} (h : ∀ s r, C s r → D s r) (L : List τ) : ∀ s r, foldT T C L s r → foldT T D L s r := by
  induction L with
  | nil => exact h
  | cons t L ih => intro s r; exact hT s t _ _ r ih
/-- A round that goes on with a new state, or ends all with a result. -/
def stepT (step : σ → τ → σ ⊕ ρ) : σ → τ → (σ → ρ → Prop) → ρ → Prop := fun s t C r =>
  match step s t with
  | .inl s' => C s' r
  | .inr r' => r = r'
theorem stepT_mono (step : σ → τ → σ ⊕ ρ) : MonoT (stepT step) := by
  intro s t C D r h hT
  unfold stepT at *
  revert hT
  cases step s t with
  | inl s' => exact fun hT => h _ _ hT
  | inr r' => exact fun hT => hT
/-- A round that is a loop itself. -/
def nestT (T : τ → σ → υ → (σ → ρ → Prop) → ρ → Prop) (L : τ → List υ) : σ → τ → (σ → ρ → Prop) → ρ → Prop := fun s t C r => foldT (T t) C (L t) s r
theorem nestT_mono {T : τ → σ → υ → (σ → ρ → Prop) → ρ → Prop} (hT : ∀ t, MonoT (T t)) (L : τ → List υ) : MonoT (nestT T L) := fun s t C D r h hh => foldT_mono (hT t) h (L t) s r hh
theorem foldT_append (T : σ → τ → (σ → ρ → Prop) → ρ → Prop) (C : σ → ρ → Prop) (A B : List τ) : ∀ s r, foldT T C (A ++ B) s r ↔ foldT T (foldT T C B) A s r := by
  induction A with
  | nil => intro s r; rfl
  | cons t A ih =>
    intro s r
    have e : foldT T C (A ++ B) = foldT T (foldT T C B) A := by funext s r; exact propext (ih s r)
    show T s t (foldT T C (A ++ B)) r ↔ T s t (foldT T (foldT T C B) A) r
    rw [e]
theorem nest_flat (step : σ → υ → σ ⊕ ρ) (L : τ → List υ) (C : σ → ρ → Prop) (J : List τ) : foldT (nestT (fun _ => stepT step) L) C J = foldT (stepT step) C (J.flatMap L) := by
  induction J with
  | nil => rfl
  | cons t J ih =>
    funext s r
    rw [List.flatMap_cons]
    apply propext
    rw [foldT_append]
    show foldT (stepT step) (foldT (nestT (fun _ => stepT step) L) C J) (L t) s r ↔ _
    rw [ih]
def foldX (step : σ → τ → σ ⊕ ρ) (fin : σ → ρ) : List τ → σ → ρ
  | [], s => fin s
  | t :: L, s => match step s t with
    | .inl s' => foldX step fin L s'
    | .inr r => r
theorem foldX_T (step : σ → τ → σ ⊕ ρ) (fin : σ → ρ) {C : σ → ρ → Prop} (hC : ∀ s, C s (fin s)) (L : List τ) : ∀ s, foldT (stepT step) C L s (foldX step fin L s) := by
  induction L with
  | nil => exact hC
  | cons t L ih =>
    intro s
    show stepT step s t _ _
    unfold stepT foldX
    cases h : step s t with
    | inl s' => exact ih s'
    | inr r => rfl
/-- The whole numbers from a on, d of them. -/
def ints (a : Int) : Nat → List Int
  | 0 => []
  | d + 1 => a :: ints (a + 1) d
theorem ints_mem {a x : Int} {d : Nat} (h : x ∈ ints a d) : a ≤ x ∧ x < a + d := by
  induction d generalizing a with
  | zero => simp [ints] at h
  | succ d ih =>
    rcases List.mem_cons.1 h with rfl | h
    · omega
    · have := ih h; omega
/-- A loop that counts from a up to n. -/
theorem rangeLoop {l : Nat → σ → Int → Option ρ} (n : Int) {T : σ → Int → (σ → ρ → Prop) → ρ → Prop} (hT : MonoT T) {C : σ → ρ → Prop} (a0 : Int)
    (hs : ∀ s i, a0 ≤ i → i < n → ∀ r, T s i (fun s' r' => Ev (fun k => l k s' (i + 1)) r') r → Ev (fun k => l k s i) r)
    (he : ∀ s r, C s r → Ev (fun k => l k s n) r) (d : Nat) : ∀ (a : Int), a0 ≤ a → a + d = n → ∀ s r, foldT T C (ints a d) s r → Ev (fun k => l k s a) r := by
  induction d with
  | zero =>
    intro a h0 ha s r h
    obtain rfl : a = n := by omega
    exact he s r h
  | succ d ih =>
    intro a h0 ha s r h
    exact hs s a h0 (by omega) r (hT s a _ _ r (fun s' r' h' => ih (a + 1) (by omega) (by omega) s' r' h') h)
/-- A loop over a list, by its index. -/
theorem listLoop {l : Nat → σ → Int → Option ρ} (L : List τ) (z : τ) {T : σ → τ → (σ → ρ → Prop) → ρ → Prop} (hT : MonoT T) {C : σ → ρ → Prop}
    (hs : ∀ s (i : Int), 0 ≤ i → i < L.length → ∀ r, T s (L.getD i.toNat z) (fun s' r' => Ev (fun k => l k s' (i + 1)) r') r → Ev (fun k => l k s i) r)
    (he : ∀ s r, C s r → Ev (fun k => l k s (L.length : Int)) r) (d : Nat) : ∀ (a : Int), 0 ≤ a → a + d = L.length → ∀ s r, foldT T C (L.drop a.toNat) s r → Ev (fun k => l k s a) r := by
  induction d with
  | zero =>
    intro a h0 ha s r h
    obtain rfl : a = L.length := by omega
    rw [List.drop_of_length_le (by omega)] at h
    exact he s r h
  | succ d ih =>
    intro a h0 ha s r h
    rw [drop_cons L a.toNat z (by omega)] at h
    refine hs s a h0 (by omega) r (hT s _ _ _ r (fun s' r' h' => ih (a + 1) (by omega) (by omega) s' r' ?_) h)
    rw [show (a + 1).toNat = a.toNat + 1 from by omega]
    exact h'
theorem listLoop0 {l : Nat → σ → Int → Option ρ} (L : List τ) (z : τ) {T : σ → τ → (σ → ρ → Prop) → ρ → Prop} (hT : MonoT T) {C : σ → ρ → Prop}
    (hs : ∀ s (i : Int), 0 ≤ i → i < L.length → ∀ r, T s (L.getD i.toNat z) (fun s' r' => Ev (fun k => l k s' (i + 1)) r') r → Ev (fun k => l k s i) r)
    (he : ∀ s r, C s r → Ev (fun k => l k s (L.length : Int)) r) (s : σ) (r : ρ) (h : foldT T C L s r) : Ev (fun k => l k s 0) r :=
  listLoop L z hT hs he L.length 0 (by omega) (by omega) s r (by simpa using h)
/-- Loops that only look: 'all'. -/
theorem foldX_all (p : τ → Bool) (L : List τ) : foldX (σ := Unit) (fun _ t => if p t = true then .inl () else .inr false) (fun _ => true) L () = L.all p := by
  induction L with
  | nil => rfl
  | cons t L ih =>
    simp only [foldX, List.all_cons]
    cases h : p t with
    | true => simp [ih]
    | false => simp
theorem foldT_map (step : σ → τ → σ ⊕ ρ) (f : υ → τ) (C : σ → ρ → Prop) (L : List υ) : foldT (stepT step) C (L.map f) = foldT (stepT fun s u => step s (f u)) C L := by
  induction L with
  | nil => rfl
  | cons t L ih => funext s r; show stepT step s (f t) (foldT (stepT step) C (L.map f)) r = stepT (fun s u => step s (f u)) s t _ r; rw [ih]; rfl
/-- A round that only looks. -/
def allT (p : τ → Bool) : Unit → τ → (Unit → Bool → Prop) → Bool → Prop := fun _ t C r => if p t = true then C () r else r = false
theorem allT_mono (p : τ → Bool) : MonoT (allT p) := by
  intro s t C D r h hT
  unfold allT at *
  cases hp : p t with
  | true => rw [hp] at hT; exact h () r (by simpa using hT)
  | false => rw [hp] at hT; simpa using hT
theorem allT_fold (p : τ → Bool) (C : Unit → Bool → Prop) (L : List τ) : ∀ r, foldT (allT p) C L () r ↔ (if L.all p = true then C () r else r = false) := by
  induction L with
  | nil => intro r; simp [foldT]
  | cons t L ih =>
    intro r
    show (if p t = true then foldT (allT p) C L () r else r = false) ↔ _
    cases hp : p t with
    | true => rw [if_pos rfl, ih]; simp [hp]
    | false => simp [hp]
theorem allT_done (p : τ → Bool) (L : List τ) (C : Unit → Bool → Prop) (hC : C () true) : foldT (allT p) C L () (L.all p) := by
  rw [allT_fold]
  cases h : L.all p <;> simp [hC]
/-- A loop of looks inside a look. -/
theorem allT_nest (p : τ → υ → Bool) (q : τ → Bool) (L : τ → List υ) :
    (fun (s : Unit) (t : τ) (C : Unit → Bool → Prop) (r : Bool) => if q t = true then foldT (allT (p t)) C (L t) s r else r = false) = allT (fun t => q t && (L t).all (p t)) := by
  funext s t C r
  apply propext
  show (if q t = true then foldT (allT (p t)) C (L t) () r else r = false) ↔ (if (q t && (L t).all (p t)) = true then C () r else r = false)
  rw [allT_fold]
  cases q t <;> cases (L t).all (p t) <;> simp
theorem ints_mem_iff {a x : Int} {d : Nat} : x ∈ ints a d ↔ a ≤ x ∧ x < a + d := by
  induction d generalizing a with
  | zero => simp only [ints, List.not_mem_nil, false_iff]; omega
  | succ d ih => simp only [ints, List.mem_cons, ih]; omega
/-- The ascending lists of three of n. -/
def trips (n : Nat) : List (Int × Int × Int) := (ints 0 n).flatMap fun i => (ints (i + 1) ((n : Int) - 1 - i).toNat).flatMap fun j => (ints (j + 1) ((n : Int) - 1 - j).toNat).map fun k => (i, j, k)
theorem trips_mem {n : Nat} {i j k : Int} : (i, j, k) ∈ trips n ↔ 0 ≤ i ∧ i < j ∧ j < k ∧ k < n := by
  simp only [trips, List.mem_flatMap, List.mem_map, ints_mem_iff]
  constructor
  · rintro ⟨i', hi, j', hj, k', hk, he⟩
    simp only [Prod.mk.injEq] at he
    omega
  · rintro ⟨h0, h1, h2, h3⟩
    exact ⟨i, by omega, j, by omega, k, by omega, rfl⟩
def quads (n : Nat) : List (Int × Int × Int × Int) := (trips n).flatMap fun t => (ints (t.2.2 + 1) ((n : Int) - 1 - t.2.2).toNat).map fun l => (t.1, t.2.1, t.2.2, l)
theorem quads_mem {n : Nat} {i j k l : Int} : (i, j, k, l) ∈ quads n ↔ 0 ≤ i ∧ i < j ∧ j < k ∧ k < l ∧ l < n := by
  simp only [quads, List.mem_flatMap, List.mem_map, ints_mem_iff]
  constructor
  · rintro ⟨⟨i', j', k'⟩, ht, l', hl, he⟩
    rw [trips_mem] at ht
    simp only [Prod.mk.injEq] at he hl
    omega
  · rintro ⟨h0, h1, h2, h3, h4⟩
    exact ⟨(i, j, k), by rw [trips_mem]; omega, l, by simp only; omega, rfl⟩
def pairs (n : Nat) : List (Int × Int) := (ints 0 n).flatMap fun i => (ints (i + 1) ((n : Int) - 1 - i).toNat).map fun j => (i, j)
theorem pairs_mem {n : Nat} {i j : Int} : (i, j) ∈ pairs n ↔ 0 ≤ i ∧ i < j ∧ j < n := by
  simp only [pairs, List.mem_flatMap, List.mem_map, ints_mem_iff]
  constructor
  · rintro ⟨i', hi, j', hj, he⟩
    simp only [Prod.mk.injEq] at he
    omega
  · rintro ⟨h0, h1, h2⟩
    exact ⟨i, by omega, j, by omega, rfl⟩
/-- Three loops in each other, over the ascending lists of three of n. -/
theorem tripLoop {l0 : Nat → σ → Int → Option ρ} {l1 : Nat → σ → Int → Int → Option ρ} {l2 : Nat → σ → Int → Int → Int → Option ρ} (n : Nat) (step : σ → (Int × Int × Int) → σ ⊕ ρ) (fin : σ → ρ)
    (h2 : ∀ s i j k, 0 ≤ i → i < j → j < k → k < (n : Int) → ∀ r, stepT step s (i, j, k) (fun s' r' => Ev (fun q => l2 q s' i j (k + 1)) r') r → Ev (fun q => l2 q s i j k) r)
    (h2e : ∀ s i j, 0 ≤ i → i < j → j < (n : Int) → ∀ r, Ev (fun q => l1 q s i (j + 1)) r → Ev (fun q => l2 q s i j n) r)
    (h1 : ∀ s i j, 0 ≤ i → i < j → j < (n : Int) → ∀ r, Ev (fun q => l2 q s i j (j + 1)) r → Ev (fun q => l1 q s i j) r)
    (h1e : ∀ s i, 0 ≤ i → i < (n : Int) → ∀ r, Ev (fun q => l0 q s (i + 1)) r → Ev (fun q => l1 q s i n) r)
    (h0 : ∀ s i, 0 ≤ i → i < (n : Int) → ∀ r, Ev (fun q => l1 q s i (i + 1)) r → Ev (fun q => l0 q s i) r)
    (h0e : ∀ s, Ev (fun q => l0 q s n) (fin s)) (s : σ) : Ev (fun q => l0 q s 0) (foldX step fin (trips n) s) := by
  have hT := foldX_T step fin (C := fun s r => r = fin s) (fun _ => rfl) (trips n) s
  unfold trips at hT
  rw [← nest_flat] at hT
  refine rangeLoop (l := l0) (n : Int) (nestT_mono (fun _ => stepT_mono step) _) (C := fun s r => r = fin s) 0 ?_ (fun s r h => by subst h; exact h0e s) n 0 (by omega) (by omega) s _ hT
  intro s i hi0 hin r hT
  refine h0 s i hi0 hin r ?_
  unfold nestT at hT
  rw [← nest_flat] at hT
  refine rangeLoop (l := fun q s j => l1 q s i j) (n : Int) (nestT_mono (fun _ => stepT_mono step) _) (i + 1) ?_ (fun s r h => h1e s i hi0 hin r h) ((n : Int) - 1 - i).toNat (i + 1) (by omega) (by omega) s r hT
  intro s j hj0 hjn r hT
  refine h1 s i j hi0 (by omega) hjn r ?_
  unfold nestT at hT
  rw [foldT_map] at hT
  refine rangeLoop (l := fun q s k => l2 q s i j k) (n : Int) (stepT_mono _) (j + 1) ?_ (fun s r h => h2e s i j hi0 (by omega) hjn r h) ((n : Int) - 1 - j).toNat (j + 1) (by omega) (by omega) s r hT
  intro s k hk0 hkn r hT
  exact h2 s i j k hi0 (by omega) (by omega) hkn r hT
/-- Two loops in each other, over the ascending lists of two of n. -/
theorem pairLoop {l0 : Nat → σ → Int → Option ρ} {l1 : Nat → σ → Int → Int → Option ρ} (n : Nat) (step : σ → (Int × Int) → σ ⊕ ρ) (fin : σ → ρ)
    (h1 : ∀ s i j, 0 ≤ i → i < j → j < (n : Int) → ∀ r, stepT step s (i, j) (fun s' r' => Ev (fun q => l1 q s' i (j + 1)) r') r → Ev (fun q => l1 q s i j) r)
    (h1e : ∀ s i, 0 ≤ i → i < (n : Int) → ∀ r, Ev (fun q => l0 q s (i + 1)) r → Ev (fun q => l1 q s i n) r)
    (h0 : ∀ s i, 0 ≤ i → i < (n : Int) → ∀ r, Ev (fun q => l1 q s i (i + 1)) r → Ev (fun q => l0 q s i) r)
    (h0e : ∀ s, Ev (fun q => l0 q s n) (fin s)) (s : σ) : Ev (fun q => l0 q s 0) (foldX step fin (pairs n) s) := by
  have hT := foldX_T step fin (C := fun s r => r = fin s) (fun _ => rfl) (pairs n) s
  unfold pairs at hT
  rw [← nest_flat] at hT
  refine rangeLoop (l := l0) (n : Int) (nestT_mono (fun _ => stepT_mono step) _) (C := fun s r => r = fin s) 0 ?_ (fun s r h => by subst h; exact h0e s) n 0 (by omega) (by omega) s _ hT
  intro s i hi0 hin r hT
  refine h0 s i hi0 hin r ?_
  unfold nestT at hT
  rw [foldT_map] at hT
  refine rangeLoop (l := fun q s j => l1 q s i j) (n : Int) (stepT_mono _) (i + 1) ?_ (fun s r h => h1e s i hi0 hin r h) ((n : Int) - 1 - i).toNat (i + 1) (by omega) (by omega) s r hT
  intro s j hj0 hjn r hT
  exact h1 s i j hi0 (by omega) hjn r hT
/-- Two loops in each other, each over all numbers below a bound. -/
theorem gridLoop {l0 : Nat → σ → Int → Option ρ} {l1 : Nat → σ → Int → Int → Option ρ} (n m : Nat) (step : σ → (Int × Int) → σ ⊕ ρ) (fin : σ → ρ)
    (h1 : ∀ s i j, 0 ≤ i → i < (n : Int) → 0 ≤ j → j < (m : Int) → ∀ r, stepT step s (i, j) (fun s' r' => Ev (fun q => l1 q s' i (j + 1)) r') r → Ev (fun q => l1 q s i j) r)
    (h1e : ∀ s i, 0 ≤ i → i < (n : Int) → ∀ r, Ev (fun q => l0 q s (i + 1)) r → Ev (fun q => l1 q s i m) r)
    (h0 : ∀ s i, 0 ≤ i → i < (n : Int) → ∀ r, Ev (fun q => l1 q s i 0) r → Ev (fun q => l0 q s i) r)
    (h0e : ∀ s, Ev (fun q => l0 q s n) (fin s)) (s : σ) : Ev (fun q => l0 q s 0) (foldX step fin ((ints 0 n).flatMap fun i => (ints 0 m).map fun j => (i, j)) s) := by
  have hT := foldX_T step fin (C := fun s r => r = fin s) (fun _ => rfl) ((ints 0 n).flatMap fun i => (ints 0 m).map fun j => (i, j)) s
  rw [← nest_flat] at hT
  refine rangeLoop (l := l0) (n : Int) (nestT_mono (fun _ => stepT_mono step) _) (C := fun s r => r = fin s) 0 ?_ (fun s r h => by subst h; exact h0e s) n 0 (by omega) (by omega) s _ hT
  intro s i hi0 hin r hT
  refine h0 s i hi0 hin r ?_
  unfold nestT at hT
  rw [foldT_map] at hT
  refine rangeLoop (l := fun q s j => l1 q s i j) (m : Int) (stepT_mono _) 0 ?_ (fun s r h => h1e s i hi0 hin r h) m 0 (by omega) (by omega) s r hT
  intro s j hj0 hjn r hT
  exact h1 s i j hi0 hin hj0 hjn r hT
/-- A loop over a list whose rounds hand on a state. -/
theorem foldLoop {l0 : Nat → σ → Int → Option ρ} (L : List τ) (z : τ) (step : σ → τ → σ ⊕ ρ) (fin : σ → ρ)
    (hs : ∀ s (i : Int), 0 ≤ i → i < L.length → L.getD i.toNat z ∈ L → ∀ r, stepT step s (L.getD i.toNat z) (fun s' r' => Ev (fun k => l0 k s' (i + 1)) r') r → Ev (fun k => l0 k s i) r)
    (he : ∀ s, Ev (fun k => l0 k s (L.length : Int)) (fin s)) (s : σ) : Ev (fun k => l0 k s 0) (foldX step fin L s) :=
  listLoop0 L z (stepT_mono step) (C := fun s r => r = fin s) (fun s i h0 h1 r h => hs s i h0 h1 (getD_mem L i.toNat z (by omega)) r h) (fun s r h => by subst h; exact he s) s _ (foldX_T step fin (C := fun s r => r = fin s) (fun _ => rfl) L s)
theorem stepT_inl {step : σ → τ → σ ⊕ ρ} {s : σ} {t : τ} {C : σ → ρ → Prop} {r : ρ} {s' : σ} (h : stepT step s t C r) (e : step s t = .inl s') : C s' r := by unfold stepT at h; rw [e] at h; exact h
theorem stepT_inr {step : σ → τ → σ ⊕ ρ} {s : σ} {t : τ} {C : σ → ρ → Prop} {r : ρ} {r' : ρ} (h : stepT step s t C r) (e : step s t = .inr r') : r = r' := by unfold stepT at h; rw [e] at h; exact h
theorem foldX_map (step : σ → τ → σ ⊕ ρ) (fin : σ → ρ) (f : υ → τ) (L : List υ) : ∀ s, foldX step fin (L.map f) s = foldX (fun s u => step s (f u)) fin L s := by
  induction L with
  | nil => intro s; rfl
  | cons t L ih => intro s; simp only [List.map_cons, foldX]; cases step s (f t) <;> simp [ih]
theorem foldX_congr {step step' : σ → τ → σ ⊕ ρ} (fin : σ → ρ) (L : List τ) (h : ∀ s, ∀ t ∈ L, step s t = step' s t) : ∀ s, foldX step fin L s = foldX step' fin L s := by
  induction L with
  | nil => intro s; rfl
  | cons t L ih =>
    intro s
    have ih' := ih (fun s t ht => h s t (List.mem_cons_of_mem _ ht))
    simp only [foldX, h s t List.mem_cons_self, ih']
theorem foldT_foldl (g : σ → τ → σ) (C : σ → ρ → Prop) (L : List τ) : ∀ s r, foldT (stepT fun s t => .inl (g s t)) C L s r ↔ C (L.foldl g s) r := by
  induction L with
  | nil => intro s r; exact Iff.rfl
  | cons t L ih => intro s r; exact ih (g s t) r
theorem foldX_foldl (g : σ → τ → σ) (fin : σ → ρ) (L : List τ) : ∀ s, foldX (fun s t => .inl (g s t)) fin L s = fin (L.foldl g s) := by
  induction L with
  | nil => intro s; rfl
  | cons t L ih => intro s; exact ih (g s t)
theorem ints_len (a : Int) (d : Nat) : (ints a d).length = d := by
  induction d generalizing a with
  | zero => rfl
  | succ d ih => simp [ints, ih]
end Go.Proofs.Ytijgjpfbhbggdaa.Com

namespace Go.Proofs.Ytijgjpfbhbggdaa.Pure
open Go.RowKit Go.Proofs.Ytijgjpfbhbggdaa.P Go.Proofs.YtijgjpfbhbggdaaW.PrintWords Go.Proofs.YtijgjpfbhbggdaaW.PrintLast Go.Proofs.Ytijgjpfbhbggdaa.Com
set_option linter.unusedSimpArgs false
set_option linter.unusedVariables false

def mk3 (t : Int × Int × Int) : S65 := ⟨t.1, t.2.1, t.2.2⟩
theorem trips_0 : impl_triplesOf.f 200 (0 : Nat) = some ((trips 0).map mk3) := by kernel_rfl
theorem trips_1 : impl_triplesOf.f 200 (1 : Nat) = some ((trips 1).map mk3) := by kernel_rfl
theorem trips_2 : impl_triplesOf.f 200 (2 : Nat) = some ((trips 2).map mk3) := by kernel_rfl
theorem trips_3 : impl_triplesOf.f 200 (3 : Nat) = some ((trips 3).map mk3) := by kernel_rfl
theorem trips_4 : impl_triplesOf.f 200 (4 : Nat) = some ((trips 4).map mk3) := by kernel_rfl
theorem trips_5 : impl_triplesOf.f 200 (5 : Nat) = some ((trips 5).map mk3) := by kernel_rfl
theorem trips_6 : impl_triplesOf.f 200 (6 : Nat) = some ((trips 6).map mk3) := by kernel_rfl
theorem trips_7 : impl_triplesOf.f 200 (7 : Nat) = some ((trips 7).map mk3) := by kernel_rfl
theorem triples_eq (n : Nat) (hn : n ≤ 7) : Ev (fun k => impl_triplesOf.f k (n : Int)) ((trips n).map mk3) := by
  have h : impl_triplesOf.f 200 (n : Int) = some ((trips n).map mk3) := by
    have z : n = 0 ∨ n = 1 ∨ n = 2 ∨ n = 3 ∨ n = 4 ∨ n = 5 ∨ n = 6 ∨ n = 7 := by omega
    rcases z with rfl | rfl | rfl | rfl | rfl | rfl | rfl | rfl
    · exact trips_0
    · exact trips_1
    · exact trips_2
    · exact trips_3
    · exact trips_4
    · exact trips_5
    · exact trips_6
    · exact trips_7
  exact Ev.of (fun k => impl_triplesOf.mono _ k) h
end Go.Proofs.Ytijgjpfbhbggdaa.Pure

namespace Go.Proofs.Ytijgjpfbhbggdaa.Pure
open Go.RowKit Go.Proofs.Ytijgjpfbhbggdaa.P Go.Proofs.YtijgjpfbhbggdaaW.PrintWords Go.Proofs.YtijgjpfbhbggdaaW.PrintLast Go.Proofs.Ytijgjpfbhbggdaa.Com
set_option linter.unusedSimpArgs false
set_option linter.unusedVariables false

/-- Twice the area of three points of a list, with its sign. -/
def areaL (l : List S25) (i j k : Int) : Int := areaW (rd_T25 l i).f0 (rd_T25 l i).f1 (rd_T25 l j).f0 (rd_T25 l j).f1 (rd_T25 l k).f0 (rd_T25 l k).f1
def fits50 (l : List S25) (i : Int) : Bool := inB (rd_T25 l i).f0 50 && inB (rd_T25 l i).f1 50
def nz (l : List S25) (i j k : Int) : Bool := !(areaL l i j k == 0)
/-- Three to seven points with coordinates between -50 and 50, no three of them on a line. -/
def pointsB (l : List S25) : Bool := decide (3 ≤ l.length ∧ l.length ≤ 7) && (ints 0 l.length).all fun k => fits50 l k && (ints 0 k.toNat).all fun j => (ints 0 j.toNat).all fun i => nz l i j k
theorem pointsB_iff (l : List S25) : pointsB l = true ↔ (3 ≤ l.length ∧ l.length ≤ 7) ∧ (∀ i : Int, 0 ≤ i → i < l.length → fits50 l i = true) ∧ (∀ i j k : Int, 0 ≤ i → i < j → j < k → k < l.length → areaL l i j k ≠ 0) := by
  unfold pointsB
  simp only [Bool.and_eq_true, decide_eq_true_eq, List.all_eq_true, ints_mem_iff, nz, Bool.not_eq_true', beq_eq_false_iff_ne]
  constructor
  · rintro ⟨hl, h⟩
    refine ⟨hl, fun i h0 h1 => (h i ⟨h0, by omega⟩).1, fun i j k h0 h1 h2 h3 => ?_⟩
    exact (h k ⟨by omega, by omega⟩).2 j ⟨by omega, by omega⟩ i ⟨by omega, by omega⟩
  · rintro ⟨hl, hf, ha⟩
    refine ⟨hl, fun k hk => ⟨hf k hk.1 (by omega), fun j hj i hi => ha i j k (by omega) (by omega) (by omega) (by omega)⟩⟩
theorem l2Area_L (l : List S25) (i j k : Int) : spec_l2Area.f (rd_T25 l i).f0 (rd_T25 l i).f1 (rd_T25 l j).f0 (rd_T25 l j).f1 (rd_T25 l k).f0 (rd_T25 l k).f1 = some (areaL l i j k) := l2Area_eq _ _ _ _ _ _
theorem spec_ArePoints_ev (l : List S25) (hl : l.length ≤ 1099511627776) : Ev (fun k => spec_ArePoints.f k l) (pointsB l) := by
  simp only [spec_ArePoints.f, l1In_eq, Option.bind_some]
  by_cases h : 3 ≤ l.length ∧ l.length ≤ 7
  · refine Ev.iteT (by simp; omega) ?_
    have e : pointsB l = (ints 0 l.length).all fun k => fits50 l k && (ints 0 k.toNat).all fun j => (ints 0 j.toNat).all fun i => nz l i j k := by unfold pointsB; rw [decide_eq_true h]; simp
    rw [e]
    refine rangeLoop (σ := Unit) (l := fun k _ i => spec_ArePoints.l0 k l i) (l.length : Int) (T := allT _) (allT_mono _) (C := fun _ r => r = true) 0 ?_ ?_ l.length 0 (by omega) (by omega) () _ (allT_done _ _ _ rfl)
    · intro _ k hk0 hkn r hT
      rw [← allT_nest (fun k j => (ints 0 j.toNat).all fun i => nz l i j k) (fits50 l) (fun k => ints 0 k.toNat)] at hT
      refine Ev.step (f := fun q => if fits50 l k = true then spec_ArePoints.l1 q l k 0 else some false) (fun q => ?_) ?_
      · simp only [spec_ArePoints.l0]
        rw [if_pos hkn, if_pos hk0, l2Fits_eq _ _ 50 (by omega) (by omega)]; rfl
      cases hf : fits50 l k with
      | false => rw [hf] at hT; simp only [Bool.false_eq_true, if_false] at hT ⊢; subst hT; exact Ev.now _
      | true =>
        rw [hf] at hT; simp only [if_true] at hT ⊢
        refine rangeLoop (σ := Unit) (l := fun q _ j => spec_ArePoints.l1 q l k j) k (T := allT fun j => (ints 0 j.toNat).all fun i => nz l i j k) (allT_mono _) (C := fun s r => Ev (fun q => spec_ArePoints.l0 q l (k + 1)) r) 0 ?_ ?_ k.toNat 0 (by omega) (by omega) () r hT
        · intro _ j hj0 hjk r hT
          refine Ev.step (f := fun q => spec_ArePoints.l2 q l k j 0) (fun q => by simp only [spec_ArePoints.l1]; rw [if_pos hjk]) ?_
          have hT2 : foldT (allT fun i => nz l i j k) (fun _ r => Ev (fun q => spec_ArePoints.l1 q l k (j + 1)) r) (ints 0 j.toNat) () r := by rw [allT_fold]; exact hT
          refine rangeLoop (σ := Unit) (l := fun q _ i => spec_ArePoints.l2 q l k j i) j (T := allT fun i => nz l i j k) (allT_mono _) 0 ?_ ?_ j.toNat 0 (by omega) (by omega) () r hT2
          · intro _ i hi0 hij r hT
            refine Ev.step (f := fun q => if areaL l i j k = 0 then some false else spec_ArePoints.l2 q l k j (i + 1)) (fun q => ?_) ?_
            · simp only [spec_ArePoints.l2]
              rw [if_pos hij, if_pos hi0, if_pos (by omega), if_pos hj0, if_pos (by omega), if_pos hk0, if_pos hkn, l2Area_L, w64 (by omega) (by omega)]; rfl
            by_cases hz : areaL l i j k = 0
            · have : r = false := by simpa [allT, nz, hz] using hT
              subst this; exact Ev.iteT hz (Ev.now _)
            · refine Ev.iteF hz ?_; simpa [allT, nz, hz] using hT
          · intro _ r hC
            refine Ev.step (f := fun q => spec_ArePoints.l1 q l k (j + 1)) (fun q => ?_) hC
            simp only [spec_ArePoints.l2]
            rw [if_neg (by omega), w64 (by omega) (by omega)]
        · intro _ r hC
          refine Ev.step (f := fun q => spec_ArePoints.l0 q l (k + 1)) (fun q => ?_) hC
          simp only [spec_ArePoints.l1]
          rw [if_neg (by omega), w64 (by omega) (by omega)]
    · intro _ r hC
      subst hC
      refine Ev.step (f := fun _ => some true) (fun q => ?_) (Ev.now true)
      simp only [spec_ArePoints.l0]
      rw [if_neg (by omega)]
  · have e : pointsB l = false := by unfold pointsB; rw [decide_eq_false h]; rfl
    rw [e]
    exact Ev.iteF (by simp; omega) (Ev.now _)
theorem sgn_zero (x : Int) : sgn x = 0 ↔ x = 0 := by unfold sgn; split <;> (try split) <;> omega
theorem fits50_all (l : List S25) : (l.all fun p => inB p.f0 50 && inB p.f1 50) = (ints 0 l.length).all (fits50 l) := by
  rw [Bool.eq_iff_iff]
  simp only [List.all_eq_true, ints_mem_iff]
  constructor
  · intro h i hi
    exact h (rd_T25 l i) (getD_mem l i.toNat z25 (by omega))
  · intro h p hp
    obtain ⟨n, hn, rfl⟩ := List.mem_iff_getElem.1 hp
    have := h (n : Int) (by omega)
    simpa [fits50, rd_T25, List.getD, List.getElem?_eq_getElem hn] using this
theorem TurnOf_in (l : List S25) (i j k : Int) (hi : fits50 l i = true) (hj : fits50 l j = true) (hk : fits50 l k = true) :
    impl_TurnOf.f (rd_T25 l i).f0 (rd_T25 l i).f1 (rd_T25 l j).f0 (rd_T25 l j).f1 (rd_T25 l k).f0 (rd_T25 l k).f1 = some (sgn (areaL l i j k)) := by
  rw [TurnOf_eq, if_pos]; · rfl
  simp only [fits50, Bool.and_eq_true, inB_iff] at *
  omega
theorem impl_ArePoints_ev (l : List S25) (hl : l.length ≤ 1099511627776) : Ev (fun k => impl_ArePoints.f k l) (pointsB l) := by
  have stop : Ev (fun k => impl_ArePoints.j0 k l true) false := Ev.step (f := fun _ => some false) (fun k => by simp only [impl_ArePoints.j0, if_true]) (Ev.now _)
  simp only [impl_ArePoints.f, areNear_eq 50 _ (show (0 : Int) ≤ 50 by omega) (by omega), Option.bind_some]
  by_cases h3 : (l.length : Int) < 3
  · have e : pointsB l = false := by unfold pointsB; rw [decide_eq_false (by omega)]; rfl
    rw [e]; exact Ev.iteT h3 stop
  refine Ev.iteF h3 ?_
  by_cases h7 : (l.length : Int) > 7
  · have e : pointsB l = false := by unfold pointsB; rw [decide_eq_false (by omega)]; rfl
    rw [e]; exact Ev.iteT h7 stop
  refine Ev.iteF h7 ?_
  rw [fits50_all]
  cases hf : (ints 0 l.length).all (fits50 l) with
  | false =>
    have e : pointsB l = false := by
      rw [Bool.eq_false_iff]; intro hp
      rw [pointsB_iff] at hp
      rw [List.all_eq_false] at hf
      obtain ⟨x, hx, hx'⟩ := hf
      rw [ints_mem_iff] at hx
      exact hx' (hp.2.1 x hx.1 (by omega))
    rw [e]; exact stop
  | true =>
    have hF : ∀ i, 0 ≤ i → i < (l.length : Int) → fits50 l i = true := fun i h0 h1 => by
      rw [List.all_eq_true] at hf; exact hf i (by rw [ints_mem_iff]; omega)
    refine Ev.step (f := fun k => (impl_triplesOf.f k (l.length : Int)).bind fun t => impl_ArePoints.l0 k l t (t.length : Int) 0) (fun k => by simp only [impl_ArePoints.j0, Bool.not_true, Bool.false_eq_true, if_false]) ?_
    refine Ev.bind (triples_eq l.length (by omega)) ?_
    have e : pointsB l = ((trips l.length).map mk3).all fun t => nz l t.f0 t.f1 t.f2 := by
      rw [Bool.eq_iff_iff, pointsB_iff]
      simp only [List.all_eq_true, List.mem_map]
      constructor
      · rintro ⟨_, _, ha⟩ t ⟨⟨i, j, k⟩, hm, rfl⟩
        rw [trips_mem] at hm
        simp only [mk3, nz, Bool.not_eq_true', beq_eq_false_iff_ne]
        exact ha i j k hm.1 hm.2.1 hm.2.2.1 hm.2.2.2
      · intro h
        refine ⟨by omega, hF, fun i j k h0 h1 h2 h3 => ?_⟩
        have := h _ ⟨(i, j, k), by rw [trips_mem]; omega, rfl⟩
        simpa [mk3, nz] using this
    rw [e]
    refine listLoop0 (σ := Unit) (l := fun q _ i => impl_ArePoints.l0 q l _ _ i) ((trips l.length).map mk3) z65 (T := allT _) (allT_mono _) (C := fun _ r => r = true) ?_ ?_ () _ (allT_done _ _ _ rfl)
    · intro _ i hi0 hin r hT
      have hm : ((trips l.length).map mk3).getD i.toNat z65 ∈ (trips l.length).map mk3 := getD_mem _ _ _ (by omega)
      generalize hg : ((trips l.length).map mk3).getD i.toNat z65 = t at hm hT
      have hr : rd_T65 ((trips l.length).map mk3) i = t := hg
      obtain ⟨⟨a, b, c⟩, hm3, rfl⟩ := List.mem_map.1 hm
      clear hm
      have hm := trips_mem.1 hm3
      refine Ev.step (f := fun q => if sgn (areaL l a b c) = 0 then some false else impl_ArePoints.l0 q l ((trips l.length).map mk3) (((trips l.length).map mk3).length : Int) (i + 1)) (fun q => ?_) ?_
      · simp only [impl_ArePoints.l0, hr, mk3]
        have hlen : i < (((trips l.length).map mk3).length : Int) := hin
        have hb : (((trips l.length).map mk3).length : Int) ≤ 35 := by
          have : l.length = 3 ∨ l.length = 4 ∨ l.length = 5 ∨ l.length = 6 ∨ l.length = 7 := by omega
          rcases this with h | h | h | h | h <;> rw [h] <;> decide +kernel
        rw [if_pos hlen, if_pos hi0, if_pos (by omega), if_pos (by omega), if_pos (by omega), if_pos (by omega), if_pos (by omega), if_pos (by omega), if_pos (by omega), TurnOf_in l a b c (hF a (by omega) (by omega)) (hF b (by omega) (by omega)) (hF c (by omega) (by omega)), w64 (by omega) (by omega)]; rfl
      by_cases hz : areaL l a b c = 0
      · have : r = false := by simpa [allT, nz, mk3, hz] using hT
        subst this; exact Ev.iteT ((sgn_zero _).2 hz) (Ev.now _)
      · refine Ev.iteF (fun h => hz ((sgn_zero _).1 h)) ?_; simpa [allT, nz, mk3, hz] using hT
    · intro _ r hC
      subst hC
      refine Ev.step (f := fun _ => some true) (fun q => ?_) (Ev.now true)
      simp only [impl_ArePoints.l0]
      rw [if_neg (by omega)]
end Go.Proofs.Ytijgjpfbhbggdaa.Pure

namespace Go.Proofs.Ytijgjpfbhbggdaa.Pure
open Go.RowKit Go.Proofs.Ytijgjpfbhbggdaa.P Go.Proofs.YtijgjpfbhbggdaaW.PrintWords Go.Proofs.YtijgjpfbhbggdaaW.PrintLast Go.Proofs.Ytijgjpfbhbggdaa.Com
set_option linter.unusedSimpArgs false
set_option linter.unusedVariables false

def centerL (l : List S25) : Int × Int := if pointsB l = true then l.foldl cStep (0, 0) else (0, 0)
theorem impl_Center_ev (l : List S25) (hl : l.length ≤ 1099511627776) : Ev (fun k => impl_CenterTimes.f k l) (centerL l) := by
  simp only [impl_CenterTimes.f]
  exact Ev.bind (impl_ArePoints_ev l hl) (Ev.now _)
theorem spec_Center_ev (l : List S25) (hl : l.length ≤ 1099511627776) : Ev (fun k => spec_CenterTimes.f k l) (centerL l) := by
  simp only [spec_CenterTimes.f]
  cases hp : pointsB l with
  | false =>
    unfold centerL
    rw [hp, if_neg (by decide)]
    by_cases h0 : 0 < l.length
    · refine Ev.step (f := fun q => (spec_ArePoints.f q l).bind fun t => if t = true then (if (0 : Int) ≤ 0 then spec_CenterTimes.l0 q l (wrap64 (0 + 1)) (wrap64 (0 + (rd_T25 l 0).f0)) (wrap64 (0 + (rd_T25 l 0).f1)) else none) else some (0, 0)) (fun q => by simp only [spec_CenterTimes.l0]; rw [if_pos (by omega)]) ?_
      refine Ev.bind (spec_ArePoints_ev l hl) ?_
      rw [hp]
      exact Ev.iteF (by decide) (Ev.now _)
    · exact Ev.step (f := fun _ => some (0, 0)) (fun q => by simp only [spec_CenterTimes.l0]; rw [if_neg (by omega)]) (Ev.now _)
  | true =>
    unfold centerL
    rw [hp, if_pos rfl]
    refine listLoop0 (σ := Int × Int) (ρ := Int × Int) (l := fun q s i => spec_CenterTimes.l0 q l i s.1 s.2) l z25 (T := Com.stepT fun s p => .inl (cStep s p)) (stepT_mono _) (C := fun s r => r = s) ?_ ?_ (0, 0) _ ((foldT_foldl _ _ _ (0, 0) _).2 rfl)
    · intro s i hi0 hin r hT
      have hT := stepT_inl hT rfl
      refine Ev.step (f := fun q => (spec_ArePoints.f q l).bind fun t => if t = true then (if (0 : Int) ≤ i then spec_CenterTimes.l0 q l (i + 1) (wrap64 (s.1 + (rd_T25 l i).f0)) (wrap64 (s.2 + (rd_T25 l i).f1)) else none) else some (s.1, s.2)) (fun q => by simp only [spec_CenterTimes.l0]; rw [if_pos hin, w64 (x := i + 1) (by omega) (by omega)]) ?_
      refine Ev.bind (spec_ArePoints_ev l hl) ?_
      rw [hp]
      exact Ev.iteT rfl (Ev.iteT hi0 hT)
    · rintro s r rfl
      exact Ev.step (f := fun _ => some r) (fun q => by simp only [spec_CenterTimes.l0]; rw [if_neg (by omega)]) (Ev.now _)
theorem FnExactCenterTimes : laws_FnExactCenterTimes.Pure := by
  rintro x ⟨hm, _⟩
  apply Ev.rounds
  simp only [laws_FnExactCenterTimes.f, szPointS_eq x hm, Option.bind_some]
  by_cases h : x.length ≤ 1048576
  · rw [if_pos h]
    refine Ev.iteF (by omega) ?_
    have hl : (x.map convPoint).length ≤ 1048576 := by simpa using h
    obtain ⟨r, h1, h2⟩ : ∃ r : Int × Int, Ev (fun k => spec_CenterTimes.f k (x.map convPoint)) r ∧ Ev (fun k => impl_CenterTimes.f k (x.map convPoint)) r := ⟨_, spec_Center_ev _ (by omega), impl_Center_ev _ (by omega)⟩
    refine Ev.bind (toPointS_eq x h) (Ev.bind h1 (Ev.bind (toPointS_eq x h) (Ev.bind h2 ?_)))
    have e : laws_eqPoint.f r.1 r.2 r.1 r.2 = some true := by unfold laws_eqPoint.f; simp
    refine Ev.bind0 e (Ev.iteT rfl ?_)
    exact Ev.bind (toPointS_eq x h) (Ev.bind (eqPointS_refl _ (by omega)) (Ev.iteT rfl (Ev.now true)))
  · rw [if_neg h]
    exact Ev.iteT (by omega) (Ev.now true)
end Go.Proofs.Ytijgjpfbhbggdaa.Pure

namespace Go.Proofs.Ytijgjpfbhbggdaa.Opn
open Go Go.Deep Go.ChangeShapes Go.WideShapes Go.Proofs.YtijgjpfbhbggdaaW.PrintWords

section
variable {H : Type} (enc : TypeId × Value → H) (P : Program) (w : World) (base : Nat) (spare : Nat → Bool) (held : Bool)
/-- Whatever is read at type t is told by the kind d, and Q holds of it. -/
def Opens {α : Type} (d : Kd α) (t : TypeId) (Q : α → Prop) : Prop :=
  ∀ (fuel : Nat) (cs : List Value) (x : DataW H × List MemPlace), DataW.trod enc P w base spare held fuel t cs = some x → ∃ a, d.K w a cs ∧ Q a
end
section
variable {H : Type} {enc : TypeId × Value → H} {P : Program} {w : World} {base : Nat} {spare : Nat → Bool} {held : Bool}
theorem opens_int {t : TypeId} {k : IntKind} (ht : P.underlying t = some (.int k)) : Opens enc P w base spare held (Kd.int k) t (fun n => (Lit.int k n).wf = true) := fun fuel cs x h => by
  obtain ⟨n, rfl, _, hw⟩ := DataW.trod_int ht h
  exact ⟨n, rfl, hw⟩
theorem opens_bool {t : TypeId} (ht : P.underlying t = some .bool) : Opens enc P w base spare held Kd.bool t (fun _ => True) := fun fuel cs x h => by
  obtain ⟨n, rfl, _⟩ := DataW.trod_bool ht h
  exact ⟨n, rfl, trivial⟩
theorem opens_string {t : TypeId} (ht : P.underlying t = some .string) : Opens enc P w base spare held Kd.string t (fun s => s.size ≤ maxLen) := fun fuel cs x h => by
  obtain ⟨n, rfl, _, hs⟩ := DataW.trod_string ht h
  exact ⟨n, rfl, hs⟩
theorem opens_iso {α β : Type} {d : Kd α} {t : TypeId} {Q : α → Prop} (h : Opens enc P w base spare held d t Q) (f : β → α) (g : α → β) (hfg : ∀ a, f (g a) = a) : Opens enc P w base spare held (Kd.iso d f) t (fun b => Q (f b)) := fun fuel cs x hx => by
  obtain ⟨a, hK, hQ⟩ := h fuel cs x hx
  exact ⟨g a, by show d.K w (f (g a)) cs; rw [hfg]; exact hK, by show Q (f (g a)); rw [hfg]; exact hQ⟩
/-- A list of fields, one behind the other, from the cell o on. -/
def OpensFs (enc : TypeId × Value → H) (P : Program) (w : World) (base : Nat) (spare : Nat → Bool) (held : Bool) {α : Type} (d : Kd α) (o : Nat) (fs : List Field) (Q : α → Prop) : Prop :=
  ∀ (n : Nat) (cs : List Value), cs.length = o + d.sz → (∀ f ∈ fs, ∃ x, DataW.trod enc P w base spare held n f.type ((cs.drop f.offset).take (P.cellsOf f.type)) = some x) → ∃ a, d.K w a (cs.drop o) ∧ Q a
theorem opensFs_one {α : Type} {d : Kd α} {o : Nat} {f : Field} {Q : α → Prop} (h : Opens enc P w base spare held d f.type Q) (ho : f.offset = o) (hc : P.cellsOf f.type = d.sz) : OpensFs enc P w base spare held d o [f] Q := by
  intro n cs hl hf
  obtain ⟨x, hx⟩ := hf f (by simp)
  obtain ⟨a, hK, hQ⟩ := h n _ x hx
  refine ⟨a, ?_, hQ⟩
  rwa [ho, hc, List.take_of_length_le (by rw [List.length_drop]; omega)] at hK
theorem opensFs_cons {α β : Type} {d : Kd α} {e : Kd β} {o : Nat} {f : Field} {fs : List Field} {Q : α → Prop} {R : β → Prop} (h : Opens enc P w base spare held d f.type Q) (hs : OpensFs enc P w base spare held e (o + d.sz) fs R) (ho : f.offset = o) (hc : P.cellsOf f.type = d.sz) :
    OpensFs enc P w base spare held (Kd.pair d e) o (f :: fs) (fun x => Q x.1 ∧ R x.2) := by
  intro n cs hl hf
  have hz : (Kd.pair d e).sz = d.sz + e.sz := rfl
  rw [hz] at hl
  obtain ⟨x, hx⟩ := hf f (by simp)
  obtain ⟨a, hK, hQ⟩ := h n _ x hx
  obtain ⟨b, hK', hR⟩ := hs n cs (by omega) (fun g hg => hf g (by simp [hg]))
  rw [ho, hc] at hK
  refine ⟨(a, b), ⟨(cs.drop o).take d.sz, cs.drop (o + d.sz), ?_, hK, hK'⟩, hQ, hR⟩
  rw [← List.drop_drop, List.take_append_drop]
theorem opens_struct {α : Type} {d : Kd α} {t : TypeId} {fs : Array Field} {Q : α → Prop} (ht : P.underlying t = some (.struct fs)) (hc : P.cellsOf t = d.sz) (h : OpensFs enc P w base spare held d 0 fs.toList Q) : Opens enc P w base spare held d t Q := fun fuel cs x hx => by
  obtain ⟨xs, n, rfl, rfl, hl, hlen, hf⟩ := DataW.trod_struct ht hx
  obtain ⟨a, hK, hQ⟩ := h n cs (by omega) (fun f hm => by
    obtain ⟨i, hi, rfl⟩ := List.mem_iff_getElem.1 hm
    have hi' : i < fs.size := by simpa using hi
    have := hf i fs[i] (by simp [hi'])
    rw [List.getElem?_eq_getElem (by omega)] at this
    exact ⟨_, by simpa using this⟩)
  exact ⟨a, by simpa using hK, hQ⟩
theorem opens_slice {α : Type} {d : Kd α} {t e : TypeId} {Q : α → Prop} (ht : P.underlying t = some (.slice e)) (hc : P.cellsOf e = d.sz) (h : Opens enc P w base spare held d e Q) :
    Opens enc P w base spare held (Kd.slice e d) t (fun xs => xs.length ≤ maxLen ∧ ∀ x ∈ xs, Q x) := fun fuel cs x hx => by
  rcases open_slice ht hx with ⟨rfl, _⟩ | ⟨a, len, cap, m, n, D, Pl, rfl, _, hl, hm, hmm, _, hel⟩
  · exact ⟨[], ⟨none, 0, rfl, Nat.le_refl _, ⟨rfl, by simp, fun h => by simp at h⟩⟩, by simp⟩
  have hlm : len ≤ m := by rw [hmm]; split <;> omega
  have hi : ∀ i : Fin len, ∃ y : α, (∃ cs', w.cells? base (a.add (i.val * P.cellsOf e)) (P.cellsOf e) = some cs' ∧ d.K w y cs') ∧ Q y := fun i => by
    obtain ⟨cs', h1, h2⟩ := hel i.val (by omega)
    obtain ⟨y, hK, hQ⟩ := h _ _ _ h2
    exact ⟨y, ⟨cs', h1, hK⟩, hQ⟩
  let f : Fin len → α := fun i => Classical.choose (hi i)
  have hfs : ∀ i : Fin len, (∃ cs', w.cells? base (a.add (i.val * P.cellsOf e)) (P.cellsOf e) = some cs' ∧ d.K w (f i) cs') ∧ Q (f i) := fun i => Classical.choose_spec (hi i)
  have hlen : (List.ofFn f).length = len := by simp
  have hmax : cap ≤ 9223372036854775807 := by unfold maxLen at hm; omega
  refine ⟨List.ofFn f, ⟨some a, cap, by rw [hlen], by omega, ⟨rfl, by omega, fun _ => ⟨a, rfl, fun j p hj => ?_⟩⟩⟩, by omega, fun y hy => ?_⟩
  · obtain ⟨hj', rfl⟩ := List.getElem?_eq_some_iff.1 hj
    obtain ⟨⟨cs', h1, hK⟩, _⟩ := hfs ⟨j, by omega⟩
    obtain ⟨_, hcl, hcell⟩ := World.cells?_some h1
    refine ⟨cs', by omega, by simpa using hK, fun i u hu => ?_⟩
    have hiu : i < P.cellsOf e := by
      have := (List.getElem?_eq_some_iff.1 hu).1
      omega
    have := hcell i hiu
    rw [Go.Deep.add_add, hu, hc] at this
    exact this
  · obtain ⟨i, rfl⟩ := (List.mem_ofFn).1 hy
    exact (hfs i).2
end
end Go.Proofs.Ytijgjpfbhbggdaa.Opn

namespace Go.Proofs.Ytijgjpfbhbggdaa.fnExactCenterTimes
open Go.ChangeShapes Go.WideShapes Go.ChangeAt Go.RowKit Go.Proofs.Ytijgjpfbhbggdaa.P Go.Proofs.Ytijgjpfbhbggdaa.Opn Go.Proofs.YtijgjpfbhbggdaaW.PrintWords
open Go.ChangeMaps (open_string shut_string)
set_option linter.unusedVariables false
set_option linter.unusedSimpArgs false
theorem own : ownKnob Try.prog.godebug = none := by kernel_rfl
theorem laidOut : laidOutB Try.prog = true := by kernel_rfl
set_option maxRecDepth 100000 in
theorem lifted (os : Os) (started : os.Started) (H : Type) (enc : TypeId × Value → H) :
  ReturnsInHanded {} Try.checked os 3 .any (Rows.fnExactCenterTimesSpec.pre6 enc Try.prog Try.f3 Rows.fnExactCenterTimesRow.domain false) (Rows.fnExactCenterTimesSpec.post enc Try.prog Try.f3 false true false false) := by
 refine returnsInHanded_of_change_sized (C := Try.checked) own started (by kernel_rfl) Try.func3
  (ChangeSpec.witness6 (enc := enc) (C := Try.checked) false ⟨#[], #[.slice none 0 0], []⟩ 8 (by kernel_rfl) (by kernel_rfl) (by kernel_rfl) (by kernel_rfl)) ?_
 intro W base args ds gs before hval0 hW hcnd hsz0 _
 have hval : ∀ (j : Nat) t v, Try.f3.params[j]? = some t → args[j]? = some v → Value.okWide Try.prog W .any base t v := hval0
 have hW' := hW
 obtain ⟨p, q, hA0, hV, rfl, hfz, hnd⟩ := hW
 have hA : DataW.TrodAll enc Try.prog W 0 (fun _ => true) true Try.f3.params.toList args.toList ds p := hA0
 rw [Try.params3] at hA hval
 obtain ⟨v0, vs0, d0, ds0, p0, q0, hargs, rfl, rfl, h0, r0⟩ := trodAll_cons hA
 obtain ⟨rfl, rfl, rfl⟩ := trodAll_nil r0
 obtain rfl : args = #[v0] := by cases args; simp_all
 obtain ⟨rfl, rfl⟩ := trodVars_none hV
 have k0 := h0
 have lt0 : ∀ x ∈ p0, x.block < W.heap.size := by obtain ⟨m, hm⟩ := k0; exact DataW.trod_lt m _ _ _ hm
 obtain ⟨a0, len0, cap0, rfl⟩ := okWide_slice Try.underlying22 (hval 0 22 v0 rfl rfl)
 obtain ⟨x0, ⟨A0, c0, e0, hc0, hC0⟩, y0⟩ : ∃ xs : List (S56), (Kd.slice 56 k56).K W xs [.slice a0 len0 cap0] ∧ (xs.length ≤ maxLen ∧ ∀ y0 ∈ xs, ((Lit.int .i64 y0.f0).wf = true ∧ (Lit.int .i64 y0.f1).wf = true)) := by obtain ⟨m, hm⟩ := h0; exact (opens_slice Try.underlying22 (by kernel_rfl) (opens_iso (opens_struct Try.underlying56 (by kernel_rfl) (opensFs_cons (opens_int Try.underlying3) (opensFs_one (opens_int Try.underlying3) rfl (by kernel_rfl)) rfl (by kernel_rfl))) (fun x : S56 => (x.f0, x.f1)) (fun a => (⟨a.1, a.2⟩ : S56)) (fun _ => rfl))) m _ _ hm
 simp only [List.cons.injEq, Value.slice.injEq, and_true] at e0
 obtain ⟨rfl, rfl, rfl⟩ := e0
 clear hA0 hval0 hsz0
 obtain ⟨k, hP⟩ := Pure.FnExactCenterTimes x0 y0
 refine (laws_FnExactCenterTimes.calls k _ _ x0 true W hC0 hc0 hP).mono ?_
 rintro e W' ⟨he, bel0⟩
 have bel : Below W.heap.size W W' := bel0
 subst he
 exact ⟨_, rfl, _, _, _, [], _, [], hW', trodAll_mk1 (shut_bool Try.underlying4 _), (trodAll_cons_mk (Below.trod laidOut (by kernel_rfl) (of_decide_eq_true (by kernel_rfl)) k0 bel lt0) trodAll_mk0), rfl, bel.frame _, fun h => by cases h⟩
theorem over : Rows.fnExactCenterTimesRow.holds Try.pinned (OpenSpec.ofChange Rows.fnExactCenterTimesSpec) :=
 OpenClaim.holds_of_wide 3 Try.f3 rfl rfl rfl rfl rfl rfl rfl ⟨rfl, rfl, rfl, rfl, rfl⟩ rfl rfl rfl rfl rfl (by kernel_rfl) Try.func3 (by kernel_rfl)
  (of_decide_eq_true (by kernel_rfl)) (by unfold Func.isWrapper; first | (rw [if_pos (by decide +kernel)]; kernel_rfl) | (rw [if_neg (by decide +kernel)]; exact ⟨rfl, rfl⟩))
  (fun os started H enc _ => lifted os started H enc)
theorem proved : Rows.FnExactCenterTimesSaid := over
#print axioms proved
end Go.Proofs.Ytijgjpfbhbggdaa.fnExactCenterTimes
namespace Go.Proofs.Ytijgjpfbhbggdaa
/-- The row, under a short name, for the claim. -/
theorem fnExactCenterTimes_holds : Rows.FnExactCenterTimesSaid := fnExactCenterTimes.proved
end Go.Proofs.Ytijgjpfbhbggdaa

