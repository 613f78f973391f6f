/- A part of the proof of FnExactIsGridInside: printed contracts and plain laws, joined by a program of this session. -/
import Derived.Test.YtijgjpfbhbggdaaZFnExactIsGridInside3
import Derived.Lib.AtoiErrMem
namespace Go.Proofs.Ytijgjpfbhbggdaa.P
open Go.RowKit Go.Proofs.YtijgjpfbhbggdaaW.PrintWords Go.Proofs.YtijgjpfbhbggdaaW.PrintLast Go.Proofs.YtijgjpfbhbggdaaW.PrintMore
attribute [local go_sem] max2_int min2_int max_two min_two max_three min_three max_four min_four   -- for this text's walks alone
set_option linter.unusedVariables false
set_option linter.unusedSimpArgs false
/-! ### impl_ArePoints: function 56 -/
mutual
def impl_ArePoints.j0 : Nat → List (S25) → Bool → Option (Bool)
 | 0, _, _ => none
 | k + 1, x0, x17 => if x17 = true then (some false) else ((impl_triplesOf.f k (x0.length : Int)).bind fun t102 => (impl_ArePoints.l0 k x0 t102 (t102.length : Int) 0))
def impl_ArePoints.l0 : Nat → List (S25) → List (S65) → Int → Int → Option (Bool)
 | 0, _, _, _, _ => none
 | k + 1, x0, x20, x21, x22 => if x22 < x21 then (if 0 ≤ x22 then (if x22 < (x20.length : Int) then (if 0 ≤ ((rd_T65 x20 x22).f0) then (if ((rd_T65 x20 x22).f0) < (x0.length : Int) then (if 0 ≤ ((rd_T65 x20 x22).f1) then (if ((rd_T65 x20 x22).f1) < (x0.length : Int) then (if 0 ≤ ((rd_T65 x20 x22).f2) then (if ((rd_T65 x20 x22).f2) < (x0.length : Int) then ((impl_TurnOf.f ((rd_T25 x0 ((rd_T65 x20 x22).f0)).f0) ((rd_T25 x0 ((rd_T65 x20 x22).f0)).f1) ((rd_T25 x0 ((rd_T65 x20 x22).f1)).f0) ((rd_T25 x0 ((rd_T65 x20 x22).f1)).f1) ((rd_T25 x0 ((rd_T65 x20 x22).f2)).f0) ((rd_T25 x0 ((rd_T65 x20 x22).f2)).f1)).bind fun t110 => (if t110 = 0 then (some false) else (impl_ArePoints.l0 k x0 x20 x21 (wrap64 (x22 + 1))))) else (none)) else (none)) else (none)) else (none)) else (none)) else (none)) else (none)) else (none)) else (some true)
end
def impl_ArePoints.f (k : Nat) (l0 : List (S25)) : Option (Bool) := if (l0.length : Int) < 3 then (impl_ArePoints.j0 k l0 true) else (if (l0.length : Int) > 7 then (impl_ArePoints.j0 k l0 true) else ((impl_areNear.f 50 l0).bind fun t101 => (impl_ArePoints.j0 k l0 (!t101))))
def impl_ArePoints.T6 : Bool × List (List Nat × List Nat) := (true, [([], []), ([], []), ([1], [1]), ([0, 2], [0, 2]), ([3], [3]), ([], []), ([], []), ([6], [6]), ([5, 7], [5, 7]), ([8], [8]), ([], []), ([], []), ([11], [11]), ([10, 12], [10, 12]), ([13], [13]), ([4, 9, 14], [4, 9, 14]), ([15], [15])])
def impl_ArePoints.B6 : List Nat := [0, 0, 2, 7, 15, 0, 0, 64, 224, 480, 0, 0, 2048, 7168, 15360, 32767, 65535]
theorem impl_ArePoints.tab6 : rtab .any (opsOf Try.f56 6) = impl_ArePoints.T6 := by kernel_rfl
theorem impl_ArePoints.bits6 : waitsOk impl_ArePoints.T6.2 impl_ArePoints.B6 = true := by kernel_rfl
set_option maxHeartbeats 8000000 in
set_option maxRecDepth 100000 in
theorem impl_ArePoints.calls (k : Nat) (A0 : Option Addr) (c0 : Nat) (l0 : List (S25)) (r : Bool) (w : World) (hr0 : Kd.C k25 w A0 l0.length l0) (hc0 : l0.length ≤ c0) (h : impl_ArePoints.f k l0 = some r) :
  Calls Try.prog 56 #[.slice A0 l0.length c0] w fun e w' => e = .returned (.bool r) ∧ Below w.heap.size w w' := by
 have hu65 := Try.underlying65
 have hu25 := Try.underlying25
 have HR0 := aM_ hr0
 have HC0 := aM_ hc0
 clear hr0 hc0
 have HB := aM_ (Below.refl w.heap.size w)
 have H : (if (l0.length : Int) < 3 then (impl_ArePoints.j0 k l0 true) else (if (l0.length : Int) > 7 then (impl_ArePoints.j0 k l0 true) else ((impl_areNear.f 50 l0).bind fun t101 => (impl_ArePoints.j0 k l0 (!t101))))) = some r := h
 clear h
 have HC2 := aM_ H
 clear H
 go_enter Try.func56, Try.ntmps56
 go_upto_region 1 with (fail)
 go_cut [17] (fun v17 wc => ∃ (kq : Nat) (x17_1 : Bool), v17 = .bool x17_1 ∧ Aside0 (impl_ArePoints.j0 kq l0 x17_1 = some r) ∧ Aside0 (kq ≤ k) ∧ Aside0 (Below w.heap.size w wc))
 case first =>
  have H := HC2.out
  clear HC2
  by_cases c3 : (l0.length : Int) < 3
  ·rw [if_pos c3] at H
   have c3b0 : decide ((l0.length : Int) < 3) = true := decide_eq_true c3
   have c3b1 : decide (l0.length < 3) = true := decide_eq_true (by omega)
   clear c3
   (first | rw [c3b0] | (simp only [i64_w, i32_w]; rw [c3b0]) | skip)
   have H' := aM_ H
   clear H
   go_wp2
   go_meet
   case rel => exact ⟨_, (true), (by first | rfl | (simp; done) | (simp [*]; done)), H', ⟨by first | omega | exact Nat.le_refl _⟩, ⟨by repeat (first | (with_reducible first | exact HB.out | apply bA_ | apply bN_ | apply bD_) | exact HB.out)⟩⟩
  ·rw [if_neg c3] at H
   have c3b0 : decide ((l0.length : Int) < 3) = false := decide_eq_false c3
   have c3b1 : decide (l0.length < 3) = false := decide_eq_false (by omega)
   clear c3
   (first | rw [c3b0] | (simp only [i64_w, i32_w]; rw [c3b0]) | skip)
   by_cases c4 : (l0.length : Int) > 7
   ·rw [if_pos c4] at H
    have c4b0 : decide (7 < (l0.length : Int)) = true := decide_eq_true c4
    have c4b1 : decide (7 < l0.length) = true := decide_eq_true (by omega)
    clear c4
    have H' := aM_ H
    clear H
    go_wp2
    go_meet
    case rel => exact ⟨_, (true), (by first | rfl | (simp; done) | (simp [*]; done)), H', ⟨by first | omega | exact Nat.le_refl _⟩, ⟨by repeat (first | (with_reducible first | exact HB.out | apply bA_ | apply bN_ | apply bD_) | exact HB.out)⟩⟩
   ·rw [if_neg c4] at H
    have c4b0 : decide (7 < (l0.length : Int)) = false := decide_eq_false c4
    have c4b1 : decide (7 < l0.length) = false := decide_eq_false (by omega)
    clear c4
    replace H := oB_ H
    obtain ⟨t101, A50, H⟩ := H
    replace H : (impl_ArePoints.j0 k l0 (!t101)) = some r := H
    have A5 := aM_ A50
    clear A50
    have H' := aM_ H
    clear H
    go_wp2_with (first | (go_at_call 109; (with_reducible refine (impl_areNear.calls 50 _ _ l0 t101 _ ?side1 ?side2 A5.out).mono ?_); (case side1 => repeat (first | exact (Kd.C_below HR0.out HB.out) | (with_reducible refine Kd.C_alloc ?_ _) | (with_reducible refine Kd.C_drewN ?_ _) | (with_reducible refine Kd.C_drew ?_))); (case side2 => exact HC0.out); rintro e w6 ⟨rfl, hb⟩; have n0_ := aM_ (below_step (by repeat (first | (with_reducible first | exact HB.out | apply bA_ | apply bN_ | apply bD_) | exact HB.out)) hb); clear HB; have HB := n0_; clear n0_; (try clear hb); (try clear hb2); (try clear hk); (try clear hi)))
    go_meet
    case rel => exact ⟨_, (!t101), (by first | rfl | (simp; done) | (simp [*]; done)), H', ⟨by first | omega | exact Nat.le_refl _⟩, ⟨by repeat (first | (with_reducible first | exact HB.out | apply bA_ | apply bN_ | apply bD_) | exact HB.out)⟩⟩
 case rest =>
  clear HC2
  try clear c3
  try clear c3b0
  try clear c3b1
  try clear c4
  try clear c4b0
  try clear c4b1
  obtain ⟨kq, x17_1, rfl, HA, HJ1, HB⟩ := hcut
  cases kq with
  | zero => exact absurd HA.out (by simp [impl_ArePoints.j0])
  | succ kj1 =>
   have H := HA.out
   clear HA
   simp only [impl_ArePoints.j0] at H
   by_cases c7 : x17_1 = true
   ·subst c7
    have H1 : (some false) = some r := by rw [if_pos rfl] at H; exact H
    clear H
    have H := H1
    clear H1
    obtain rfl := Option.some.inj H
    go_wp2
    go_ret
    exact ⟨by first | rfl | (simp [errW_none, errW_some] <;> rfl) | (simp [*, errW_none, errW_some] <;> rfl), by repeat (first | (with_reducible first | exact HB.out | apply bA_ | apply bN_ | apply bD_) | exact HB.out)⟩
   ·replace c7 := Bool.eq_false_iff.mpr c7
    subst c7
    have H1 : ((impl_triplesOf.f kj1 (l0.length : Int)).bind fun t102 => (impl_ArePoints.l0 kj1 l0 t102 (t102.length : Int) 0)) = some r := by rw [if_neg (show ¬ (false = true) by decide)] at H; exact H
    clear H
    have H := H1
    clear H1
    replace H := oB_ H
    obtain ⟨t102, A80, H⟩ := H
    replace H : (impl_ArePoints.l0 kj1 l0 t102 (t102.length : Int) 0) = some r := H
    have A8 := aM_ A80
    clear A80
    have H' := aM_ H
    clear H
    go_wp2_with (first | ((with_reducible refine gate_callee (f := 62) rfl ?_); refine goesL_ (some 20) rfl rfl Try.func62 (by kernel_rfl) rfl #[.int .i64 (l0.length : Int)] rfl (by (try simp only [List.map_toArray, List.map_cons, List.map_nil]); first | done | rfl | (simp only [List.length_drop, List.length_take]; rfl)) ?_; (with_reducible refine (impl_triplesOf.calls kj1 (l0.length : Int) t102 _ A8.out).mono ?_); rintro e w9 ⟨v103, rfl, ho0, hb⟩; refine ⟨_, rfl, ?_⟩; have n0_ := aM_ (Kd.R_lower ho0 (below_size (by repeat (first | (with_reducible first | exact HB.out | apply bA_ | apply bN_ | apply bD_) | exact HB.out)))); have n1_ := aM_ (below_step (by repeat (first | (with_reducible first | exact HB.out | apply bA_ | apply bN_ | apply bD_) | exact HB.out)) hb); clear HB; have HO104 := n0_; have HB := n1_; clear n0_ n1_; (try clear hb); (try clear hb2); (try clear hk); (try clear hi); (try clear ho0); obtain ⟨Ao10, co10, eo10⟩ := Kd.R_slice HO104.out; subst eo10))
    go_loopg [22] kj1 (fun kq v22 w' => ∃ (x22_2 : Int), v22 = .int .i64 x22_2 ∧ Aside0 (impl_ArePoints.l0 kq l0 t102 (t102.length : Int) x22_2 = some r) ∧ Aside0 (kq ≤ kj1) ∧ Aside0 (Kd.R k65 65 w' w.heap.size (fun _ => True) (.slice Ao10 t102.length co10) t102) ∧ Aside0 (Below w.heap.size w w'))
    case atStart => exact ⟨(0), (by first | rfl | (simp; done) | (simp [*]; done)), H', ⟨Nat.le_refl _⟩, ⟨by (with_reducible repeat (first | apply kA_ | apply kN_ | apply kD_)); exact HO104.out⟩, ⟨by repeat (first | (with_reducible first | exact HB.out | apply bA_ | apply bN_ | apply bD_) | exact HB.out)⟩⟩
    case round =>
     clear H'
     try clear c3
     try clear c3b0
     try clear c3b1
     try clear c4
     try clear c4b0
     try clear c4b1
     try clear c7
     obtain ⟨x22_2, rfl, HA, HK2, HO_20, HB⟩ := hrel
     cases gk with
     | zero => exact absurd HA.out (by simp [impl_ArePoints.l0])
     | succ k2 =>
      have H := HA.out
      clear HA
      simp only [impl_ArePoints.l0] at H
      by_cases c11 : x22_2 < (t102.length : Int)
      ·rw [if_pos c11] at H
       have c11b0 : decide (x22_2 < (t102.length : Int)) = true := decide_eq_true c11
       clear c11
       by_cases c12 : 0 ≤ x22_2
       ·rw [if_pos c12] at H
        have c12b0 : decide (0 ≤ x22_2) = true := decide_eq_true c12
        clear c12
        by_cases c13 : x22_2 < (t102.length : Int)
        ·rw [if_pos c13] at H
         have c13b0 : decide (x22_2 < (t102.length : Int)) = true := decide_eq_true c13
         clear c13
         by_cases c14 : 0 ≤ ((rd_T65 t102 x22_2).f0)
         ·rw [if_pos c14] at H
          have c14b0 : decide (0 ≤ ((rd_T65 t102 x22_2).f0)) = true := decide_eq_true c14
          clear c14
          by_cases c15 : ((rd_T65 t102 x22_2).f0) < (l0.length : Int)
          ·rw [if_pos c15] at H
           have c15b0 : decide (((rd_T65 t102 x22_2).f0) < (l0.length : Int)) = true := decide_eq_true c15
           clear c15
           by_cases c16 : 0 ≤ ((rd_T65 t102 x22_2).f1)
           ·rw [if_pos c16] at H
            have c16b0 : decide (0 ≤ ((rd_T65 t102 x22_2).f1)) = true := decide_eq_true c16
            clear c16
            by_cases c17 : ((rd_T65 t102 x22_2).f1) < (l0.length : Int)
            ·rw [if_pos c17] at H
             have c17b0 : decide (((rd_T65 t102 x22_2).f1) < (l0.length : Int)) = true := decide_eq_true c17
             clear c17
             by_cases c18 : 0 ≤ ((rd_T65 t102 x22_2).f2)
             ·rw [if_pos c18] at H
              have c18b0 : decide (0 ≤ ((rd_T65 t102 x22_2).f2)) = true := decide_eq_true c18
              clear c18
              by_cases c19 : ((rd_T65 t102 x22_2).f2) < (l0.length : Int)
              ·rw [if_pos c19] at H
               have c19b0 : decide (((rd_T65 t102 x22_2).f2) < (l0.length : Int)) = true := decide_eq_true c19
               clear c19
               replace H := oB_ H
               obtain ⟨t110, A200, H⟩ := H
               replace H : (if t110 = 0 then (some false) else (impl_ArePoints.l0 k2 l0 t102 (t102.length : Int) (wrap64 (x22_2 + 1)))) = some r := H
               have A20 := aM_ A200
               clear A200
               by_cases c21 : t110 = 0
               ·rw [if_pos c21] at H
                have c21b0 : (t110 == 0) = true := beq_iff_eq.mpr c21
                have c21b1 : (t110 != 0) = false := bne_eq_false_iff_eq.mpr c21
                clear c21
                obtain rfl := Option.some.inj H
                have p105 : 0 ≤ (x22_2 : Int) := of_decide_eq_true (by first | (with_reducible assumption) | assumption)
                have q105 : x22_2 < (t102.length : Int) := of_decide_eq_true (by first | (with_reducible assumption) | assumption)
                obtain ⟨ad105, e105, hx105_0, hx105_1, hx105_2⟩ := at_T65 (Kd.R_reads' HO_20.out).2.2 x22_2 p105 q105
                cases e105
                replace p105 := eq_true p105
                replace q105 := eq_true q105
                try go_wp2_with (first | ((with_reducible refine gate_dst (N := 4) rfl ?_); (try (refine gate_guard (by rfl) ?_; dsimp only)); refine box_event ?hg (N := 4) ?hd (cs := #[.int .i64 0, .int .i64 0, .int .i64 0]) (t := 65) ?hr ?_; (case hd => rfl); (case hg => rfl); (case hr => first | (go_simp; done) | (go_simp; rfl)); intro gb106 hg w22 hbox hb; have n0_ := aM_ (Kd.R_below (Kd.R_elderB (by (with_reducible repeat (first | apply kA_ | apply kN_ | apply kD_)); exact HO_20.out) gb106 (Nat.le_of_eq hg.symm)) hb); have n1_ := aM_ (below_step (by repeat (first | (with_reducible first | exact HB.out | apply bA_ | apply bN_ | apply bD_) | exact HB.out)) hb); have n2_ := aM_ (hbox); have n3_ := aM_ ((by rw [hg]; exact (below_size (by repeat (first | (with_reducible first | exact HB.out | apply bA_ | apply bN_ | apply bD_) | exact HB.out))) : w.heap.size ≤ gb106)); have n4_ := aM_ ((by rw [hg]; exact (below_size (by repeat (first | (with_reducible first | exact HB.out | apply bA_ | apply bN_ | apply bD_) | exact HB.out))) : w.heap.size ≤ gb106)); clear HO_20; clear HB; have HO_20 := n0_; have HB := n1_; have BK106 := n2_; have GW106 := n3_; have GE106 := n4_; clear n0_ n1_ n2_ n3_ n4_; clear hb hbox hg; have hcz23_0 : w22.cell? ⟨gb106, 0, none⟩ = some (.int .i64 0) := (blk_cell BK106.out 0).trans rfl; have hcz23_1 : w22.cell? ⟨gb106, 1, none⟩ = some (.int .i64 0) := (blk_cell BK106.out 1).trans rfl; have hcz23_2 : w22.cell? ⟨gb106, 2, none⟩ = some (.int .i64 0) := (blk_cell BK106.out 2).trans rfl; have hfz23_0 := blk_frozen BK106.out 0; have hfz23_1 := blk_frozen BK106.out 1; have hfz23_2 := blk_frozen BK106.out 2))
                have n0_ : Aside0 (Kd.R k65 65 (((w22.setCell ⟨gb106, 0, none⟩ (.int .i64 ((rd_T65 t102 x22_2).f0))).setCell ⟨gb106, 1, none⟩ (.int .i64 ((rd_T65 t102 x22_2).f1))).setCell ⟨gb106, 2, none⟩ (.int .i64 ((rd_T65 t102 x22_2).f2))) w.heap.size (fun k_ => k_ ≠ gb106) (.slice (some ad105) t102.length co10) t102) := ⟨by (with_reducible repeat (first | apply kA_ | apply kN_ | apply kD_)); exact Kd.R_mono (Kd.R_far (p := ⟨gb106, 2, none⟩) (Kd.R_far (p := ⟨gb106, 1, none⟩) (Kd.R_far (p := ⟨gb106, 0, none⟩) (Kd.R_mono HO_20.out (fun k_ hk => (⟨hk, hk.2⟩ : _ ∧ k_ ≠ gb106))) (fun _ hk => hk.2) (.int .i64 ((rd_T65 t102 x22_2).f0))) (fun _ hk => hk.2) (.int .i64 ((rd_T65 t102 x22_2).f1))) (fun _ hk => hk.2) (.int .i64 ((rd_T65 t102 x22_2).f2))) (fun _ hk => hk.1.2)⟩
                have n1_ : Aside0 ((((w22.setCell ⟨gb106, 0, none⟩ (.int .i64 ((rd_T65 t102 x22_2).f0))).setCell ⟨gb106, 1, none⟩ (.int .i64 ((rd_T65 t102 x22_2).f1))).setCell ⟨gb106, 2, none⟩ (.int .i64 ((rd_T65 t102 x22_2).f2))).heap[gb106]? = some (.cells #[.int .i64 ((rd_T65 t102 x22_2).f0), .int .i64 ((rd_T65 t102 x22_2).f1), .int .i64 ((rd_T65 t102 x22_2).f2)] 65 (0, 0))) := ⟨by (with_reducible repeat (first | refine blk_drewN ?_ _ | refine blk_drew ?_ | refine blk_alloc ?_ _)); refine blk_put (cs := #[.int .i64 ((rd_T65 t102 x22_2).f0), .int .i64 ((rd_T65 t102 x22_2).f1), .int .i64 0]) ?_ 2 _ rfl; (with_reducible repeat (first | refine blk_drewN ?_ _ | refine blk_drew ?_ | refine blk_alloc ?_ _)); refine blk_put (cs := #[.int .i64 ((rd_T65 t102 x22_2).f0), .int .i64 0, .int .i64 0]) ?_ 1 _ rfl; (with_reducible repeat (first | refine blk_drewN ?_ _ | refine blk_drew ?_ | refine blk_alloc ?_ _)); refine blk_put (cs := #[.int .i64 0, .int .i64 0, .int .i64 0]) ?_ 0 _ rfl; (with_reducible repeat (first | refine blk_drewN ?_ _ | refine blk_drew ?_ | refine blk_alloc ?_ _)); exact BK106.out⟩
                have n2_ : Aside0 (Below w.heap.size w (((w22.setCell ⟨gb106, 0, none⟩ (.int .i64 ((rd_T65 t102 x22_2).f0))).setCell ⟨gb106, 1, none⟩ (.int .i64 ((rd_T65 t102 x22_2).f1))).setCell ⟨gb106, 2, none⟩ (.int .i64 ((rd_T65 t102 x22_2).f2)))) := ⟨by repeat (first | (with_reducible first | exact HB.out | apply bA_ | apply bN_ | apply bD_ | refine below_set ?_ GE106.out) | exact HB.out)⟩
                (try clear HO_20)
                (try clear BK106)
                (try clear HB)
                generalize (((w22.setCell ⟨gb106, 0, none⟩ (.int .i64 ((rd_T65 t102 x22_2).f0))).setCell ⟨gb106, 1, none⟩ (.int .i64 ((rd_T65 t102 x22_2).f1))).setCell ⟨gb106, 2, none⟩ (.int .i64 ((rd_T65 t102 x22_2).f2))) = w24 at n0_ n1_ n2_ ⊢
                have HO_20 := n0_
                have BK106 := n1_
                have HB := n2_
                clear n0_ n1_ n2_
                have n0_ := aM_ (kD_ HO_20.out)
                have n1_ := aM_ (blk_drew BK106.out)
                have n2_ := aM_ (bD_ HB.out)
                clear HO_20
                clear BK106
                clear HB
                have HO_20 := n0_
                have BK106 := n1_
                have HB := n2_
                clear n0_ n1_ n2_
                have p107 : 0 ≤ (((rd_T65 t102 x22_2).f0) : Int) := of_decide_eq_true (by first | (with_reducible assumption) | assumption)
                have q107 : ((rd_T65 t102 x22_2).f0) < (l0.length : Int) := of_decide_eq_true (by first | (with_reducible assumption) | assumption)
                obtain ⟨ad107, e107, hx107_0, hx107_1⟩ := at_T25 HR0.out ((rd_T65 t102 x22_2).f0) p107 q107
                have hw107_1 := hx107_1
                have hw107_0 := hx107_0
                cases e107
                replace hx107_0 := (HB.out.cell (World.block_lt_of_cell? w _ hx107_0)).trans hx107_0
                replace hx107_1 := (HB.out.cell (World.block_lt_of_cell? w _ hx107_1)).trans hx107_1
                replace p107 := eq_true p107
                replace q107 := eq_true q107
                have p108 : 0 ≤ (((rd_T65 t102 x22_2).f1) : Int) := of_decide_eq_true (by first | (with_reducible assumption) | assumption)
                have q108 : ((rd_T65 t102 x22_2).f1) < (l0.length : Int) := of_decide_eq_true (by first | (with_reducible assumption) | assumption)
                obtain ⟨ad108, e108, hx108_0, hx108_1⟩ := at_T25 HR0.out ((rd_T65 t102 x22_2).f1) p108 q108
                have hw108_1 := hx108_1
                have hw108_0 := hx108_0
                obtain rfl : ad107 = ad108 := (by injection e108)
                replace hx108_0 := (HB.out.cell (World.block_lt_of_cell? w _ hx108_0)).trans hx108_0
                replace hx108_1 := (HB.out.cell (World.block_lt_of_cell? w _ hx108_1)).trans hx108_1
                replace p108 := eq_true p108
                replace q108 := eq_true q108
                have p109 : 0 ≤ (((rd_T65 t102 x22_2).f2) : Int) := of_decide_eq_true (by first | (with_reducible assumption) | assumption)
                have q109 : ((rd_T65 t102 x22_2).f2) < (l0.length : Int) := of_decide_eq_true (by first | (with_reducible assumption) | assumption)
                obtain ⟨ad109, e109, hx109_0, hx109_1⟩ := at_T25 HR0.out ((rd_T65 t102 x22_2).f2) p109 q109
                have hw109_1 := hx109_1
                have hw109_0 := hx109_0
                obtain rfl : ad107 = ad109 := (by injection e109)
                replace hx109_0 := (HB.out.cell (World.block_lt_of_cell? w _ hx109_0)).trans hx109_0
                replace hx109_1 := (HB.out.cell (World.block_lt_of_cell? w _ hx109_1)).trans hx109_1
                replace p109 := eq_true p109
                replace q109 := eq_true q109
                refine start_ (n := 17) (S := fun w' => w'.cell? ⟨gb106, 0, none⟩ = some (.int .i64 ((rd_T65 t102 x22_2).f0)) ∧ w'.cell? ⟨gb106, 1, none⟩ = some (.int .i64 ((rd_T65 t102 x22_2).f1)) ∧ w'.cell? ⟨gb106, 2, none⟩ = some (.int .i64 ((rd_T65 t102 x22_2).f2)) ∧ w'.cell? (ad107.add ((((rd_T65 t102 x22_2).f0)).toNat * 2)) = some (.int .i64 ((rd_T25 l0 ((rd_T65 t102 x22_2).f0)).f0)) ∧ w'.cell? ⟨(ad107.add ((((rd_T65 t102 x22_2).f0)).toNat * 2)).block, (ad107.add ((((rd_T65 t102 x22_2).f0)).toNat * 2)).off + 1, none⟩ = some (.int .i64 ((rd_T25 l0 ((rd_T65 t102 x22_2).f0)).f1)) ∧ w'.cell? (ad107.add ((((rd_T65 t102 x22_2).f1)).toNat * 2)) = some (.int .i64 ((rd_T25 l0 ((rd_T65 t102 x22_2).f1)).f0)) ∧ w'.cell? ⟨(ad107.add ((((rd_T65 t102 x22_2).f1)).toNat * 2)).block, (ad107.add ((((rd_T65 t102 x22_2).f1)).toNat * 2)).off + 1, none⟩ = some (.int .i64 ((rd_T25 l0 ((rd_T65 t102 x22_2).f1)).f1)) ∧ w'.cell? (ad107.add ((((rd_T65 t102 x22_2).f2)).toNat * 2)) = some (.int .i64 ((rd_T25 l0 ((rd_T65 t102 x22_2).f2)).f0)) ∧ w'.cell? ⟨(ad107.add ((((rd_T65 t102 x22_2).f2)).toNat * 2)).block, (ad107.add ((((rd_T65 t102 x22_2).f2)).toNat * 2)).off + 1, none⟩ = some (.int .i64 ((rd_T25 l0 ((rd_T65 t102 x22_2).f2)).f1))) (ds := []) (bm 17 0) (by kernel_rfl) rfl rfl ⟨(blk_cell BK106.out 0).trans rfl, (blk_cell BK106.out 1).trans rfl, (blk_cell BK106.out 2).trans rfl, ((HB.out.cell (World.block_lt_of_cell? w _ hw107_0)).trans hw107_0), ((HB.out.cell (World.block_lt_of_cell? w _ hw107_1)).trans hw107_1), ((HB.out.cell (World.block_lt_of_cell? w _ hw108_0)).trans hw108_0), ((HB.out.cell (World.block_lt_of_cell? w _ hw108_1)).trans hw108_1), ((HB.out.cell (World.block_lt_of_cell? w _ hw109_0)).trans hw109_0), ((HB.out.cell (World.block_lt_of_cell? w _ hw109_1)).trans hw109_1)⟩ (fun hHeld => ?_); refine with_tabW impl_ArePoints.tab6 impl_ArePoints.bits6 (fun HT_ HW_ => ?_)
                generalize w24.drew = w25 at HO_20 BK106 HB hx107_0 hx107_1 hx108_0 hx108_1 hx109_0 hx109_1 hHeld ⊢
                refine plan_ ((0, 0, 26, 1) :: (0, 1, 27, 3) :: (0, 5, 31, 35) :: (0, 6, 32, 99) :: (0, 10, 36, 1123) :: (0, 11, 37, 3171) :: (2, 2, 28, 3175) :: (0, 3, 29, 3183) :: (2, 4, 30, 3199) :: (2, 7, 33, 3327) :: (0, 8, 34, 3583) :: (2, 9, 35, 4095) :: (2, 12, 38, 8191) :: (0, 13, 39, 16383) :: (2, 14, 40, 32767) :: []) ?_
                iterate 15 (first | (refine planV_ ?_ ?_ rfl rfl (any_of HT_.out (by kernel_rfl)) (fun _ _ _ h => h) (Or.inl ⟨by rfl, ?_⟩) ?_ ?_; rotate_left 2; (· intro w'; go_simp; with_reducible rfl); (· simp only [Act.put, List.setIfInBounds_toArray, List.set_cons_zero, List.set_cons_succ, i64_w, i32_w]; rfl)) | (refine planT_ ?_ ?_ rfl rfl (take_ofW HT_.out HW_.out (by kernel_rfl)) (fun _ _ _ h => h) (Or.inl ⟨by rfl, ?_⟩) hHeld ?_ ?_; rotate_left 2; (· rintro w' ⟨s0, s1, s2, s3, s4, s5, s6, s7, s8⟩; go_simp; with_reducible rfl); (· simp only [Act.put, List.setIfInBounds_toArray, List.set_cons_zero, List.set_cons_succ, i64_w, i32_w]; rfl)))
                refine planEnd_ ?_
                refine one_ (i := 15) (N := some 41) (bm 17 65535) rfl rfl (one_of HT_.out (by kernel_rfl)) (by decide) (fun K hK => ?_)
                refine goes_ Try.func105 (by kernel_rfl) rfl #[.agg #[.int .i64 ((rd_T25 l0 ((rd_T65 t102 x22_2).f0)).f0), .int .i64 ((rd_T25 l0 ((rd_T65 t102 x22_2).f0)).f1)], .agg #[.int .i64 ((rd_T25 l0 ((rd_T65 t102 x22_2).f1)).f0), .int .i64 ((rd_T25 l0 ((rd_T65 t102 x22_2).f1)).f1)], .agg #[.int .i64 ((rd_T25 l0 ((rd_T65 t102 x22_2).f2)).f0), .int .i64 ((rd_T25 l0 ((rd_T65 t102 x22_2).f2)).f1)]] (by rfl) rfl rfl (by (try simp only [List.map_toArray, List.map_cons, List.map_nil]); first | done | rfl | (simp only [List.length_drop, List.length_take]; rfl)) ?_
                with_reducible refine (impl_TurnOf.calls ((rd_T25 l0 ((rd_T65 t102 x22_2).f0)).f0) ((rd_T25 l0 ((rd_T65 t102 x22_2).f0)).f1) ((rd_T25 l0 ((rd_T65 t102 x22_2).f1)).f0) ((rd_T25 l0 ((rd_T65 t102 x22_2).f1)).f1) ((rd_T25 l0 ((rd_T65 t102 x22_2).f2)).f0) ((rd_T25 l0 ((rd_T65 t102 x22_2).f2)).f1) t110 _ A20.out).mono ?_
                rintro e w26 ⟨rfl, hb⟩
                refine ⟨_, rfl, ?_⟩
                have n0_ := aM_ (Kd.R_below (by (with_reducible repeat (first | apply kA_ | apply kN_ | apply kD_)); exact HO_20.out) hb)
                have n1_ := aM_ (blk_below (g := gb106) (o := .cells #[.int .i64 ((rd_T65 t102 x22_2).f0), .int .i64 ((rd_T65 t102 x22_2).f1), .int .i64 ((rd_T65 t102 x22_2).f2)] 65 (0, 0)) (by (with_reducible repeat (first | refine blk_drewN ?_ _ | refine blk_drew ?_ | refine blk_alloc ?_ _)); exact BK106.out) hb)
                have n2_ := aM_ (below_step (by repeat (first | (with_reducible first | exact HB.out | apply bA_ | apply bN_ | apply bD_ | refine below_set ?_ GE106.out) | exact HB.out)) hb)
                clear HO_20
                clear BK106
                clear HB
                have HO_20 := n0_
                have BK106 := n1_
                have HB := n2_
                clear n0_ n1_ n2_
                (try clear hb)
                (try clear hb2)
                (try clear hk)
                (try clear hi)
                refine hK.out _ _ ⟨(blk_cell BK106.out 0).trans rfl, (blk_cell BK106.out 1).trans rfl, (blk_cell BK106.out 2).trans rfl, ((HB.out.cell (World.block_lt_of_cell? w _ hw107_0)).trans hw107_0), ((HB.out.cell (World.block_lt_of_cell? w _ hw107_1)).trans hw107_1), ((HB.out.cell (World.block_lt_of_cell? w _ hw108_0)).trans hw108_0), ((HB.out.cell (World.block_lt_of_cell? w _ hw108_1)).trans hw108_1), ((HB.out.cell (World.block_lt_of_cell? w _ hw109_0)).trans hw109_0), ((HB.out.cell (World.block_lt_of_cell? w _ hw109_1)).trans hw109_1)⟩ (fun hHeld => ?_)
                clear hK K
                refine norm_ (a' := ?_) ?_ ?_
                rotate_left
                ·show Act.put _ (some 41) _ = _
                 simp only [Act.put, List.setIfInBounds_toArray, List.set_cons_zero, List.set_cons_succ, i64_w, i32_w]
                 rfl
                refine plan_ ((0, 16, 42, 131071) :: []) ?_
                iterate 1 (first | (refine planV_ ?_ ?_ rfl rfl (any_of HT_.out (by kernel_rfl)) (fun _ _ _ h => h) (Or.inl ⟨by rfl, ?_⟩) ?_ ?_; rotate_left 2; (· intro w'; go_simp; with_reducible rfl); (· simp only [Act.put, List.setIfInBounds_toArray, List.set_cons_zero, List.set_cons_succ, i64_w, i32_w]; rfl)))
                refine planEnd_ ?_
                refine done_ (done_of HT_.out (by kernel_rfl)) ?_
                try go_wp2
                go_ret
                exact ⟨by first | rfl | (simp [errW_none, errW_some] <;> rfl) | (simp [*, errW_none, errW_some] <;> rfl), by repeat (first | (with_reducible first | exact HB.out | apply bA_ | apply bN_ | apply bD_ | refine below_set ?_ GE106.out) | exact HB.out)⟩
               ·rw [if_neg c21] at H
                have c21b0 : (t110 == 0) = false := beq_eq_false_iff_ne.mpr c21
                have c21b1 : (t110 != 0) = true := bne_iff_ne.mpr c21
                have H' := aM_ H
                clear H
                have p105 : 0 ≤ (x22_2 : Int) := of_decide_eq_true (by first | (with_reducible assumption) | assumption)
                have q105 : x22_2 < (t102.length : Int) := of_decide_eq_true (by first | (with_reducible assumption) | assumption)
                obtain ⟨ad105, e105, hx105_0, hx105_1, hx105_2⟩ := at_T65 (Kd.R_reads' HO_20.out).2.2 x22_2 p105 q105
                cases e105
                replace p105 := eq_true p105
                replace q105 := eq_true q105
                try go_wp2_with (first | ((with_reducible refine gate_dst (N := 4) rfl ?_); (try (refine gate_guard (by rfl) ?_; dsimp only)); refine box_event ?hg (N := 4) ?hd (cs := #[.int .i64 0, .int .i64 0, .int .i64 0]) (t := 65) ?hr ?_; (case hd => rfl); (case hg => rfl); (case hr => first | (go_simp; done) | (go_simp; rfl)); intro gb106 hg w27 hbox hb; have n0_ := aM_ (Kd.R_below (Kd.R_elderB (by (with_reducible repeat (first | apply kA_ | apply kN_ | apply kD_)); exact HO_20.out) gb106 (Nat.le_of_eq hg.symm)) hb); have n1_ := aM_ (below_step (by repeat (first | (with_reducible first | exact HB.out | apply bA_ | apply bN_ | apply bD_) | exact HB.out)) hb); have n2_ := aM_ (hbox); have n3_ := aM_ ((by rw [hg]; exact (below_size (by repeat (first | (with_reducible first | exact HB.out | apply bA_ | apply bN_ | apply bD_) | exact HB.out))) : w.heap.size ≤ gb106)); have n4_ := aM_ ((by rw [hg]; exact (below_size (by repeat (first | (with_reducible first | exact HB.out | apply bA_ | apply bN_ | apply bD_) | exact HB.out))) : w.heap.size ≤ gb106)); clear HO_20; clear HB; have HO_20 := n0_; have HB := n1_; have BK106 := n2_; have GW106 := n3_; have GE106 := n4_; clear n0_ n1_ n2_ n3_ n4_; clear hb hbox hg; have hcz28_0 : w27.cell? ⟨gb106, 0, none⟩ = some (.int .i64 0) := (blk_cell BK106.out 0).trans rfl; have hcz28_1 : w27.cell? ⟨gb106, 1, none⟩ = some (.int .i64 0) := (blk_cell BK106.out 1).trans rfl; have hcz28_2 : w27.cell? ⟨gb106, 2, none⟩ = some (.int .i64 0) := (blk_cell BK106.out 2).trans rfl; have hfz28_0 := blk_frozen BK106.out 0; have hfz28_1 := blk_frozen BK106.out 1; have hfz28_2 := blk_frozen BK106.out 2))
                have n0_ : Aside0 (Kd.R k65 65 (((w27.setCell ⟨gb106, 0, none⟩ (.int .i64 ((rd_T65 t102 x22_2).f0))).setCell ⟨gb106, 1, none⟩ (.int .i64 ((rd_T65 t102 x22_2).f1))).setCell ⟨gb106, 2, none⟩ (.int .i64 ((rd_T65 t102 x22_2).f2))) w.heap.size (fun k_ => k_ ≠ gb106) (.slice (some ad105) t102.length co10) t102) := ⟨by (with_reducible repeat (first | apply kA_ | apply kN_ | apply kD_)); exact Kd.R_mono (Kd.R_far (p := ⟨gb106, 2, none⟩) (Kd.R_far (p := ⟨gb106, 1, none⟩) (Kd.R_far (p := ⟨gb106, 0, none⟩) (Kd.R_mono HO_20.out (fun k_ hk => (⟨hk, hk.2⟩ : _ ∧ k_ ≠ gb106))) (fun _ hk => hk.2) (.int .i64 ((rd_T65 t102 x22_2).f0))) (fun _ hk => hk.2) (.int .i64 ((rd_T65 t102 x22_2).f1))) (fun _ hk => hk.2) (.int .i64 ((rd_T65 t102 x22_2).f2))) (fun _ hk => hk.1.2)⟩
                have n1_ : Aside0 ((((w27.setCell ⟨gb106, 0, none⟩ (.int .i64 ((rd_T65 t102 x22_2).f0))).setCell ⟨gb106, 1, none⟩ (.int .i64 ((rd_T65 t102 x22_2).f1))).setCell ⟨gb106, 2, none⟩ (.int .i64 ((rd_T65 t102 x22_2).f2))).heap[gb106]? = some (.cells #[.int .i64 ((rd_T65 t102 x22_2).f0), .int .i64 ((rd_T65 t102 x22_2).f1), .int .i64 ((rd_T65 t102 x22_2).f2)] 65 (0, 0))) := ⟨by (with_reducible repeat (first | refine blk_drewN ?_ _ | refine blk_drew ?_ | refine blk_alloc ?_ _)); refine blk_put (cs := #[.int .i64 ((rd_T65 t102 x22_2).f0), .int .i64 ((rd_T65 t102 x22_2).f1), .int .i64 0]) ?_ 2 _ rfl; (with_reducible repeat (first | refine blk_drewN ?_ _ | refine blk_drew ?_ | refine blk_alloc ?_ _)); refine blk_put (cs := #[.int .i64 ((rd_T65 t102 x22_2).f0), .int .i64 0, .int .i64 0]) ?_ 1 _ rfl; (with_reducible repeat (first | refine blk_drewN ?_ _ | refine blk_drew ?_ | refine blk_alloc ?_ _)); refine blk_put (cs := #[.int .i64 0, .int .i64 0, .int .i64 0]) ?_ 0 _ rfl; (with_reducible repeat (first | refine blk_drewN ?_ _ | refine blk_drew ?_ | refine blk_alloc ?_ _)); exact BK106.out⟩
                have n2_ : Aside0 (Below w.heap.size w (((w27.setCell ⟨gb106, 0, none⟩ (.int .i64 ((rd_T65 t102 x22_2).f0))).setCell ⟨gb106, 1, none⟩ (.int .i64 ((rd_T65 t102 x22_2).f1))).setCell ⟨gb106, 2, none⟩ (.int .i64 ((rd_T65 t102 x22_2).f2)))) := ⟨by repeat (first | (with_reducible first | exact HB.out | apply bA_ | apply bN_ | apply bD_ | refine below_set ?_ GE106.out) | exact HB.out)⟩
                (try clear HO_20)
                (try clear BK106)
                (try clear HB)
                generalize (((w27.setCell ⟨gb106, 0, none⟩ (.int .i64 ((rd_T65 t102 x22_2).f0))).setCell ⟨gb106, 1, none⟩ (.int .i64 ((rd_T65 t102 x22_2).f1))).setCell ⟨gb106, 2, none⟩ (.int .i64 ((rd_T65 t102 x22_2).f2))) = w29 at n0_ n1_ n2_ ⊢
                have HO_20 := n0_
                have BK106 := n1_
                have HB := n2_
                clear n0_ n1_ n2_
                have n0_ := aM_ (kD_ HO_20.out)
                have n1_ := aM_ (blk_drew BK106.out)
                have n2_ := aM_ (bD_ HB.out)
                clear HO_20
                clear BK106
                clear HB
                have HO_20 := n0_
                have BK106 := n1_
                have HB := n2_
                clear n0_ n1_ n2_
                have p107 : 0 ≤ (((rd_T65 t102 x22_2).f0) : Int) := of_decide_eq_true (by first | (with_reducible assumption) | assumption)
                have q107 : ((rd_T65 t102 x22_2).f0) < (l0.length : Int) := of_decide_eq_true (by first | (with_reducible assumption) | assumption)
                obtain ⟨ad107, e107, hx107_0, hx107_1⟩ := at_T25 HR0.out ((rd_T65 t102 x22_2).f0) p107 q107
                have hw107_1 := hx107_1
                have hw107_0 := hx107_0
                cases e107
                replace hx107_0 := (HB.out.cell (World.block_lt_of_cell? w _ hx107_0)).trans hx107_0
                replace hx107_1 := (HB.out.cell (World.block_lt_of_cell? w _ hx107_1)).trans hx107_1
                replace p107 := eq_true p107
                replace q107 := eq_true q107
                have p108 : 0 ≤ (((rd_T65 t102 x22_2).f1) : Int) := of_decide_eq_true (by first | (with_reducible assumption) | assumption)
                have q108 : ((rd_T65 t102 x22_2).f1) < (l0.length : Int) := of_decide_eq_true (by first | (with_reducible assumption) | assumption)
                obtain ⟨ad108, e108, hx108_0, hx108_1⟩ := at_T25 HR0.out ((rd_T65 t102 x22_2).f1) p108 q108
                have hw108_1 := hx108_1
                have hw108_0 := hx108_0
                obtain rfl : ad107 = ad108 := (by injection e108)
                replace hx108_0 := (HB.out.cell (World.block_lt_of_cell? w _ hx108_0)).trans hx108_0
                replace hx108_1 := (HB.out.cell (World.block_lt_of_cell? w _ hx108_1)).trans hx108_1
                replace p108 := eq_true p108
                replace q108 := eq_true q108
                have p109 : 0 ≤ (((rd_T65 t102 x22_2).f2) : Int) := of_decide_eq_true (by first | (with_reducible assumption) | assumption)
                have q109 : ((rd_T65 t102 x22_2).f2) < (l0.length : Int) := of_decide_eq_true (by first | (with_reducible assumption) | assumption)
                obtain ⟨ad109, e109, hx109_0, hx109_1⟩ := at_T25 HR0.out ((rd_T65 t102 x22_2).f2) p109 q109
                have hw109_1 := hx109_1
                have hw109_0 := hx109_0
                obtain rfl : ad107 = ad109 := (by injection e109)
                replace hx109_0 := (HB.out.cell (World.block_lt_of_cell? w _ hx109_0)).trans hx109_0
                replace hx109_1 := (HB.out.cell (World.block_lt_of_cell? w _ hx109_1)).trans hx109_1
                replace p109 := eq_true p109
                replace q109 := eq_true q109
                refine start_ (n := 17) (S := fun w' => w'.cell? ⟨gb106, 0, none⟩ = some (.int .i64 ((rd_T65 t102 x22_2).f0)) ∧ w'.cell? ⟨gb106, 1, none⟩ = some (.int .i64 ((rd_T65 t102 x22_2).f1)) ∧ w'.cell? ⟨gb106, 2, none⟩ = some (.int .i64 ((rd_T65 t102 x22_2).f2)) ∧ w'.cell? (ad107.add ((((rd_T65 t102 x22_2).f0)).toNat * 2)) = some (.int .i64 ((rd_T25 l0 ((rd_T65 t102 x22_2).f0)).f0)) ∧ w'.cell? ⟨(ad107.add ((((rd_T65 t102 x22_2).f0)).toNat * 2)).block, (ad107.add ((((rd_T65 t102 x22_2).f0)).toNat * 2)).off + 1, none⟩ = some (.int .i64 ((rd_T25 l0 ((rd_T65 t102 x22_2).f0)).f1)) ∧ w'.cell? (ad107.add ((((rd_T65 t102 x22_2).f1)).toNat * 2)) = some (.int .i64 ((rd_T25 l0 ((rd_T65 t102 x22_2).f1)).f0)) ∧ w'.cell? ⟨(ad107.add ((((rd_T65 t102 x22_2).f1)).toNat * 2)).block, (ad107.add ((((rd_T65 t102 x22_2).f1)).toNat * 2)).off + 1, none⟩ = some (.int .i64 ((rd_T25 l0 ((rd_T65 t102 x22_2).f1)).f1)) ∧ w'.cell? (ad107.add ((((rd_T65 t102 x22_2).f2)).toNat * 2)) = some (.int .i64 ((rd_T25 l0 ((rd_T65 t102 x22_2).f2)).f0)) ∧ w'.cell? ⟨(ad107.add ((((rd_T65 t102 x22_2).f2)).toNat * 2)).block, (ad107.add ((((rd_T65 t102 x22_2).f2)).toNat * 2)).off + 1, none⟩ = some (.int .i64 ((rd_T25 l0 ((rd_T65 t102 x22_2).f2)).f1))) (ds := []) (bm 17 0) (by kernel_rfl) rfl rfl ⟨(blk_cell BK106.out 0).trans rfl, (blk_cell BK106.out 1).trans rfl, (blk_cell BK106.out 2).trans rfl, ((HB.out.cell (World.block_lt_of_cell? w _ hw107_0)).trans hw107_0), ((HB.out.cell (World.block_lt_of_cell? w _ hw107_1)).trans hw107_1), ((HB.out.cell (World.block_lt_of_cell? w _ hw108_0)).trans hw108_0), ((HB.out.cell (World.block_lt_of_cell? w _ hw108_1)).trans hw108_1), ((HB.out.cell (World.block_lt_of_cell? w _ hw109_0)).trans hw109_0), ((HB.out.cell (World.block_lt_of_cell? w _ hw109_1)).trans hw109_1)⟩ (fun hHeld => ?_); refine with_tabW impl_ArePoints.tab6 impl_ArePoints.bits6 (fun HT_ HW_ => ?_)
                generalize w29.drew = w30 at HO_20 BK106 HB hx107_0 hx107_1 hx108_0 hx108_1 hx109_0 hx109_1 hHeld ⊢
                refine plan_ ((0, 0, 26, 1) :: (0, 1, 27, 3) :: (0, 5, 31, 35) :: (0, 6, 32, 99) :: (0, 10, 36, 1123) :: (0, 11, 37, 3171) :: (2, 2, 28, 3175) :: (0, 3, 29, 3183) :: (2, 4, 30, 3199) :: (2, 7, 33, 3327) :: (0, 8, 34, 3583) :: (2, 9, 35, 4095) :: (2, 12, 38, 8191) :: (0, 13, 39, 16383) :: (2, 14, 40, 32767) :: []) ?_
                iterate 15 (first | (refine planV_ ?_ ?_ rfl rfl (any_of HT_.out (by kernel_rfl)) (fun _ _ _ h => h) (Or.inl ⟨by rfl, ?_⟩) ?_ ?_; rotate_left 2; (· intro w'; go_simp; with_reducible rfl); (· simp only [Act.put, List.setIfInBounds_toArray, List.set_cons_zero, List.set_cons_succ, i64_w, i32_w]; rfl)) | (refine planT_ ?_ ?_ rfl rfl (take_ofW HT_.out HW_.out (by kernel_rfl)) (fun _ _ _ h => h) (Or.inl ⟨by rfl, ?_⟩) hHeld ?_ ?_; rotate_left 2; (· rintro w' ⟨s0, s1, s2, s3, s4, s5, s6, s7, s8⟩; go_simp; with_reducible rfl); (· simp only [Act.put, List.setIfInBounds_toArray, List.set_cons_zero, List.set_cons_succ, i64_w, i32_w]; rfl)))
                refine planEnd_ ?_
                refine one_ (i := 15) (N := some 41) (bm 17 65535) rfl rfl (one_of HT_.out (by kernel_rfl)) (by decide) (fun K hK => ?_)
                refine goes_ Try.func105 (by kernel_rfl) rfl #[.agg #[.int .i64 ((rd_T25 l0 ((rd_T65 t102 x22_2).f0)).f0), .int .i64 ((rd_T25 l0 ((rd_T65 t102 x22_2).f0)).f1)], .agg #[.int .i64 ((rd_T25 l0 ((rd_T65 t102 x22_2).f1)).f0), .int .i64 ((rd_T25 l0 ((rd_T65 t102 x22_2).f1)).f1)], .agg #[.int .i64 ((rd_T25 l0 ((rd_T65 t102 x22_2).f2)).f0), .int .i64 ((rd_T25 l0 ((rd_T65 t102 x22_2).f2)).f1)]] (by rfl) rfl rfl (by (try simp only [List.map_toArray, List.map_cons, List.map_nil]); first | done | rfl | (simp only [List.length_drop, List.length_take]; rfl)) ?_
                with_reducible refine (impl_TurnOf.calls ((rd_T25 l0 ((rd_T65 t102 x22_2).f0)).f0) ((rd_T25 l0 ((rd_T65 t102 x22_2).f0)).f1) ((rd_T25 l0 ((rd_T65 t102 x22_2).f1)).f0) ((rd_T25 l0 ((rd_T65 t102 x22_2).f1)).f1) ((rd_T25 l0 ((rd_T65 t102 x22_2).f2)).f0) ((rd_T25 l0 ((rd_T65 t102 x22_2).f2)).f1) t110 _ A20.out).mono ?_
                rintro e w31 ⟨rfl, hb⟩
                refine ⟨_, rfl, ?_⟩
                have n0_ := aM_ (Kd.R_below (by (with_reducible repeat (first | apply kA_ | apply kN_ | apply kD_)); exact HO_20.out) hb)
                have n1_ := aM_ (blk_below (g := gb106) (o := .cells #[.int .i64 ((rd_T65 t102 x22_2).f0), .int .i64 ((rd_T65 t102 x22_2).f1), .int .i64 ((rd_T65 t102 x22_2).f2)] 65 (0, 0)) (by (with_reducible repeat (first | refine blk_drewN ?_ _ | refine blk_drew ?_ | refine blk_alloc ?_ _)); exact BK106.out) hb)
                have n2_ := aM_ (below_step (by repeat (first | (with_reducible first | exact HB.out | apply bA_ | apply bN_ | apply bD_ | refine below_set ?_ GE106.out) | exact HB.out)) hb)
                clear HO_20
                clear BK106
                clear HB
                have HO_20 := n0_
                have BK106 := n1_
                have HB := n2_
                clear n0_ n1_ n2_
                (try clear hb)
                (try clear hb2)
                (try clear hk)
                (try clear hi)
                refine hK.out _ _ ⟨(blk_cell BK106.out 0).trans rfl, (blk_cell BK106.out 1).trans rfl, (blk_cell BK106.out 2).trans rfl, ((HB.out.cell (World.block_lt_of_cell? w _ hw107_0)).trans hw107_0), ((HB.out.cell (World.block_lt_of_cell? w _ hw107_1)).trans hw107_1), ((HB.out.cell (World.block_lt_of_cell? w _ hw108_0)).trans hw108_0), ((HB.out.cell (World.block_lt_of_cell? w _ hw108_1)).trans hw108_1), ((HB.out.cell (World.block_lt_of_cell? w _ hw109_0)).trans hw109_0), ((HB.out.cell (World.block_lt_of_cell? w _ hw109_1)).trans hw109_1)⟩ (fun hHeld => ?_)
                clear hK K
                refine norm_ (a' := ?_) ?_ ?_
                rotate_left
                ·show Act.put _ (some 41) _ = _
                 simp only [Act.put, List.setIfInBounds_toArray, List.set_cons_zero, List.set_cons_succ, i64_w, i32_w]
                 rfl
                refine plan_ ((0, 16, 42, 131071) :: []) ?_
                iterate 1 (first | (refine planV_ ?_ ?_ rfl rfl (any_of HT_.out (by kernel_rfl)) (fun _ _ _ h => h) (Or.inl ⟨by rfl, ?_⟩) ?_ ?_; rotate_left 2; (· intro w'; go_simp; with_reducible rfl); (· simp only [Act.put, List.setIfInBounds_toArray, List.set_cons_zero, List.set_cons_succ, i64_w, i32_w]; rfl)))
                refine planEnd_ ?_
                refine done_ (done_of HT_.out (by kernel_rfl)) ?_
                try go_wp2
                go_roundg k2
                case measure => have := HJ1.out; have := HK2.out; omega
                case rel => exact ⟨(wrap64 (x22_2 + 1)), (by first | rfl | (simp; done) | (simp [*]; done)), H', ⟨by have := HJ1.out; have := HK2.out; omega⟩, ⟨by (with_reducible repeat (first | apply kA_ | apply kN_ | apply kD_)); exact Kd.R_mono HO_20.out (fun _ hk => trivial)⟩, ⟨by repeat (first | (with_reducible first | exact HB.out | apply bA_ | apply bN_ | apply bD_ | refine below_set ?_ GE106.out) | exact HB.out)⟩⟩
              ·rw [if_neg c19] at H
               exact absurd H (by simp)
             ·rw [if_neg c18] at H
              exact absurd H (by simp)
            ·rw [if_neg c17] at H
             exact absurd H (by simp)
           ·rw [if_neg c16] at H
            exact absurd H (by simp)
          ·rw [if_neg c15] at H
           exact absurd H (by simp)
         ·rw [if_neg c14] at H
          exact absurd H (by simp)
        ·rw [if_neg c13] at H
         exact absurd H (by simp)
       ·rw [if_neg c12] at H
        exact absurd H (by simp)
      ·rw [if_neg c11] at H
       have c11b0 : decide (x22_2 < (t102.length : Int)) = false := decide_eq_false c11
       clear c11
       obtain rfl := Option.some.inj H
       go_wp2
       go_ret
       exact ⟨by first | rfl | (simp [errW_none, errW_some] <;> rfl) | (simp [*, errW_none, errW_some] <;> rfl), by repeat (first | (with_reducible first | exact HB.out | apply bA_ | apply bN_ | apply bD_) | exact HB.out)⟩
end Go.Proofs.Ytijgjpfbhbggdaa.P

namespace Go.Proofs.Ytijgjpfbhbggdaa.P
open Go.RowKit Go.Proofs.YtijgjpfbhbggdaaW.PrintWords Go.Proofs.YtijgjpfbhbggdaaW.PrintLast Go.Proofs.YtijgjpfbhbggdaaW.PrintMore
attribute [local go_sem] max2_int min2_int max_two min_two max_three min_three max_four min_four   -- for this text's walks alone
set_option linter.unusedVariables false
set_option linter.unusedSimpArgs false
/-! ### impl_chi_set: function 159 -/
theorem chi_store {P : Program} {ops : Array Oper} {o : Oper} {a : Act} {Q : Exit → Act → World → Prop} {W u0 w0 : World} {Kc : Act → World → Prop} {g j : Nat} {e : TypeId} {cur : Array Value} (hN : o.dst = none) (hw : Region.wanted o (yielded ops a.tmps) = true) (t : TypeId) (p x : Operand) (ho : o.op = .store t p x) (u : Value)
  (haddr : a.eval p = .pointer (some ⟨g, j, none⟩)) (hx : a.eval x = u) (hu : u.cells.toList = [u]) (ht : (P.info? t).map (·.size) = some 1) (h1 : u.oneCell' = true) (hh : W.heap[g]? = some (.cells cur e (0, 0))) (hj : j < cur.size)
  (hB : Below u0.heap.size u0 W) (hg : u0.heap.size ≤ g) (hK : KeepBut w0 W g none)
  (h : ∀ W1 : World, W1.heap[g]? = some (.cells (cur.setIfInBounds j u) e (0, 0)) → Below u0.heap.size u0 W1 → KeepBut w0 W1 g none → Kc a W1) : if Region.wanted o (yielded ops a.tmps) = true then Oper.wp P o a W Kc Q else Kc (a.put none undef) W := by
 have hrun := run_store_run (P := P) (o := j) t u [u] hh hu ht (by simp; omega) (by simp [h1])
 rw [if_pos hw]
 unfold Oper.wp execOp
 simp only [ho, haddr, hx, Sem.run_bind, Sem.run_pure, Result.andThen_ok, hrun]
 show Kc (a.put o.dst undef) _
 rw [hN]
 exact h _ (blk_set hh j u) (below_set hB hg) (hK.set_ j u)
def chiIx (a b c : Int) : Nat := 1 + a.toNat * 49 + b.toNat * 7 + c.toNat
theorem chiIx_lt {a b c : Int} (ha : 0 ≤ a ∧ a < 7) (hb : 0 ≤ b ∧ b < 7) (hc : 0 ≤ c ∧ c < 7) : chiIx a b c < 344 := by unfold chiIx; omega
def chiSetS (cur : Array Value) (i j k s m : Int) : Array Value := (((((cur.setIfInBounds (chiIx i j k) (.int .i64 s)).setIfInBounds (chiIx j k i) (.int .i64 s)).setIfInBounds (chiIx k i j) (.int .i64 s)).setIfInBounds (chiIx i k j) (.int .i64 m)).setIfInBounds (chiIx k j i) (.int .i64 m)).setIfInBounds (chiIx j i k) (.int .i64 m)
def chiT0 : Bool × List (List Nat × List Nat) := (true, [([], []), ([], []), ([], []), ([], []), ([], []), ([], []), ([], []), ([], []), ([], []), ([], []), ([], []), ([], []), ([], []), ([], []), ([], []), ([0], [0]), ([15], [15]), ([16, 1], [1, 16]), ([17, 2], [2, 17]), ([18, 3, 0, 1, 2, 3, 12], [3, 18]), ([19, 12, 0, 1, 2, 3, 12], [12, 19]), ([4], [4]), ([21], [21]), ([22, 5], [5, 22]), ([23, 6], [6, 23]), ([24, 7, 0, 1, 2, 3, 4, 5, 6, 7, 12, 13, 15, 16, 17, 18, 19, 20], [7, 24]), ([25, 13, 20, 0, 1, 2, 3, 4, 5, 6, 7, 12, 13, 15, 16, 17, 18, 19, 20], [13, 25]), ([8], [8]), ([27], [27]), ([28, 9], [9, 28]), ([29, 10], [10, 29]), ([30, 11, 0, 1, 2, 3, 4, 5, 6, 7, 8, 9, 10, 11, 12, 13, 14, 15, 16, 17, 18, 19, 20, 21, 22, 23, 24, 25, 26], [11, 30]), ([31, 14, 26, 0, 1, 2, 3, 4, 5, 6, 7, 8, 9, 10, 11, 12, 13, 14, 15, 16, 17, 18, 19, 20, 21, 22, 23, 24, 25, 26], [14, 31])])
theorem chi_tab0 : rtab .any (opsOf Try.f159 0) = chiT0 := by kernel_rfl
def chiT1 : Bool × List (List Nat × List Nat) := (true, [([], []), ([], []), ([], []), ([], []), ([], []), ([], []), ([], []), ([], []), ([], []), ([], []), ([], []), ([], []), ([], []), ([12], [12]), ([], []), ([14], [14]), ([], []), ([16], [16]), ([0], [0]), ([18], [18]), ([19, 1], [1, 19]), ([20, 2], [2, 20]), ([21, 3, 0, 1, 2, 3, 12, 13], [3, 21]), ([22, 13, 0, 1, 2, 3, 12, 13], [13, 22]), ([4], [4]), ([24], [24]), ([25, 5], [5, 25]), ([26, 6], [6, 26]), ([27, 7, 0, 1, 2, 3, 4, 5, 6, 7, 12, 13, 14, 15, 18, 19, 20, 21, 22, 23], [7, 27]), ([28, 15, 23, 0, 1, 2, 3, 4, 5, 6, 7, 12, 13, 14, 15, 18, 19, 20, 21, 22, 23], [15, 28]), ([8], [8]), ([30], [30]), ([31, 9], [9, 31]), ([32, 10], [10, 32]), ([33, 11, 0, 1, 2, 3, 4, 5, 6, 7, 8, 9, 10, 11, 12, 13, 14, 15, 16, 17, 18, 19, 20, 21, 22, 23, 24, 25, 26, 27, 28, 29], [11, 33]), ([34, 17, 29, 0, 1, 2, 3, 4, 5, 6, 7, 8, 9, 10, 11, 12, 13, 14, 15, 16, 17, 18, 19, 20, 21, 22, 23, 24, 25, 26, 27, 28, 29], [17, 34])])
theorem chi_tab1 : rtab .any (opsOf Try.f159 1) = chiT1 := by kernel_rfl
set_option maxHeartbeats 4000000 in
set_option maxRecDepth 100000 in
theorem chi_setS_calls (u0 w : World) (g : Nat) (e : TypeId) (cur : Array Value) (i j k s : Int) (hh : w.heap[g]? = some (.cells cur e (0, 0))) (hs : cur.size = 344) (hB : Below u0.heap.size u0 w) (hg : u0.heap.size ≤ g) (hi : 0 ≤ i ∧ i < 7) (hj : 0 ≤ j ∧ j < 7) (hk : 0 ≤ k ∧ k < 7) :
  Calls Try.prog 159 #[.pointer (some ⟨g, 0, none⟩), .int .i64 i, .int .i64 j, .int .i64 k, .int .i64 s] w fun e' w' => e' = .returned (.tuple #[]) ∧ w'.heap[g]? = some (.cells (chiSetS cur i j k s (wrap64 (-s))) e (0, 0)) ∧ Below u0.heap.size u0 w' ∧ KeepBut w w' g none := by
 have b1 := chiIx_lt hi hj hk
 have b2 := chiIx_lt hj hk hi
 have b3 := chiIx_lt hk hi hj
 have b4 := chiIx_lt hi hk hj
 have b5 := chiIx_lt hk hj hi
 have b6 := chiIx_lt hj hi hk
 have B := aM_ (show chiIx i j k < cur.size ∧ chiIx j k i < cur.size ∧ chiIx k i j < cur.size ∧ chiIx i k j < cur.size ∧ chiIx k j i < cur.size ∧ chiIx j i k < cur.size by rw [hs]; exact ⟨b1, b2, b3, b4, b5, b6⟩)
 have H0 := aM_ hh
 have HB := aM_ hB
 have HG := aM_ hg
 have HK := aM_ (KeepBut.refl w g none)
 clear b1 b2 b3 b4 b5 b6 hh hs hB hg
 have hix58 : ∀ (x : Int), 0 ≤ x ∧ x < 7 → ∀ (W : World) (o : Nat), (Instr.indexAt 139 (.pointer (some ⟨g, o, none⟩)) (.int .i64 x)).run Try.prog W = .ok (.pointer (some ⟨g, o + x.toNat * 49, none⟩)) W := by
  intro x hx W o
  have hu : Try.prog.underlying 139 = some (.array (Try.prog.arrayLen 139) (Try.prog.elem 139)) := by kernel_rfl
  have hl : Try.prog.arrayLen 139 = 7 := by kernel_rfl
  have he : Try.prog.elem 139 = 138 := by kernel_rfl
  have hz : (Try.prog.info? 138).map (·.size) = some 49 := by kernel_rfl
  obtain ⟨inf, hinf, hinfs⟩ := Option.map_eq_some_iff.1 hz
  rw [run_indexAt_array _ _ _ _ _ hu, hl, he]
  simp [sizeOf, typeInfo, hinf, hinfs, Result.andThen, hx.1, hx.2, Addr.add]
 have hix57 : ∀ (x : Int), 0 ≤ x ∧ x < 7 → ∀ (W : World) (o : Nat), (Instr.indexAt 138 (.pointer (some ⟨g, o, none⟩)) (.int .i64 x)).run Try.prog W = .ok (.pointer (some ⟨g, o + x.toNat * 7, none⟩)) W := by
  intro x hx W o
  have hu : Try.prog.underlying 138 = some (.array (Try.prog.arrayLen 138) (Try.prog.elem 138)) := by kernel_rfl
  have hl : Try.prog.arrayLen 138 = 7 := by kernel_rfl
  have he : Try.prog.elem 138 = 137 := by kernel_rfl
  have hz : (Try.prog.info? 137).map (·.size) = some 7 := by kernel_rfl
  obtain ⟨inf, hinf, hinfs⟩ := Option.map_eq_some_iff.1 hz
  rw [run_indexAt_array _ _ _ _ _ hu, hl, he]
  simp [sizeOf, typeInfo, hinf, hinfs, Result.andThen, hx.1, hx.2, Addr.add]
 have hix56 : ∀ (x : Int), 0 ≤ x ∧ x < 7 → ∀ (W : World) (o : Nat), (Instr.indexAt 137 (.pointer (some ⟨g, o, none⟩)) (.int .i64 x)).run Try.prog W = .ok (.pointer (some ⟨g, o + x.toNat, none⟩)) W := by
  intro x hx W o
  have hu : Try.prog.underlying 137 = some (.array (Try.prog.arrayLen 137) (Try.prog.elem 137)) := by kernel_rfl
  have hl : Try.prog.arrayLen 137 = 7 := by kernel_rfl
  have he : Try.prog.elem 137 = 3 := by kernel_rfl
  have hz : (Try.prog.info? 3).map (·.size) = some 1 := by kernel_rfl
  obtain ⟨inf, hinf, hinfs⟩ := Option.map_eq_some_iff.1 hz
  rw [run_indexAt_array _ _ _ _ _ hu, hl, he]
  simp [sizeOf, typeInfo, hinf, hinfs, Result.andThen, hx.1, hx.2, Addr.add]
 have I58i := hix58 i hi
 have I58j := hix58 j hj
 have I58k := hix58 k hk
 have I57i := hix57 i hi
 have I57j := hix57 j hj
 have I57k := hix57 k hk
 have I56i := hix56 i hi
 have I56j := hix56 j hj
 have I56k := hix56 k hk
 clear hix58 hix57 hix56
 go_enter Try.func159, Try.ntmps159
 go_wp2_with fail
 refine start_ (n := 33) (S := fun _ => True) (ds := []) (bm 33 0) (by kernel_rfl) rfl rfl trivial (fun hHeld => ?_); refine with_tab chi_tab0 (fun HT_ => ?_)
 have H0 := aM_ (show w.drew.heap[g]? = some (.cells cur e (0, 0)) from H0.out)
 have HB := aM_ (bD_ HB.out)
 have HK := aM_ (show KeepBut w w.drew g none from HK.out)
 generalize w.drew = w26 at H0 HB HK ⊢
 refine plan_ ((0, 0, 10, 1) :: (0, 1, 11, 3) :: (0, 2, 12, 7) :: (0, 3, 13, 15) :: (0, 4, 14, 31) :: (0, 5, 15, 63) :: (0, 6, 16, 127) :: (0, 7, 17, 255) :: (0, 8, 18, 511) :: (0, 9, 19, 1023) :: (0, 10, 20, 2047) :: (0, 11, 21, 4095) :: (0, 12, 22, 8191) :: (0, 13, 23, 16383) :: (0, 14, 24, 32767) :: (0, 15, 25, 65535) :: (0, 16, 26, 131071) :: (0, 17, 27, 262143) :: (0, 18, 28, 524287) :: (0, 19, 29, 1048575) :: (0, 21, 30, 3145727) :: (0, 22, 31, 7340031) :: (0, 23, 32, 15728639) :: (0, 24, 33, 32505855) :: (0, 27, 35, 166723583) :: (0, 28, 36, 435159039) :: (0, 29, 37, 972029951) :: (0, 30, 38, 2045771775) :: []) ?_
 iterate 28 (refine planV_ ?_ ?_ rfl rfl (any_of HT_.out (by kernel_rfl)) (fun _ _ _ h => h) (Or.inl ⟨by rfl, ?_⟩) ?_ ?_; rotate_left 2; (· intro w'; go_simp; with_reducible rfl); (· simp only [Act.put, List.setIfInBounds_toArray, List.set_cons_zero, List.set_cons_succ, i64_w, i32_w]; rfl))
 refine planEnd_ ?_
 refine one_ (i := 20) (N := none) (bm 33 2046820351) rfl rfl (one_of HT_.out (by kernel_rfl)) (by decide) (fun K hK => ?_)
 refine chi_store (u0 := u0) (w0 := w) (g := g) (j := chiIx i j k) rfl (by rfl) 3 (.tmp 29) (.tmp 22) rfl (.int .i64 s) rfl (by first | rfl | kernel_rfl | (simp [Act.eval]; done) | (show Value.int .i64 _ = _; congr 1; decide)) rfl (by kernel_rfl) rfl H0.out (by have := B.out; (try simp only [Array.size_setIfInBounds]); omega) HB.out HG.out HK.out (fun W1 hh hb hk_ => ?_)
 have H1 := aM_ hh
 have m1_ := aM_ hb
 have m2_ := aM_ hk_
 clear HB HK hh hb hk_ H0
 have HB := m1_
 have HK := m2_
 clear m1_ m2_
 refine hK.out _ _ trivial (fun hHeld => ?_)
 clear hK K
 refine plan_ ((0, 25, 34, 2080374783) :: []) ?_
 iterate 1 (refine planV_ ?_ ?_ rfl rfl (any_of HT_.out (by kernel_rfl)) (fun _ _ _ h => h) (Or.inl ⟨by rfl, ?_⟩) ?_ ?_; rotate_left 2; (· intro w'; go_simp; with_reducible rfl); (· simp only [Act.put, List.setIfInBounds_toArray, List.set_cons_zero, List.set_cons_succ, i64_w, i32_w]; rfl))
 refine planEnd_ ?_
 refine one_ (i := 26) (N := none) (bm 33 2147483647) rfl rfl (one_of HT_.out (by kernel_rfl)) (by decide) (fun K hK => ?_)
 refine chi_store (u0 := u0) (w0 := w) (g := g) (j := chiIx j k i) rfl (by rfl) 3 (.tmp 34) (.tmp 23) rfl (.int .i64 s) rfl (by first | rfl | kernel_rfl | (simp [Act.eval]; done) | (show Value.int .i64 _ = _; congr 1; decide)) rfl (by kernel_rfl) rfl H1.out (by have := B.out; (try simp only [Array.size_setIfInBounds]); omega) HB.out HG.out HK.out (fun W1 hh hb hk_ => ?_)
 have H2 := aM_ hh
 have m1_ := aM_ hb
 have m2_ := aM_ hk_
 clear HB HK hh hb hk_ H1
 have HB := m1_
 have HK := m2_
 clear m1_ m2_
 refine hK.out _ _ trivial (fun hHeld => ?_)
 clear hK K
 refine plan_ ((0, 31, 39, 4294967295) :: []) ?_
 iterate 1 (refine planV_ ?_ ?_ rfl rfl (any_of HT_.out (by kernel_rfl)) (fun _ _ _ h => h) (Or.inl ⟨by rfl, ?_⟩) ?_ ?_; rotate_left 2; (· intro w'; go_simp; with_reducible rfl); (· simp only [Act.put, List.setIfInBounds_toArray, List.set_cons_zero, List.set_cons_succ, i64_w, i32_w]; rfl))
 refine planEnd_ ?_
 refine one_ (i := 32) (N := none) (bm 33 8589934591) rfl rfl (one_of HT_.out (by kernel_rfl)) (by decide) (fun K hK => ?_)
 refine chi_store (u0 := u0) (w0 := w) (g := g) (j := chiIx k i j) rfl (by rfl) 3 (.tmp 39) (.tmp 24) rfl (.int .i64 s) rfl (by first | rfl | kernel_rfl | (simp [Act.eval]; done) | (show Value.int .i64 _ = _; congr 1; decide)) rfl (by kernel_rfl) rfl H2.out (by have := B.out; (try simp only [Array.size_setIfInBounds]); omega) HB.out HG.out HK.out (fun W1 hh hb hk_ => ?_)
 have H3 := aM_ hh
 have m1_ := aM_ hb
 have m2_ := aM_ hk_
 clear HB HK hh hb hk_ H2
 have HB := m1_
 have HK := m2_
 clear m1_ m2_
 refine hK.out _ _ trivial (fun hHeld => ?_)
 clear hK K
 refine done_ (done_of HT_.out (by kernel_rfl)) ?_
 clear HT_ hHeld
 go_wp2_with fail
 refine start_ (n := 36) (S := fun _ => True) (ds := []) (bm 36 0) (by kernel_rfl) rfl rfl trivial (fun hHeld => ?_); refine with_tab chi_tab1 (fun HT_ => ?_)
 have H3 := aM_ (show W1.drew.heap[g]? = _ from H3.out)
 have HB := aM_ (bD_ HB.out)
 have HK := aM_ (show KeepBut w W1.drew g none from HK.out)
 generalize W1.drew = w27 at H3 HB HK ⊢
 refine plan_ ((0, 0, 40, 1) :: (0, 1, 41, 3) :: (0, 2, 42, 7) :: (0, 3, 43, 15) :: (0, 4, 44, 31) :: (0, 5, 45, 63) :: (0, 6, 46, 127) :: (0, 7, 47, 255) :: (0, 8, 48, 511) :: (0, 9, 49, 1023) :: (0, 10, 50, 2047) :: (0, 11, 51, 4095) :: (0, 12, 52, 8191) :: (0, 13, 53, 16383) :: (0, 14, 54, 32767) :: (0, 15, 55, 65535) :: (0, 16, 56, 131071) :: (0, 17, 57, 262143) :: (0, 18, 58, 524287) :: (0, 19, 59, 1048575) :: (0, 20, 60, 2097151) :: (0, 21, 61, 4194303) :: (0, 22, 62, 8388607) :: (0, 24, 63, 25165823) :: (0, 25, 64, 58720255) :: (0, 26, 65, 125829119) :: (0, 27, 66, 260046847) :: (0, 30, 68, 1333788671) :: (0, 31, 69, 3481272319) :: (0, 32, 70, 7776239615) :: (0, 33, 71, 16366174207) :: []) ?_
 iterate 31 (refine planV_ ?_ ?_ rfl rfl (any_of HT_.out (by kernel_rfl)) (fun _ _ _ h => h) (Or.inl ⟨by rfl, ?_⟩) ?_ ?_; rotate_left 2; (· intro w'; go_simp; with_reducible rfl); (· simp only [Act.put, List.setIfInBounds_toArray, List.set_cons_zero, List.set_cons_succ, i64_w, i32_w]; rfl))
 refine planEnd_ ?_
 refine one_ (i := 23) (N := none) (bm 36 16374562815) rfl rfl (one_of HT_.out (by kernel_rfl)) (by decide) (fun K hK => ?_)
 refine chi_store (u0 := u0) (w0 := w) (g := g) (j := chiIx i k j) rfl (by rfl) 3 (.tmp 62) (.tmp 53) rfl (.int .i64 (wrap64 (-s))) rfl (by first | rfl | kernel_rfl | (simp [Act.eval]; done) | (show Value.int .i64 _ = _; congr 1; decide)) rfl (by kernel_rfl) rfl H3.out (by have := B.out; (try simp only [Array.size_setIfInBounds]); omega) HB.out HG.out HK.out (fun W1 hh hb hk_ => ?_)
 have H4 := aM_ hh
 have m1_ := aM_ hb
 have m2_ := aM_ hk_
 clear HB HK hh hb hk_ H3
 have HB := m1_
 have HK := m2_
 clear m1_ m2_
 refine hK.out _ _ trivial (fun hHeld => ?_)
 clear hK K
 refine plan_ ((0, 28, 67, 16642998271) :: []) ?_
 iterate 1 (refine planV_ ?_ ?_ rfl rfl (any_of HT_.out (by kernel_rfl)) (fun _ _ _ h => h) (Or.inl ⟨by rfl, ?_⟩) ?_ ?_; rotate_left 2; (· intro w'; go_simp; with_reducible rfl); (· simp only [Act.put, List.setIfInBounds_toArray, List.set_cons_zero, List.set_cons_succ, i64_w, i32_w]; rfl))
 refine planEnd_ ?_
 refine one_ (i := 29) (N := none) (bm 36 17179869183) rfl rfl (one_of HT_.out (by kernel_rfl)) (by decide) (fun K hK => ?_)
 refine chi_store (u0 := u0) (w0 := w) (g := g) (j := chiIx k j i) rfl (by rfl) 3 (.tmp 67) (.tmp 55) rfl (.int .i64 (wrap64 (-s))) rfl (by first | rfl | kernel_rfl | (simp [Act.eval]; done) | (show Value.int .i64 _ = _; congr 1; decide)) rfl (by kernel_rfl) rfl H4.out (by have := B.out; (try simp only [Array.size_setIfInBounds]); omega) HB.out HG.out HK.out (fun W1 hh hb hk_ => ?_)
 have H5 := aM_ hh
 have m1_ := aM_ hb
 have m2_ := aM_ hk_
 clear HB HK hh hb hk_ H4
 have HB := m1_
 have HK := m2_
 clear m1_ m2_
 refine hK.out _ _ trivial (fun hHeld => ?_)
 clear hK K
 refine plan_ ((0, 34, 72, 34359738367) :: []) ?_
 iterate 1 (refine planV_ ?_ ?_ rfl rfl (any_of HT_.out (by kernel_rfl)) (fun _ _ _ h => h) (Or.inl ⟨by rfl, ?_⟩) ?_ ?_; rotate_left 2; (· intro w'; go_simp; with_reducible rfl); (· simp only [Act.put, List.setIfInBounds_toArray, List.set_cons_zero, List.set_cons_succ, i64_w, i32_w]; rfl))
 refine planEnd_ ?_
 refine one_ (i := 35) (N := none) (bm 36 68719476735) rfl rfl (one_of HT_.out (by kernel_rfl)) (by decide) (fun K hK => ?_)
 refine chi_store (u0 := u0) (w0 := w) (g := g) (j := chiIx j i k) rfl (by rfl) 3 (.tmp 72) (.tmp 57) rfl (.int .i64 (wrap64 (-s))) rfl (by first | rfl | kernel_rfl | (simp [Act.eval]; done) | (show Value.int .i64 _ = _; congr 1; decide)) rfl (by kernel_rfl) rfl H5.out (by have := B.out; (try simp only [Array.size_setIfInBounds]); omega) HB.out HG.out HK.out (fun W1 hh hb hk_ => ?_)
 have H6 := aM_ hh
 have m1_ := aM_ hb
 have m2_ := aM_ hk_
 clear HB HK hh hb hk_ H5
 have HB := m1_
 have HK := m2_
 clear m1_ m2_
 refine hK.out _ _ trivial (fun hHeld => ?_)
 clear hK K
 refine done_ (done_of HT_.out (by kernel_rfl)) ?_
 clear HT_ hHeld
 go_wp2
 first | go_end0 | go_ret | go_ret2
 exact ⟨rfl, H6.out, HB.out, HK.out⟩
theorem chi_ix58 (g : Nat) (x : Int) (hx : 0 ≤ x ∧ x < 7) (W : World) (o : Nat) : (Instr.indexAt 139 (.pointer (some ⟨g, o, none⟩)) (.int .i64 x)).run Try.prog W = .ok (.pointer (some ⟨g, o + x.toNat * 49, none⟩)) W := by
 have hu : Try.prog.underlying 139 = some (.array (Try.prog.arrayLen 139) (Try.prog.elem 139)) := by kernel_rfl
 have hl : Try.prog.arrayLen 139 = 7 := by kernel_rfl
 have he : Try.prog.elem 139 = 138 := by kernel_rfl
 have hz : (Try.prog.info? 138).map (·.size) = some 49 := by kernel_rfl
 obtain ⟨inf, hinf, hinfs⟩ := Option.map_eq_some_iff.1 hz
 rw [run_indexAt_array _ _ _ _ _ hu, hl, he]
 simp [sizeOf, typeInfo, hinf, hinfs, Result.andThen, hx.1, hx.2, Addr.add]
theorem chi_ix57 (g : Nat) (x : Int) (hx : 0 ≤ x ∧ x < 7) (W : World) (o : Nat) : (Instr.indexAt 138 (.pointer (some ⟨g, o, none⟩)) (.int .i64 x)).run Try.prog W = .ok (.pointer (some ⟨g, o + x.toNat * 7, none⟩)) W := by
 have hu : Try.prog.underlying 138 = some (.array (Try.prog.arrayLen 138) (Try.prog.elem 138)) := by kernel_rfl
 have hl : Try.prog.arrayLen 138 = 7 := by kernel_rfl
 have he : Try.prog.elem 138 = 137 := by kernel_rfl
 have hz : (Try.prog.info? 137).map (·.size) = some 7 := by kernel_rfl
 obtain ⟨inf, hinf, hinfs⟩ := Option.map_eq_some_iff.1 hz
 rw [run_indexAt_array _ _ _ _ _ hu, hl, he]
 simp [sizeOf, typeInfo, hinf, hinfs, Result.andThen, hx.1, hx.2, Addr.add]
theorem chi_ix56 (g : Nat) (x : Int) (hx : 0 ≤ x ∧ x < 7) (W : World) (o : Nat) : (Instr.indexAt 137 (.pointer (some ⟨g, o, none⟩)) (.int .i64 x)).run Try.prog W = .ok (.pointer (some ⟨g, o + x.toNat, none⟩)) W := by
 have hu : Try.prog.underlying 137 = some (.array (Try.prog.arrayLen 137) (Try.prog.elem 137)) := by kernel_rfl
 have hl : Try.prog.arrayLen 137 = 7 := by kernel_rfl
 have he : Try.prog.elem 137 = 3 := by kernel_rfl
 have hz : (Try.prog.info? 3).map (·.size) = some 1 := by kernel_rfl
 obtain ⟨inf, hinf, hinfs⟩ := Option.map_eq_some_iff.1 hz
 rw [run_indexAt_array _ _ _ _ _ hu, hl, he]
 simp [sizeOf, typeInfo, hinf, hinfs, Result.andThen, hx.1, hx.2, Addr.add]
/-! a table of signs as a function -/
def upT (T : Nat → Int) (p : Nat) (v : Int) : Nat → Int := fun m => if m = p then v else T m
theorem chiC_size (n : Int) (T : Nat → Int) : (chiC n T).size = 344 := by simp [chiC]
theorem chiC_at (n : Int) (T : Nat → Int) (p : Nat) (h : p < 343) : (chiC n T)[1 + p]? = some (.int .i64 (T p)) := by
 unfold chiC
 rw [Array.getElem?_append_right (by simp)]
 simp [h]
theorem chiC_zero (n : Int) (T : Nat → Int) : (chiC n T)[0]? = some (.int .i64 n) := by
 unfold chiC
 rw [Array.getElem?_append_left (by simp)]
 rfl
theorem chiC_put (n : Int) (T : Nat → Int) (p : Nat) (v : Int) (h : p < 343) : (chiC n T).setIfInBounds (1 + p) (.int .i64 v) = chiC n (upT T p v) := by
 apply Array.ext_getElem?
 intro q
 rw [Array.getElem?_setIfInBounds]
 by_cases hq : 1 + p = q
 ·subst hq
  rw [if_pos rfl, if_pos (by rw [chiC_size]; omega), chiC_at _ _ _ h]
  simp [upT]
 ·rw [if_neg hq]
  by_cases h0 : q = 0
  ·subst h0; rw [chiC_zero, chiC_zero]
  ·obtain ⟨m, rfl⟩ : ∃ m, q = 1 + m := ⟨q - 1, by omega⟩
   by_cases hm : m < 343
   ·rw [chiC_at _ _ _ hm, chiC_at _ _ _ hm]
    unfold upT
    rw [if_neg (by omega)]
   ·rw [Array.getElem?_eq_none (by rw [chiC_size]; omega), Array.getElem?_eq_none (by rw [chiC_size]; omega)]
def tix (a b c : Int) : Nat := a.toNat * 49 + b.toNat * 7 + c.toNat
theorem tix_lt {a b c : Int} (ha : 0 ≤ a ∧ a < 7) (hb : 0 ≤ b ∧ b < 7) (hc : 0 ≤ c ∧ c < 7) : tix a b c < 343 := by unfold tix; omega
theorem tix_ix (a b c : Int) : chiIx a b c = 1 + tix a b c := by unfold chiIx tix; omega
def setT (T : Nat → Int) (i j k s : Int) : Nat → Int := upT (upT (upT (upT (upT (upT T (tix i j k) s) (tix j k i) s) (tix k i j) s) (tix i k j) (wrap64 (-s))) (tix k j i) (wrap64 (-s))) (tix j i k) (wrap64 (-s))
theorem chiC_setT (n : Int) (T : Nat → Int) (i j k s : Int) (hi : 0 ≤ i ∧ i < 7) (hj : 0 ≤ j ∧ j < 7) (hk : 0 ≤ k ∧ k < 7) : chiSetS (chiC n T) i j k s (wrap64 (-s)) = chiC n (setT T i j k s) := by
 unfold chiSetS setT
 simp only [tix_ix]
 rw [chiC_put _ _ _ _ (tix_lt hi hj hk), chiC_put _ _ _ _ (tix_lt hj hk hi), chiC_put _ _ _ _ (tix_lt hk hi hj), chiC_put _ _ _ _ (tix_lt hi hk hj), chiC_put _ _ _ _ (tix_lt hk hj hi), chiC_put _ _ _ _ (tix_lt hj hi hk)]
theorem chi_setT_calls (u0 w : World) (g : Nat) (n : Int) (T : Nat → Int) (i j k s : Int) (hI : IsS141 u0 w g n T) (hB : Below u0.heap.size u0 w) (hi : 0 ≤ i ∧ i < 7) (hj : 0 ≤ j ∧ j < 7) (hk : 0 ≤ k ∧ k < 7) :
  Calls Try.prog 159 #[.pointer (some ⟨g, 0, none⟩), .int .i64 i, .int .i64 j, .int .i64 k, .int .i64 s] w fun e' w' => e' = .returned (.tuple #[]) ∧ IsS141 u0 w' g n (setT T i j k s) ∧ Below u0.heap.size u0 w' ∧ KeepBut w w' g none := by
 refine (chi_setS_calls u0 w g _ (chiC n T) i j k s hI.1 (chiC_size n T) hB hI.2 hi hj hk).mono ?_
 rintro e' w' ⟨he, hh, hb, hk'⟩
 exact ⟨he, ⟨by rw [← chiC_setT n T i j k s hi hj hk]; exact hh, hI.2⟩, hb, hk'⟩
theorem chi_at7 {w : World} {w0 : World} {g : Nat} {n : Int} {T : Nat → Int} (hI : IsS141 w0 w g n T) : ∀ a b c : Int, 0 ≤ a ∧ a < 7 → 0 ≤ b ∧ b < 7 → 0 ≤ c ∧ c < 7 → w.cell? ⟨g, 1 + a.toNat * 49 + b.toNat * 7 + c.toNat, none⟩ = some (.int .i64 (T (a.toNat * 49 + b.toNat * 7 + c.toNat))) := by
 intro a b c ha hb hc
 have h := chiC_at n T (tix a b c) (tix_lt ha hb hc)
 rw [← tix_ix] at h
 exact (blk_cell hI.1 _).trans h
end Go.Proofs.Ytijgjpfbhbggdaa.P

namespace Go.Proofs.Ytijgjpfbhbggdaa.P
open Go.RowKit Go.Proofs.YtijgjpfbhbggdaaW.PrintWords Go.Proofs.YtijgjpfbhbggdaaW.PrintLast Go.Proofs.YtijgjpfbhbggdaaW.PrintMore
attribute [local go_sem] max2_int min2_int max_two min_two max_three min_three max_four min_four   -- for this text's walks alone
set_option linter.unusedVariables false
set_option linter.unusedSimpArgs false
/-! ### impl_chi_signs: function 160 -/
def sgnB (T : Nat → Int) (t : S65) : Int := if T (tix t.f0 t.f1 t.f2) > 0 then 43 else 45
def chiAsc (t : S65) : Prop := 0 ≤ t.f0 ∧ t.f0 < t.f1 ∧ t.f1 < t.f2 ∧ t.f2 < 7
theorem chi_store2 {P : Program} {ops : Array Oper} {o : Oper} {a : Act} {Q : Exit → Act → World → Prop} {W : World} {Kc : Act → World → Prop} {g : Nat} {e : TypeId} {cur : Array Value} (hN : o.dst = none) (hw : Region.wanted o (yielded ops a.tmps) = true) (t : TypeId) (p x : Operand) (ho : o.op = .store t p x) (u u1 u2 : Value)
  (haddr : a.eval p = .pointer (some ⟨g, 0, none⟩)) (hx : a.eval x = u) (hu : u.cells.toList = [u1, u2]) (ht : (P.info? t).map (·.size) = some 2) (h1 : ∀ q ∈ [u1, u2], q.oneCell' = true) (hh : W.heap[g]? = some (.cells cur e (0, 0))) (hj : 2 ≤ cur.size)
  (h : Kc a ((W.setCell ⟨g, 0, none⟩ u1).setCell ⟨g, 1, none⟩ u2)) : if Region.wanted o (yielded ops a.tmps) = true then Oper.wp P o a W Kc Q else Kc (a.put none undef) W := by
 have hrun := run_store_run (P := P) (o := 0) t u [u1, u2] hh hu ht (by simpa using hj) h1
 rw [if_pos hw]
 unfold Oper.wp execOp
 simp only [ho, haddr, hx, Sem.run_bind, Sem.run_pure, Result.andThen_ok, hrun]
 show Kc (a.put o.dst undef) _
 rw [hN]
 exact h
def chiT5 : Bool × List (List Nat × List Nat) := (true, [([], []), ([], []), ([1], [1]), ([], []), ([3], [3]), ([], []), ([5], [5]), ([0], [0]), ([7], [7]), ([8, 2], [2, 8]), ([9, 4], [4, 9]), ([10, 6], [6, 10]), ([11], [11]), ([12], [12])])
def chiB5 : List Nat := [0, 0, 2, 0, 8, 0, 32, 1, 129, 391, 927, 2047, 4095, 8191]
theorem chi_tab5 : rtab .any (opsOf Try.f160 5) = chiT5 := by kernel_rfl
theorem chi_bits5 : waitsOk chiT5.2 chiB5 = true := by kernel_rfl
def chiT9 : Bool × List (List Nat × List Nat) := (true, [([], []), ([0], [0]), ([1], [1]), ([2], [2]), ([], []), ([4], [4]), ([3, 5], [3, 5]), ([6, 0, 1, 2, 3, 4, 5, 6], [6])])
def chiB9 : List Nat := [0, 1, 3, 7, 0, 16, 63, 127]
theorem chi_tab9 : rtab .any (opsOf Try.f160 9) = chiT9 := by kernel_rfl
theorem chi_bits9 : waitsOk chiT9.2 chiB9 = true := by kernel_rfl
theorem chi_info5 : (Try.prog.info? 5).map (fun i => (i.zero, i.size, i.bytes)) = some (some (.int .u8 0), 1, 1) := by kernel_rfl
set_option maxHeartbeats 8000000 in
set_option maxRecDepth 100000 in
theorem chi_signsT_calls (K : Nat) (w0 w : World) (g : Nat) (n : Int) (T : Nat → Int) (r : List S65) (hr : impl_triplesOf.f K n = some r) (hlen : r.length ≤ 35) (hasc : ∀ t ∈ r, chiAsc t) (hI : IsS141 w0 w g n T) :
  Calls Try.prog 160 #[.pointer (some ⟨g, 0, none⟩)] w fun e' w' => e' = .returned (.agg #[.int .i64 n, .string (strOfNums (r.map (sgnB T)))]) ∧ Below w.heap.size w w' := by
 have hu75 := Try.underlying65
 have HB := aM_ (Below.refl w.heap.size w)
 have HH := aM_ (show ∀ w' : World, Below w.heap.size w w' → w'.heap[g]? = some (.cells (chiC n T) 141 (0, 0)) from fun w' h => blk_below hI.1 h)
 have HR := aM_ hr
 have HC := aM_ (chiC_zero n T)
 have HL := aM_ hlen
 have HA := aM_ hasc
 have H1 := aM_ (show ∀ a b c : Int, 0 ≤ a ∧ a < 7 → 0 ≤ b ∧ b < 7 → 0 ≤ c ∧ c < 7 → (chiC n T)[1 + a.toNat * 49 + b.toNat * 7 + c.toNat]? = some (.int .i64 (T (tix a b c))) from fun a b c h1 h2 h3 => by
  have h := chiC_at n T (tix a b c) (tix_lt h1 h2 h3)
  rw [← tix_ix] at h
  exact h)
 clear hr hlen hasc hI
 go_enter Try.func160, Try.ntmps160
 go_wp2_with (first | ((with_reducible refine gate_dst (N := 2) rfl ?_); refine box_event ?hg (N := 2) ?hd (cs := #[.int .i64 0, .string (⟨#[]⟩ : ByteArray)]) (t := 109) ?hr ?_; (case hd => rfl); (case hg => rfl); (case hr => first | (go_simp; done) | (go_simp; rfl)); intro gb101 hg w4 hbox hb; have n0_ := aM_ (below_step (by repeat (first | (with_reducible first | exact HB.out | apply bA_ | apply bN_ | apply bD_) | exact HB.out)) hb); have n1_ := aM_ (hbox); have n3_ := aM_ ((by rw [hg]; exact (below_size (by repeat (first | (with_reducible first | exact HB.out | apply bA_ | apply bN_ | apply bD_) | exact HB.out))) : w.heap.size ≤ gb101)); clear HB; have HB := n0_; have BK101 := n1_; have GE101 := n3_; clear n0_ n1_ n3_; clear hb hbox hg; have hcz0 : w4.cell? ⟨g, 0, none⟩ = some (.int .i64 n) := (blk_cell (HH.out _ HB.out) 0).trans HC.out) | ((with_reducible refine gate_callee (f := 62) rfl ?_); refine goesL_ (some 10) rfl rfl Try.func62 (by kernel_rfl) rfl #[.int .i64 n] rfl (by (try simp only [List.map_toArray, List.map_cons, List.map_nil]); first | done | rfl | (simp only [List.length_drop, List.length_take]; rfl)) ?_; (with_reducible refine (impl_triplesOf.calls K n r _ HR.out).mono ?_); rintro e w3 ⟨v102, rfl, ho0, hb⟩; refine ⟨_, rfl, ?_⟩; have n0_ := aM_ (Kd.R_lower ho0 (below_size (by repeat (first | (with_reducible first | exact HB.out | apply bA_ | apply bN_ | apply bD_) | exact HB.out)))); have n1_ := aM_ (below_step (by repeat (first | (with_reducible first | exact HB.out | apply bA_ | apply bN_ | apply bD_) | exact HB.out)) hb); have n2_ := aM_ (blk_below (g := gb101) (o := .cells #[.int .i64 0, .string (⟨#[]⟩ : ByteArray)] 109 (0, 0)) (by (with_reducible repeat (first | refine blk_drewN ?_ _ | refine blk_drew ?_ | refine blk_alloc ?_ _)); exact BK101.out) hb); clear HB BK101 hcz0; have HO_8 := n0_; have HB := n1_; have BK101 := n2_; clear n0_ n1_ n2_ hb ho0; obtain ⟨Ao4, co4, eo4⟩ := Kd.R_slice HO_8.out; subst eo4))
 go_loopg [3, 12] r.length (fun kq v3 v12 w' => ∃ (x : Int) (ix : Nat) (tx : List Int), v12 = .int .i64 x ∧ Aside0 (x = (ix : Int)) ∧ Aside0 (kq + ix = r.length) ∧ Aside0 (tx = (r.take ix).map (sgnB T)) ∧ Aside0 (w'.heap[gb101]? = some (.cells #[.int .i64 0, .string (⟨#[]⟩ : ByteArray)] 109 (0, 0))) ∧ Aside0 (Kd.R (Kd.int .u8) 5 w' w.heap.size (fun _ => True) v3 tx) ∧ Aside0 (Kd.R k65 65 w' w.heap.size (fun _ => True) (.slice Ao4 r.length co4) r) ∧ Aside0 (Below w.heap.size w w'))
 case atStart => exact ⟨0, 0, [], rfl, ⟨rfl⟩, ⟨rfl⟩, ⟨rfl⟩, ⟨BK101.out⟩, ⟨Kd.R_nil _ _ _ _ _⟩, HO_8, HB⟩
 case round =>
  clear BK101 HO_8 HB
  obtain ⟨x, ix, tx, rfl, HX, HK1, HT, BK101, HO_3, HO_8, HB⟩ := hrel
  by_cases c5 : x < (r.length : Int)
  ·have c5b0 : decide (x < (r.length : Int)) = true := decide_eq_true c5
   have hx := HX.out
   have p104 : 0 ≤ x := by omega
   have q104 := c5
   have hixn : ix < r.length := by omega
   have hrd : rd_T65 r x = r[ix] := by rw [hx]; simp [rd_T65, hixn]
   have hmem : rd_T65 r x ∈ r := by rw [hrd]; exact List.getElem_mem hixn
   have HASC := aM_ (HA.out _ hmem)
   have HSG := aM_ (show (r.take (ix + 1)).map (sgnB T) = (r.take ix).map (sgnB T) ++ [sgnB T (rd_T65 r x)] by rw [List.take_add_one, List.getElem?_eq_getElem hixn, hrd, List.map_append]; rfl)
   have HIX := aM_ hixn
   have HW : wrap64 (x + 1) = ((ix + 1 : Nat) : Int) := by have := HL.out; unfold wrap64; omega
   have HW := aM_ HW
   clear c5 hrd hmem hixn hx
   obtain ⟨ad104, e104, hx104_0, hx104_1, hx104_2⟩ := at_T65 (Kd.R_reads' HO_8.out).2.2 x p104 q104
   cases e104
   replace p104 := eq_true p104
   replace q104 := eq_true q104
   go_wp2_with ((with_reducible refine gate_dst (N := 5) rfl ?_); refine box_event ?hg (N := 5) ?hd (cs := #[.int .i64 0, .int .i64 0, .int .i64 0]) (t := 65) ?hr ?_; (case hd => rfl); (case hg => rfl); (case hr => first | (go_simp; done) | (go_simp; rfl)); intro gb105 hg w8 hbox hb; have n0_ := aM_ (Kd.R_below (Kd.R_elderB (by (with_reducible repeat (first | apply kA_ | apply kN_ | apply kD_)); exact HO_3.out) gb105 (Nat.le_of_eq hg.symm)) hb); have n1_ := aM_ (Kd.R_below (Kd.R_elderB (by (with_reducible repeat (first | apply kA_ | apply kN_ | apply kD_)); exact HO_8.out) gb105 (Nat.le_of_eq hg.symm)) hb); have n2_ := aM_ (below_step (by repeat (first | (with_reducible first | exact HB.out | apply bA_ | apply bN_ | apply bD_) | exact HB.out)) hb); have n3_ := aM_ (hbox); have n4_ := aM_ (show gb105 ≠ gb101 by have := blk_lt BK101.out; rw [hg]; show _ ≠ gb101; exact Nat.ne_of_gt this); have n5_ := aM_ ((by rw [hg]; exact (below_size (by repeat (first | (with_reducible first | exact HB.out | apply bA_ | apply bN_ | apply bD_) | exact HB.out))) : w.heap.size ≤ gb105)); have n6_ := aM_ (blk_below (g := gb101) (o := .cells #[.int .i64 0, .string (⟨#[]⟩ : ByteArray)] 109 (0, 0)) (by (with_reducible repeat (first | refine blk_drewN ?_ _ | refine blk_drew ?_ | refine blk_alloc ?_ _)); exact BK101.out) hb); clear HO_3; clear HO_8; clear HB; clear BK101; have HO_3 := n0_; have HO_8 := n1_; have HB := n2_; have BK105 := n3_; have GW105 := n4_; have GE105 := n5_; have BK101 := n6_; clear n0_ n1_ n2_ n3_ n4_ n5_ n6_; clear hb hbox hg; have hcz9_0 : w8.cell? ⟨gb105, 0, none⟩ = some (.int .i64 0) := (blk_cell BK105.out 0).trans rfl; have hcz9_1 : w8.cell? ⟨gb105, 1, none⟩ = some (.int .i64 0) := (blk_cell BK105.out 1).trans rfl; have hcz9_2 : w8.cell? ⟨gb105, 2, none⟩ = some (.int .i64 0) := (blk_cell BK105.out 2).trans rfl; have hfz9_0 := blk_frozen BK105.out 0; have hfz9_1 := blk_frozen BK105.out 1; have hfz9_2 := blk_frozen BK105.out 2)
   have hN := Ne.symm GW105.out
   have T75 := aM_ (show (((w8.setCell ⟨gb105, 0, none⟩ (.int .i64 (rd_T65 r x).f0)).setCell ⟨gb105, 1, none⟩ (.int .i64 (rd_T65 r x).f1)).setCell ⟨gb105, 2, none⟩ (.int .i64 (rd_T65 r x).f2)).heap[gb105]? = some (.cells #[.int .i64 (rd_T65 r x).f0, .int .i64 (rd_T65 r x).f1, .int .i64 (rd_T65 r x).f2] 65 (0, 0)) by
    refine blk_put (cs := #[.int .i64 (rd_T65 r x).f0, .int .i64 (rd_T65 r x).f1, .int .i64 0]) ?_ 2 _ rfl
    refine blk_put (cs := #[.int .i64 (rd_T65 r x).f0, .int .i64 0, .int .i64 0]) ?_ 1 _ rfl
    refine blk_put (cs := #[.int .i64 0, .int .i64 0, .int .i64 0]) ?_ 0 _ rfl
    exact BK105.out)
   have m1_ := aM_ ((Below.heap_setCell (w8.setCell ⟨gb105, 0, none⟩ (.int .i64 (rd_T65 r x).f0) |>.setCell ⟨gb105, 1, none⟩ (.int .i64 (rd_T65 r x).f1)) ⟨gb105, 2, none⟩ (.int .i64 (rd_T65 r x).f2) gb101 hN).trans ((Below.heap_setCell _ _ _ _ hN).trans ((Below.heap_setCell _ _ _ _ hN).trans BK101.out)))
   have m2_ := aM_ (below_set (v := (.int .i64 (rd_T65 r x).f2)) (j := 2) (below_set (v := (.int .i64 (rd_T65 r x).f1)) (j := 1) (below_set (v := (.int .i64 (rd_T65 r x).f0)) (j := 0) HB.out GE105.out) GE105.out) GE105.out)
   have m3_ := aM_ (Kd.R_far (p := ⟨gb105, 2, none⟩) (Kd.R_far (p := ⟨gb105, 1, none⟩) (Kd.R_far (p := ⟨gb105, 0, none⟩) HO_3.out (fun _ hk => hk.2) (.int .i64 ((rd_T65 r x).f0))) (fun _ hk => hk.2) (.int .i64 ((rd_T65 r x).f1))) (fun _ hk => hk.2) (.int .i64 ((rd_T65 r x).f2)))
   have m4_ := aM_ (Kd.R_far (p := ⟨gb105, 2, none⟩) (Kd.R_far (p := ⟨gb105, 1, none⟩) (Kd.R_far (p := ⟨gb105, 0, none⟩) HO_8.out (fun _ hk => hk.2) (.int .i64 ((rd_T65 r x).f0))) (fun _ hk => hk.2) (.int .i64 ((rd_T65 r x).f1))) (fun _ hk => hk.2) (.int .i64 ((rd_T65 r x).f2)))
   clear BK101 HB HO_3 HO_8 BK105 hcz9_0 hcz9_1 hcz9_2 hfz9_0 hfz9_1 hfz9_2 hx104_0 hx104_1 hx104_2 hN
   generalize ((w8.setCell ⟨gb105, 0, none⟩ (.int .i64 (rd_T65 r x).f0)).setCell ⟨gb105, 1, none⟩ (.int .i64 (rd_T65 r x).f1)).setCell ⟨gb105, 2, none⟩ (.int .i64 (rd_T65 r x).f2) = wA at T75 m1_ m2_ m3_ m4_ ⊢
   have BK101 := m1_
   have HB := m2_
   have HO_3 := aM_ (kD_ (Kd.R_mono (ok' := fun _ => True) m3_.out (fun _ _ => trivial)))
   have HO_8 := aM_ (kD_ (Kd.R_mono (ok' := fun _ => True) m4_.out (fun _ _ => trivial)))
   clear m1_ m2_ m3_ m4_
   have hA := HASC.out
   unfold chiAsc at hA
   have I58 := chi_ix58 g (rd_T65 r x).f0 (by omega)
   have I57 := chi_ix57 g (rd_T65 r x).f1 (by omega)
   have I56 := chi_ix56 g (rd_T65 r x).f2 (by omega)
   have hone := H1.out (rd_T65 r x).f0 (rd_T65 r x).f1 (rd_T65 r x).f2 (by omega) (by omega) (by omega)
   obtain ⟨v, hv⟩ : ∃ v, T (tix (rd_T65 r x).f0 (rd_T65 r x).f1 (rd_T65 r x).f2) = v := ⟨_, rfl⟩
   rw [hv] at hone
   have HONE := aM_ hone
   have HV := aM_ (show sgnB T (rd_T65 r x) = if v > 0 then 43 else 45 by unfold sgnB; rw [hv])
   clear hA hone hv
   refine start_ (n := 14) (S := fun w' => w'.cell? ⟨gb105, 0, none⟩ = some (.int .i64 (rd_T65 r x).f0) ∧ w'.cell? ⟨gb105, 1, none⟩ = some (.int .i64 (rd_T65 r x).f1) ∧ w'.cell? ⟨gb105, 2, none⟩ = some (.int .i64 (rd_T65 r x).f2) ∧ w'.cell? ⟨g, 1 + (rd_T65 r x).f0.toNat * 49 + (rd_T65 r x).f1.toNat * 7 + (rd_T65 r x).f2.toNat, none⟩ = some (.int .i64 v)) (ds := []) (bm 14 0) (by kernel_rfl) rfl rfl ⟨(blk_cell (w := wA) T75.out 0).trans rfl, (blk_cell (w := wA) T75.out 1).trans rfl, (blk_cell (w := wA) T75.out 2).trans rfl, (blk_cell (w := wA) (HH.out wA HB.out) _).trans HONE.out⟩ (fun hHeld => ?_); refine with_tabW chi_tab5 chi_bits5 (fun HT_ HW_ => ?_)
   have HB := aM_ (bD_ HB.out)
   have BK101 := aM_ (show wA.drew.heap[gb101]? = _ from BK101.out)
   clear T75
   generalize wA.drew = wB at HB BK101 HO_3 HO_8 hHeld ⊢
   refine plan_ ((0, 0, 16, 1) :: (0, 1, 17, 3) :: (0, 3, 19, 11) :: (0, 5, 21, 43) :: (0, 7, 23, 171) :: (0, 8, 24, 427) :: (2, 2, 18, 431) :: (2, 4, 20, 447) :: (2, 6, 22, 511) :: (0, 9, 25, 1023) :: (0, 10, 26, 2047) :: (0, 11, 27, 4095) :: (2, 12, 28, 8191) :: (0, 13, 29, 16383) :: []) ?_
   iterate 14 (first | (refine planV_ ?_ ?_ rfl rfl (any_of HT_.out (by kernel_rfl)) (fun _ _ _ h => h) (Or.inl ⟨by rfl, ?_⟩) ?_ ?_; rotate_left 2; (· intro w'; go_simp; with_reducible rfl); (· simp only [Act.put, List.setIfInBounds_toArray, List.set_cons_zero, List.set_cons_succ, i64_w, i32_w]; rfl)) | (refine planT_ ?_ ?_ rfl rfl (take_ofW HT_.out HW_.out (by kernel_rfl)) (fun _ _ _ h => h) (Or.inl ⟨by rfl, ?_⟩) hHeld ?_ ?_; rotate_left 2; (· rintro w' ⟨s0, s1, s2, s3⟩; go_simp; with_reducible rfl); (· simp only [Act.put, List.setIfInBounds_toArray, List.set_cons_zero, List.set_cons_succ, i64_w, i32_w]; rfl)))
   refine planEnd_ ?_
   refine done_ (done_of HT_.out (by kernel_rfl)) ?_
   clear HT_ HW_ hHeld I58 I57 I56
   by_cases cv : v > 0
   ·have HQ := aM_ cv
    have cvb : decide (0 < v) = true := decide_eq_true cv
    rw [cvb]
    clear cv cvb
    go_wp2_with ((with_reducible refine gate_builtin (b := .append) (xs := #[.tmp 30, .tmp 31]) rfl ?_); at_builtin; refine Kd.R_append (Kd.int .u8) (w0 := w) w.heap.size rfl (.tmp 30) (.tmp 31) 153 5 (.int .u8 0) 1 rfl Try.underlying153 chi_info5 rfl (by decide) (by omega) u3 tx 43 [.int .u8 43] (fun _ => True) (fun _ => False) rfl rfl ?aP (fun _ hk => hk.elim) ?aF ?aO ?aB ?aS ?aL ?_; (case aP => exact rfl); (case aB => exact (by repeat (first | (with_reducible first | exact HB.out | apply bA_ | apply bN_ | apply bD_) | exact HB.out))); (case aF => exact (fun _ _ => trivial)); (case aO => exact (by (with_reducible repeat (first | apply kA_ | apply kN_ | apply kD_)); exact HO_3.out)); (case aS => exact (below_size (by repeat (first | (with_reducible first | exact HB.out | apply bA_ | apply bN_ | apply bD_) | exact HB.out)))); (case aL => have h1 := HL.out; have h2 := HIX.out; rw [HT.out, List.length_map, List.length_take]; omega); intro v102 w7 ho hb hg hat; have n0_ := aM_ (Kd.R_over' (by (with_reducible repeat (first | apply kA_ | apply kN_ | apply kD_)); exact HO_8.out) (Kd.R_typed (by (with_reducible repeat (first | apply kA_ | apply kN_ | apply kD_)); exact HO_3.out)) (by decide) hg); have n1_ := aM_ (blk_grown (g := gb101) (o := .cells #[.int .i64 0, .string (⟨#[]⟩ : ByteArray)] 109 (0, 0)) (by (with_reducible repeat (first | refine blk_drewN ?_ _ | refine blk_drew ?_ | refine blk_alloc ?_ _)); exact BK101.out) hg (Kd.R_ne HO_3.out BK101.out (by decide))); have n2_ := aM_ (hb); have n3_ := aM_ (ho); clear HO_8; clear BK101; clear HB; clear HO_3; have HO_8 := n0_; have BK101 := n1_; have HB := n2_; have HO_3 := n3_; clear n0_ n1_ n2_ n3_; clear ho hb hg hat)
    go_roundg (gk - 1)
    case measure => have := HK1.out; have := HIX.out; omega
    case rel => exact ⟨wrap64 (x + 1), ix + 1, tx ++ [43], (by first | rfl | (simp; done) | (rw [HW.out]; first | rfl | (simp; done))), ⟨HW.out⟩, ⟨by have := HK1.out; have := HIX.out; omega⟩, ⟨by rw [HSG.out, HT.out, HV.out, if_pos (by have := HQ.out; omega)]⟩, ⟨BK101.out⟩, ⟨HO_3.out⟩, ⟨HO_8.out⟩, ⟨HB.out⟩⟩
   ·have HQ := aM_ cv
    have cvb : decide (0 < v) = false := decide_eq_false cv
    rw [cvb]
    clear cv cvb
    go_wp2_with ((with_reducible refine gate_builtin (b := .append) (xs := #[.tmp 33, .tmp 34]) rfl ?_); at_builtin; refine Kd.R_append (Kd.int .u8) (w0 := w) w.heap.size rfl (.tmp 33) (.tmp 34) 153 5 (.int .u8 0) 1 rfl Try.underlying153 chi_info5 rfl (by decide) (by omega) u3 tx 45 [.int .u8 45] (fun _ => True) (fun _ => False) rfl rfl ?aP (fun _ hk => hk.elim) ?aF ?aO ?aB ?aS ?aL ?_; (case aP => exact rfl); (case aB => exact (by repeat (first | (with_reducible first | exact HB.out | apply bA_ | apply bN_ | apply bD_) | exact HB.out))); (case aF => exact (fun _ _ => trivial)); (case aO => exact (by (with_reducible repeat (first | apply kA_ | apply kN_ | apply kD_)); exact HO_3.out)); (case aS => exact (below_size (by repeat (first | (with_reducible first | exact HB.out | apply bA_ | apply bN_ | apply bD_) | exact HB.out)))); (case aL => have h1 := HL.out; have h2 := HIX.out; rw [HT.out, List.length_map, List.length_take]; omega); intro v102 w7 ho hb hg hat; have n0_ := aM_ (Kd.R_over' (by (with_reducible repeat (first | apply kA_ | apply kN_ | apply kD_)); exact HO_8.out) (Kd.R_typed (by (with_reducible repeat (first | apply kA_ | apply kN_ | apply kD_)); exact HO_3.out)) (by decide) hg); have n1_ := aM_ (blk_grown (g := gb101) (o := .cells #[.int .i64 0, .string (⟨#[]⟩ : ByteArray)] 109 (0, 0)) (by (with_reducible repeat (first | refine blk_drewN ?_ _ | refine blk_drew ?_ | refine blk_alloc ?_ _)); exact BK101.out) hg (Kd.R_ne HO_3.out BK101.out (by decide))); have n2_ := aM_ (hb); have n3_ := aM_ (ho); clear HO_8; clear BK101; clear HB; clear HO_3; have HO_8 := n0_; have BK101 := n1_; have HB := n2_; have HO_3 := n3_; clear n0_ n1_ n2_ n3_; clear ho hb hg hat)
    go_roundg (gk - 1)
    case measure => have := HK1.out; have := HIX.out; omega
    case rel => exact ⟨wrap64 (x + 1), ix + 1, tx ++ [45], (by first | rfl | (simp; done) | (rw [HW.out]; first | rfl | (simp; done))), ⟨HW.out⟩, ⟨by have := HK1.out; have := HIX.out; omega⟩, ⟨by rw [HSG.out, HT.out, HV.out, if_neg (by have := HQ.out; omega)]⟩, ⟨BK101.out⟩, ⟨HO_3.out⟩, ⟨HO_8.out⟩, ⟨HB.out⟩⟩
  ·have c5b0 : decide (x < (r.length : Int)) = false := decide_eq_false c5
   have HE := aM_ (show ix = r.length by have := HK1.out; have := HX.out; omega)
   clear c5
   go_wp2_with fail
   have hcv : ∀ w' : World, Kd.R (Kd.int .u8) 5 w' w.heap.size (fun _ => True) u3 tx → (convert 153 9 u3).run Try.prog w' = .ok (.string (strOfNums tx)) w' := fun w' h => own_string (P := Try.prog) Try.underlying153 Try.underlying5 Try.underlying9 (Kd.own_of_R h)
   refine start_ (n := 8) (S := fun w' => w'.cell? ⟨g, 0, none⟩ = some (.int .i64 n) ∧ (convert 153 9 u3).run Try.prog w' = .ok (.string (strOfNums tx)) w') (ds := []) (bm 8 0) (by kernel_rfl) rfl rfl ⟨(blk_cell (HH.out _ HB.out) 0).trans HC.out, hcv _ (kD_ HO_3.out)⟩ (fun hHeld => ?_); refine with_tabW chi_tab9 chi_bits9 (fun HT_ HW_ => ?_)
   have HB := aM_ (bD_ HB.out)
   have BK101 := aM_ (show wr.drew.heap[gb101]? = _ from BK101.out)
   have HO_3 := aM_ (kD_ HO_3.out)
   have HCV := aM_ hcv
   clear hcv HO_8
   generalize wr.drew = wB at HB BK101 HO_3 hHeld ⊢
   refine plan_ ((0, 0, 37, 1) :: (0, 1, 38, 3) :: (0, 2, 39, 7) :: (0, 4, 41, 23) :: (2, 3, 40, 31) :: (2, 5, 42, 63) :: (0, 6, 43, 127) :: []) ?_
   iterate 7 (first | (refine planV_ ?_ ?_ rfl rfl (any_of HT_.out (by kernel_rfl)) (fun _ _ _ h => h) (Or.inl ⟨by rfl, ?_⟩) ?_ ?_; rotate_left 2; (· intro w'; go_simp; with_reducible rfl); (· simp only [Act.put, List.setIfInBounds_toArray, List.set_cons_zero, List.set_cons_succ, i64_w, i32_w]; rfl)) | (refine planT_ ?_ ?_ rfl rfl (take_ofW HT_.out HW_.out (by kernel_rfl)) (fun _ _ _ h => h) (Or.inl ⟨by rfl, ?_⟩) hHeld ?_ ?_; rotate_left 2; (· rintro w' ⟨s0, s1⟩; go_simp; with_reducible rfl); (· simp only [Act.put, List.setIfInBounds_toArray, List.set_cons_zero, List.set_cons_succ, i64_w, i32_w]; rfl)))
   refine planEnd_ ?_
   refine one_ (i := 7) (N := none) (bm 8 255) rfl rfl (one_of HT_.out (by kernel_rfl)) (by decide) (fun K hK => ?_)
   refine chi_store2 (g := gb101) rfl (by rfl) 109 (.tmp 2) (.tmp 43) rfl (.agg #[.int .i64 n, .string (strOfNums tx)]) (.int .i64 n) (.string (strOfNums tx)) rfl rfl rfl (by kernel_rfl) (by intro q hq; simp at hq; rcases hq with rfl | rfl <;> rfl) BK101.out (by decide) ?_
   refine hK.out _ _ ⟨(blk_cell (HH.out _ (below_set (below_set HB.out GE101.out) GE101.out)) 0).trans HC.out, HCV.out _ (Kd.R_mono (Kd.R_far (p := ⟨gb101, 1, none⟩) (Kd.R_far (p := ⟨gb101, 0, none⟩) (Kd.R_types HO_3.out BK101.out (by decide)) (fun _ hk => hk.2) _) (fun _ hk => hk.2) _) (fun _ _ => trivial))⟩ (fun hHeld => ?_)
   clear hK K
   refine done_ (done_of HT_.out (by kernel_rfl)) ?_
   clear HT_ HW_ hHeld
   go_wp2
   refine bodyPost_ret (results_cell_row rfl _ _ gb101 109 #[.int .i64 n, .string (strOfNums tx)] (0, 0) _ rfl (by refine blk_put (cs := #[.int .i64 n, .string (⟨#[]⟩ : ByteArray)]) ?_ 1 _ rfl; refine blk_put (cs := #[.int .i64 0, .string (⟨#[]⟩ : ByteArray)]) ?_ 0 _ rfl; exact BK101.out) Try.underlying109 rfl (by kernel_rfl)) rfl ?_
   exact ⟨by rw [HT.out, HE.out, List.take_length], below_set (below_set HB.out GE101.out) GE101.out⟩
def chiList (n : Int) : List S65 := (impl_triplesOf.f 300 n).getD []
theorem chi_list (n : Int) (h : 3 ≤ n ∧ n ≤ 7) : impl_triplesOf.f 300 n = some (chiList n) ∧ (chiList n).length ≤ 35 ∧ ∀ t ∈ chiList n, chiAsc t := by
 obtain ⟨h1, h2⟩ := h
 have hn : n = 3 ∨ n = 4 ∨ n = 5 ∨ n = 6 ∨ n = 7 := by omega
 have hd : ∀ l : List S65, l.all (fun t => decide (0 ≤ t.f0) && decide (t.f0 < t.f1) && decide (t.f1 < t.f2) && decide (t.f2 < 7)) = true → ∀ t ∈ l, chiAsc t := by
  intro l hl t ht
  have := List.all_eq_true.1 hl t ht
  simp only [Bool.and_eq_true, decide_eq_true_eq] at this
  exact ⟨this.1.1.1, this.1.1.2, this.1.2, this.2⟩
 rcases hn with rfl | rfl | rfl | rfl | rfl
 ·exact ⟨by kernel_rfl, of_decide_eq_true (by kernel_rfl), hd _ (by kernel_rfl)⟩
 ·exact ⟨by kernel_rfl, of_decide_eq_true (by kernel_rfl), hd _ (by kernel_rfl)⟩
 ·exact ⟨by kernel_rfl, of_decide_eq_true (by kernel_rfl), hd _ (by kernel_rfl)⟩
 ·exact ⟨by kernel_rfl, of_decide_eq_true (by kernel_rfl), hd _ (by kernel_rfl)⟩
 ·exact ⟨by kernel_rfl, of_decide_eq_true (by kernel_rfl), hd _ (by kernel_rfl)⟩
end Go.Proofs.Ytijgjpfbhbggdaa.P

namespace Go.Proofs.Ytijgjpfbhbggdaa.P
open Go.RowKit Go.Proofs.YtijgjpfbhbggdaaW.PrintWords Go.Proofs.YtijgjpfbhbggdaaW.PrintLast Go.Proofs.YtijgjpfbhbggdaaW.PrintMore
attribute [local go_sem] max2_int min2_int max_two min_two max_three min_three max_four min_four   -- for this text's walks alone
set_option linter.unusedVariables false
set_option linter.unusedSimpArgs false
/-! ### impl_tableOf: function 132 -/
def tabStep (s : ByteArray) (T : Nat → Int) (p : S65 × Nat) : Nat → Int := setT T p.1.f0 p.1.f1 p.1.f2 (if bt s (p.2 : Int) = 45 then -1 else 1)
def tabOf (s : ByteArray) (L : List S65) : Nat → Int := L.zipIdx.foldl (tabStep s) fun _ => 0
def impl_tableOf.f (a0_0 : Int) (a0_1 : ByteArray) : Option (Int × (Nat → Int)) := if (3 ≤ a0_0 ∧ a0_0 ≤ 7) ∧ (chiList a0_0).length ≤ a0_1.size then some (a0_0, tabOf a0_1 (chiList a0_0)) else none
theorem chi_zero_cells : Try.zeroCells141 = chiC 0 (fun _ => 0) := by kernel_rfl
theorem chiC_num (m n : Int) (T : Nat → Int) : (chiC m T).setIfInBounds 0 (.int .i64 n) = chiC n T := by
 apply Array.ext_getElem?
 intro q
 rw [Array.getElem?_setIfInBounds]
 by_cases h0 : 0 = q
 ·subst h0
  rw [if_pos rfl, if_pos (by rw [chiC_size]; omega), chiC_zero]
 ·rw [if_neg h0]
  obtain ⟨p, rfl⟩ : ∃ p, q = 1 + p := ⟨q - 1, by omega⟩
  by_cases hm : p < 343
  ·rw [chiC_at _ _ _ hm, chiC_at _ _ _ hm]
  ·rw [Array.getElem?_eq_none (by rw [chiC_size]; omega), Array.getElem?_eq_none (by rw [chiC_size]; omega)]
theorem chi_fresh (n : Int) : Try.zeroCells141.setIfInBounds 0 (.int .i64 n) = chiC n (fun _ => 0) := by rw [chi_zero_cells, chiC_num]
theorem zip_step {α : Type} (L : List α) (ix : Nat) (h : ix < L.length) : (L.take (ix + 1)).zipIdx = (L.take ix).zipIdx ++ [(L[ix], ix)] := by
 rw [List.take_add_one, List.getElem?_eq_getElem h, List.zipIdx_append]
 simp [Nat.min_eq_left (Nat.le_of_lt h)]
set_option maxHeartbeats 8000000 in
set_option maxRecDepth 100000 in
theorem impl_tableOf.calls (a0_0 : Int) (a0_1 : ByteArray) (r1 : Int) (r2 : Nat → Int) (w0 w : World) (hB : Below w0.heap.size w0 w) (h : impl_tableOf.f a0_0 a0_1 = some (r1, r2)) :
  Calls Try.prog 132 #[.agg #[.int .i64 a0_0, .string a0_1]] w fun e w' => ∃ g, e = .returned (.pointer (some ⟨g, 0, none⟩)) ∧ IsS141 w0 w' g r1 r2 ∧ Below w0.heap.size w0 w' ∧ Below w.heap.size w w' := by
 unfold impl_tableOf.f at h
 by_cases hc : (3 ≤ a0_0 ∧ a0_0 ≤ 7) ∧ (chiList a0_0).length ≤ a0_1.size
 case neg => rw [if_neg hc] at h; cases h
 rw [if_pos hc] at h
 simp only [Option.some.injEq, Prod.mk.injEq] at h
 obtain ⟨rfl, rfl⟩ := h
 suffices hs : Calls Try.prog 132 #[.agg #[.int .i64 a0_0, .string a0_1]] w fun e w' => ∃ g, e = .returned (.pointer (some ⟨g, 0, none⟩)) ∧ IsS141 w w' g a0_0 (tabOf a0_1 (chiList a0_0)) ∧ Below w.heap.size w w' by
  refine hs.mono ?_
  rintro e w' ⟨g, he, hi, hb⟩
  exact ⟨g, he, ⟨hi.1, Nat.le_trans hB.size hi.2⟩, below_step hB hb, hb⟩
 obtain ⟨h37, hsz⟩ := hc
 obtain ⟨hr, hlen, hasc⟩ := chi_list a0_0 h37
 have hu75 := Try.underlying65
 have hus := Try.underlying109
 have HR := aM_ hr
 have HSZ := aM_ hsz
 have HL := aM_ hlen
 have HA := aM_ hasc
 obtain ⟨gS, hgS⟩ : ∃ gS, w.heap.size = gS := ⟨_, rfl⟩
 have HGS := aM_ hgS
 clear h37 hB hr hsz hlen hasc
 go_enter Try.func132, Try.ntmps132
 go_wp2_with fail
 have hB0 := bA_ (bA_ (Below.refl w.heap.size w) (.cells #[.int .i64 a0_0, .string a0_1] 109)) (.cells (Try.zeroCells141.setIfInBounds 0 (.int .i64 a0_0)) 141)
 have hbs : ((w.alloc (.cells #[.int .i64 a0_0, .string a0_1] 109)).alloc (.cells (Try.zeroCells141.setIfInBounds 0 (.int .i64 a0_0)) 141)).heap[gS]? = some (.cells #[.int .i64 a0_0, .string a0_1] 109 (0, 0)) := by
  rw [← HGS.out]
  exact blk_alloc (blk_new w _) _
 have hsz1 : (w.alloc (.cells #[.int .i64 a0_0, .string a0_1] 109)).heap.size = gS + 1 := by rw [← HGS.out]; show (w.heap.push _).size = _; rw [Array.size_push]
 have hch : ((w.alloc (.cells #[.int .i64 a0_0, .string a0_1] 109)).alloc (.cells (Try.zeroCells141.setIfInBounds 0 (.int .i64 a0_0)) 141)).heap[gS + 1]? = some (.cells (chiC a0_0 (fun _ => 0)) 141 (0, 0)) := by
  rw [← hsz1, ← chi_fresh]
  exact blk_new (w.alloc (.cells #[.int .i64 a0_0, .string a0_1] 109)) _
 obtain ⟨g, hg⟩ : ∃ g, gS + 1 = g := ⟨_, rfl⟩
 rw [hg] at hch ⊢
 have HGG := aM_ (show gS ≠ g by omega)
 have HB := aM_ hB0
 have BS := aM_ hbs
 have HI0 := aM_ (show IsS141 w _ g a0_0 (fun _ => 0) from ⟨hch, by have := HGS.out; omega⟩)
 generalize (w.alloc (.cells #[.int .i64 a0_0, .string a0_1] 109)).alloc (.cells (Try.zeroCells141.setIfInBounds 0 (.int .i64 a0_0)) 141) = wC at HB BS HI0 ⊢
 clear hB0 hbs hsz1 hch hg
 (with_reducible refine (impl_triplesOf.calls 300 a0_0 (chiList a0_0) _ HR.out).mono ?_)
 rintro e w3 ⟨v102, rfl, ho0, hb⟩
 have HO_8 := aM_ (Kd.R_lower ho0 (below_size HB.out))
 have n1_ := aM_ (below_step HB.out hb)
 have n2_ := aM_ (blk_below BS.out hb)
 have n3_ := aM_ (HI0.out.below hb)
 clear HB BS HI0
 have HB := n1_
 have BS := n2_
 have HI0 := n3_
 clear n1_ n2_ n3_ hb ho0
 obtain ⟨Ao4, co4, eo4⟩ := Kd.R_slice HO_8.out
 subst eo4
 obtain ⟨r, hr⟩ : ∃ r, chiList a0_0 = r := ⟨_, rfl⟩
 have HRR := aM_ hr
 rw [hr] at HO_8 HL HA HSZ ⊢
 clear hr HR
 go_wp2
 go_loopg [15] r.length (fun kq v15 w' => ∃ (x : Int) (ix : Nat) (T : Nat → Int), v15 = .int .i64 x ∧ Aside0 (x = (ix : Int)) ∧ Aside0 (kq + ix = r.length) ∧ Aside0 (T = ((r.take ix).zipIdx).foldl (tabStep a0_1) (fun _ => 0)) ∧ Aside0 (IsS141 w w' g a0_0 T) ∧ Aside0 (w'.heap[gS]? = some (.cells #[.int .i64 a0_0, .string a0_1] 109 (0, 0))) ∧ Aside0 (Kd.R k65 65 w' w.heap.size (fun _ => True) (.slice Ao4 r.length co4) r) ∧ Aside0 (Below w.heap.size w w'))
 case atStart => exact ⟨0, 0, _, rfl, ⟨rfl⟩, ⟨rfl⟩, ⟨rfl⟩, HI0, BS, HO_8, HB⟩
 case round =>
  clear HI0 BS HO_8 HB
  obtain ⟨x, ix, T, rfl, HX, HK1, HT, HI0, BS, HO_8, HB⟩ := hrel
  by_cases c5 : x < (r.length : Int)
  ·have c5b0 : decide (x < (r.length : Int)) = true := decide_eq_true c5
   have hx := HX.out
   have p104 : 0 ≤ x := by omega
   have q104 := c5
   have hixn : ix < r.length := by omega
   have hrd : rd_T65 r x = r[ix] := by rw [hx]; simp [rd_T65, hixn]
   have HASC := aM_ (show chiAsc (rd_T65 r x) by rw [hrd]; exact HA.out _ (List.getElem_mem hixn))
   have HST := aM_ (show ((r.take (ix + 1)).zipIdx).foldl (tabStep a0_1) (fun _ => 0) = tabStep a0_1 (((r.take ix).zipIdx).foldl (tabStep a0_1) (fun _ => 0)) (rd_T65 r x, ix) by rw [zip_step _ _ hixn, List.foldl_append, hrd]; rfl)
   have HIX := aM_ hixn
   have HW : wrap64 (x + 1) = ((ix + 1 : Nat) : Int) := by have := HL.out; unfold wrap64; omega
   have HW := aM_ HW
   have qz0 : (x < (a0_1.size : Int)) = True := eq_true (by have := HSZ.out; omega)
   have hxz := bt_at a0_1 x
   clear c5 hrd hixn hx
   obtain ⟨ad104, e104, hx104_0, hx104_1, hx104_2⟩ := at_T65 (Kd.R_reads' HO_8.out).2.2 x p104 q104
   cases e104
   replace p104 := eq_true p104
   replace q104 := eq_true q104
   by_cases cv : bt a0_1 x = 45
   ·have HSG := aM_ (show (if bt a0_1 x = 45 then (-1 : Int) else 1) = (-1) by rw [if_pos cv])
    have cvb : ((bt a0_1 x) == 45) = true := beq_iff_eq.2 cv
    clear cv
    go_wp2_with (first | ((with_reducible refine gate_dst (N := 5) rfl ?_); refine box_event ?hg (N := 5) ?hd (cs := #[.int .i64 0, .int .i64 0, .int .i64 0]) (t := 65) ?hr ?_; (case hd => rfl); (case hg => rfl); (case hr => first | (go_simp; done) | (go_simp; rfl)); intro gb105 hg w8 hbox hb; have n1_ := aM_ (Kd.R_below (Kd.R_elderB (by (with_reducible repeat (first | apply kA_ | apply kN_ | apply kD_)); exact HO_8.out) gb105 (Nat.le_of_eq hg.symm)) hb); have n2_ := aM_ (below_step (by repeat (first | (with_reducible first | exact HB.out | apply bA_ | apply bN_ | apply bD_) | exact HB.out)) hb); have n3_ := aM_ (hbox); have n4_ := aM_ (show gb105 ≠ g by have := IsS141.lt HI0.out; rw [hg]; show _ ≠ g; exact Nat.ne_of_gt this); have n5_ := aM_ ((by rw [hg]; exact (below_size (by repeat (first | (with_reducible first | exact HB.out | apply bA_ | apply bN_ | apply bD_) | exact HB.out))) : w.heap.size ≤ gb105)); have n6_ := aM_ (HI0.out.below hb); have n7_ := aM_ (blk_below BS.out hb); have n8_ := aM_ (show gb105 ≠ gS by have := blk_lt BS.out; rw [hg]; show _ ≠ gS; exact Nat.ne_of_gt this); clear HO_8; clear HB; clear HI0 BS; have HO_8 := n1_; have HB := n2_; have BK105 := n3_; have GW105 := n4_; have GE105 := n5_; have HI0 := n6_; have BS := n7_; have GS105 := n8_; clear n1_ n2_ n3_ n4_ n5_ n6_ n7_ n8_; clear hb hbox hg; have hcz9_0 : w8.cell? ⟨gb105, 0, none⟩ = some (.int .i64 0) := (blk_cell BK105.out 0).trans rfl; have hcz9_1 : w8.cell? ⟨gb105, 1, none⟩ = some (.int .i64 0) := (blk_cell BK105.out 1).trans rfl; have hcz9_2 : w8.cell? ⟨gb105, 2, none⟩ = some (.int .i64 0) := (blk_cell BK105.out 2).trans rfl; have hfz9_0 := blk_frozen BK105.out 0; have hfz9_1 := blk_frozen BK105.out 1; have hfz9_2 := blk_frozen BK105.out 2; have hczS : (((w8.setCell ⟨gb105, 0, none⟩ (.int .i64 (rd_T65 r x).f0)).setCell ⟨gb105, 1, none⟩ (.int .i64 (rd_T65 r x).f1)).setCell ⟨gb105, 2, none⟩ (.int .i64 (rd_T65 r x).f2)).cell? ⟨gS, 1, none⟩ = some (.string a0_1) := (blk_cell (g := gS) (t := 109) (cs := #[.int .i64 a0_0, .string a0_1]) ((Below.heap_setCell _ _ _ _ (Ne.symm GS105.out)).trans ((Below.heap_setCell _ _ _ _ (Ne.symm GS105.out)).trans ((Below.heap_setCell _ _ _ _ (Ne.symm GS105.out)).trans BS.out))) 1).trans rfl) | (go_at_call 159; have hA := HASC.out; unfold chiAsc at hA; have hN := GW105.out; (with_reducible refine (chi_setT_calls w _ g a0_0 T (rd_T65 r x).f0 (rd_T65 r x).f1 (rd_T65 r x).f2 (-1) ?h1 ?h2 (by omega) (by omega) (by omega)).mono ?_); (case h1 => exact IsS141.far (IsS141.far (IsS141.far HI0.out (Ne.symm hN) _) (Ne.symm hN) _) (Ne.symm hN) _); (case h2 => exact (by repeat (first | (with_reducible first | exact HB.out | apply bA_ | apply bN_ | apply bD_ | refine below_set ?_ GE105.out) | exact HB.out))); rintro e' w10 ⟨rfl, hh1, hb1, hk1⟩))
    have HO9 := aM_ (Kd.R_keep (Kd.R_far (p := ⟨gb105, 2, none⟩) (Kd.R_far (p := ⟨gb105, 1, none⟩) (Kd.R_far (p := ⟨gb105, 0, none⟩) (Kd.R_types HO_8.out HI0.out.1 (by decide)) (fun _ hk => hk.1.2) (.int .i64 ((rd_T65 r x).f0))) (fun _ hk => hk.1.2) (.int .i64 ((rd_T65 r x).f1))) (fun _ hk => hk.1.2) (.int .i64 ((rd_T65 r x).f2))) hk1 (fun _ hk => hk.2))
    have HO9 := aM_ (Kd.R_mono (ok' := fun _ => True) HO9.out (fun _ _ => trivial))
    have HBS := aM_ (show w10.heap[gS]? = some (.cells #[.int .i64 a0_0, .string a0_1] 109 (0, 0)) from (hk1.2 gS (by have := blk_lt BS.out; simpa [World.setCell] using this) HGG.out (by simp)).trans ((Below.heap_setCell _ _ _ _ (Ne.symm GS105.out)).trans ((Below.heap_setCell _ _ _ _ (Ne.symm GS105.out)).trans ((Below.heap_setCell _ _ _ _ (Ne.symm GS105.out)).trans BS.out))))
    go_roundg (gk - 1)
    case measure => have := HK1.out; have := HIX.out; omega
    case rel => exact ⟨wrap64 (x + 1), ix + 1, _, (by first | rfl | (simp; done) | (rw [HW.out]; first | rfl | (simp; done))), ⟨HW.out⟩, ⟨by have := HK1.out; have := HIX.out; omega⟩, ⟨by rw [HST.out, HT.out, tabStep, ← HX.out, HSG.out]⟩, ⟨hh1⟩, HBS, HO9, ⟨hb1⟩⟩
   ·have HSG := aM_ (show (if bt a0_1 x = 45 then (-1 : Int) else 1) = 1 by rw [if_neg cv])
    have cvb : ((bt a0_1 x) == 45) = false := beq_eq_false_iff_ne.2 cv
    clear cv
    go_wp2_with (first | ((with_reducible refine gate_dst (N := 5) rfl ?_); refine box_event ?hg (N := 5) ?hd (cs := #[.int .i64 0, .int .i64 0, .int .i64 0]) (t := 65) ?hr ?_; (case hd => rfl); (case hg => rfl); (case hr => first | (go_simp; done) | (go_simp; rfl)); intro gb105 hg w8 hbox hb; have n1_ := aM_ (Kd.R_below (Kd.R_elderB (by (with_reducible repeat (first | apply kA_ | apply kN_ | apply kD_)); exact HO_8.out) gb105 (Nat.le_of_eq hg.symm)) hb); have n2_ := aM_ (below_step (by repeat (first | (with_reducible first | exact HB.out | apply bA_ | apply bN_ | apply bD_) | exact HB.out)) hb); have n3_ := aM_ (hbox); have n4_ := aM_ (show gb105 ≠ g by have := IsS141.lt HI0.out; rw [hg]; show _ ≠ g; exact Nat.ne_of_gt this); have n5_ := aM_ ((by rw [hg]; exact (below_size (by repeat (first | (with_reducible first | exact HB.out | apply bA_ | apply bN_ | apply bD_) | exact HB.out))) : w.heap.size ≤ gb105)); have n6_ := aM_ (HI0.out.below hb); have n7_ := aM_ (blk_below BS.out hb); have n8_ := aM_ (show gb105 ≠ gS by have := blk_lt BS.out; rw [hg]; show _ ≠ gS; exact Nat.ne_of_gt this); clear HO_8; clear HB; clear HI0 BS; have HO_8 := n1_; have HB := n2_; have BK105 := n3_; have GW105 := n4_; have GE105 := n5_; have HI0 := n6_; have BS := n7_; have GS105 := n8_; clear n1_ n2_ n3_ n4_ n5_ n6_ n7_ n8_; clear hb hbox hg; have hcz9_0 : w8.cell? ⟨gb105, 0, none⟩ = some (.int .i64 0) := (blk_cell BK105.out 0).trans rfl; have hcz9_1 : w8.cell? ⟨gb105, 1, none⟩ = some (.int .i64 0) := (blk_cell BK105.out 1).trans rfl; have hcz9_2 : w8.cell? ⟨gb105, 2, none⟩ = some (.int .i64 0) := (blk_cell BK105.out 2).trans rfl; have hfz9_0 := blk_frozen BK105.out 0; have hfz9_1 := blk_frozen BK105.out 1; have hfz9_2 := blk_frozen BK105.out 2; have hczS : (((w8.setCell ⟨gb105, 0, none⟩ (.int .i64 (rd_T65 r x).f0)).setCell ⟨gb105, 1, none⟩ (.int .i64 (rd_T65 r x).f1)).setCell ⟨gb105, 2, none⟩ (.int .i64 (rd_T65 r x).f2)).cell? ⟨gS, 1, none⟩ = some (.string a0_1) := (blk_cell (g := gS) (t := 109) (cs := #[.int .i64 a0_0, .string a0_1]) ((Below.heap_setCell _ _ _ _ (Ne.symm GS105.out)).trans ((Below.heap_setCell _ _ _ _ (Ne.symm GS105.out)).trans ((Below.heap_setCell _ _ _ _ (Ne.symm GS105.out)).trans BS.out))) 1).trans rfl) | (go_at_call 159; have hA := HASC.out; unfold chiAsc at hA; have hN := GW105.out; (with_reducible refine (chi_setT_calls w _ g a0_0 T (rd_T65 r x).f0 (rd_T65 r x).f1 (rd_T65 r x).f2 1 ?h1 ?h2 (by omega) (by omega) (by omega)).mono ?_); (case h1 => exact IsS141.far (IsS141.far (IsS141.far HI0.out (Ne.symm hN) _) (Ne.symm hN) _) (Ne.symm hN) _); (case h2 => exact (by repeat (first | (with_reducible first | exact HB.out | apply bA_ | apply bN_ | apply bD_ | refine below_set ?_ GE105.out) | exact HB.out))); rintro e' w10 ⟨rfl, hh1, hb1, hk1⟩))
    have HO9 := aM_ (Kd.R_keep (Kd.R_far (p := ⟨gb105, 2, none⟩) (Kd.R_far (p := ⟨gb105, 1, none⟩) (Kd.R_far (p := ⟨gb105, 0, none⟩) (Kd.R_types HO_8.out HI0.out.1 (by decide)) (fun _ hk => hk.1.2) (.int .i64 ((rd_T65 r x).f0))) (fun _ hk => hk.1.2) (.int .i64 ((rd_T65 r x).f1))) (fun _ hk => hk.1.2) (.int .i64 ((rd_T65 r x).f2))) hk1 (fun _ hk => hk.2))
    have HO9 := aM_ (Kd.R_mono (ok' := fun _ => True) HO9.out (fun _ _ => trivial))
    have HBS := aM_ (show w10.heap[gS]? = some (.cells #[.int .i64 a0_0, .string a0_1] 109 (0, 0)) from (hk1.2 gS (by have := blk_lt BS.out; simpa [World.setCell] using this) HGG.out (by simp)).trans ((Below.heap_setCell _ _ _ _ (Ne.symm GS105.out)).trans ((Below.heap_setCell _ _ _ _ (Ne.symm GS105.out)).trans ((Below.heap_setCell _ _ _ _ (Ne.symm GS105.out)).trans BS.out))))
    go_roundg (gk - 1)
    case measure => have := HK1.out; have := HIX.out; omega
    case rel => exact ⟨wrap64 (x + 1), ix + 1, _, (by first | rfl | (simp; done) | (rw [HW.out]; first | rfl | (simp; done))), ⟨HW.out⟩, ⟨by have := HK1.out; have := HIX.out; omega⟩, ⟨by rw [HST.out, HT.out, tabStep, ← HX.out, HSG.out]⟩, ⟨hh1⟩, HBS, HO9, ⟨hb1⟩⟩
  ·have c5b0 : decide (x < (r.length : Int)) = false := decide_eq_false c5
   have HE := aM_ (show ix = r.length by have := HK1.out; have := HX.out; omega)
   clear c5
   go_wp2
   first | go_ret | go_ret2 | go_end0
   exact ⟨g, rfl, by rw [HRR.out]; unfold tabOf; rw [show r.zipIdx = (r.take ix).zipIdx by rw [HE.out, List.take_length], ← HT.out]; exact HI0.out, HB.out⟩
end Go.Proofs.Ytijgjpfbhbggdaa.P

namespace Go.Proofs.Ytijgjpfbhbggdaa.P
open Go.RowKit Go.Proofs.YtijgjpfbhbggdaaW.PrintWords Go.Proofs.YtijgjpfbhbggdaaW.PrintLast Go.Proofs.YtijgjpfbhbggdaaW.PrintMore
attribute [local go_sem] max2_int min2_int max_two min_two max_three min_three max_four min_four   -- for this text's walks alone
set_option linter.unusedVariables false
set_option linter.unusedSimpArgs false
/-! ### impl_SignsOf: function 131 -/
theorem chi_list_lt (n : Int) (h : 3 ≤ n ∧ n ≤ 7) : ∀ t ∈ chiList n, t.f2 < n := by
 obtain ⟨h1, h2⟩ := h
 have hn : n = 3 ∨ n = 4 ∨ n = 5 ∨ n = 6 ∨ n = 7 := by omega
 have hd : ∀ (m : Int) (l : List S65), l.all (fun t => decide (t.f2 < m)) = true → ∀ t ∈ l, t.f2 < m := by
  intro m l hl t ht
  have := List.all_eq_true.1 hl t ht
  exact of_decide_eq_true this
 rcases hn with rfl | rfl | rfl | rfl | rfl <;> exact hd _ _ (by kernel_rfl)
def turnP (l : List S25) (t : S65) : Option Int := impl_TurnOf.f (rd_T25 l t.f0).f0 (rd_T25 l t.f0).f1 (rd_T25 l t.f1).f0 (rd_T25 l t.f1).f1 (rd_T25 l t.f2).f0 (rd_T25 l t.f2).f1
def turnStep (l : List S25) (T : Nat → Int) (t : S65) : Nat → Int := setT T t.f0 t.f1 t.f2 ((turnP l t).getD 0)
def turnTab (l : List S25) (L : List S65) : Nat → Int := L.foldl (turnStep l) fun _ => 0
def impl_SignsOf.f (k : Nat) (l0 : List S25) : Option (Int × ByteArray × Bool) := (impl_ArePoints.f k l0).bind fun ok => if ok = true then (if (3 ≤ (l0.length : Int) ∧ (l0.length : Int) ≤ 7) ∧ (∀ t ∈ chiList (l0.length : Int), (turnP l0 t).isSome = true) then some ((l0.length : Int), strOfNums ((chiList (l0.length : Int)).map (sgnB (turnTab l0 (chiList (l0.length : Int))))), true) else none) else some (0, (⟨#[]⟩ : ByteArray), false)
def impl_SignsOf.T7 : Bool × List (List Nat × List Nat) := (true, [([], []), ([], []), ([1], [1]), ([], []), ([3], [3]), ([], []), ([5], [5]), ([], []), ([], []), ([8], [8]), ([7, 9], [7, 9]), ([10], [10]), ([], []), ([], []), ([13], [13]), ([12, 14], [12, 14]), ([15], [15]), ([], []), ([], []), ([18], [18]), ([17, 19], [17, 19]), ([20], [20]), ([11, 16, 21], [11, 16, 21]), ([0, 2, 4, 6, 22, 22], [0, 2, 4, 6, 22])])
def impl_SignsOf.B7 : List Nat := [0, 0, 2, 0, 8, 0, 32, 0, 0, 256, 640, 1024, 0, 0, 8192, 20480, 32768, 0, 0, 262144, 655360, 1048576, 2164736, 4194389]
theorem impl_SignsOf.tab7 : rtab .any (opsOf Try.f131 7) = impl_SignsOf.T7 := by kernel_rfl
theorem impl_SignsOf.bits7 : waitsOk impl_SignsOf.T7.2 impl_SignsOf.B7 = true := by kernel_rfl
set_option maxHeartbeats 8000000 in
set_option maxRecDepth 100000 in
theorem impl_SignsOf.calls (k : Nat) (A0 : Option Addr) (c0 : Nat) (l0 : List S25) (r1 : Int) (r2 : ByteArray) (r3 : Bool) (w : World) (hr0 : Kd.C k25 w A0 l0.length l0) (hc0 : l0.length ≤ c0) (h : impl_SignsOf.f k l0 = some (r1, r2, r3)) :
  Calls Try.prog 131 #[.slice A0 l0.length c0] w fun e w' => e = .returned (.tuple #[.agg #[.int .i64 r1, .string r2], .bool r3]) ∧ Below w.heap.size w w' := by
 have hu65 := Try.underlying65
 have hu25 := Try.underlying25
 have hus := Try.underlying109
 have HR0 := aM_ hr0
 have HC0 := aM_ hc0
 clear hr0 hc0
 have HB := aM_ (Below.refl w.heap.size w)
 unfold impl_SignsOf.f at h
 obtain ⟨ok, hA, h⟩ := oB_ h
 have HA := aM_ hA
 clear hA
 cases ok
 case false =>
  rw [if_neg (by decide)] at h
  simp only [Option.some.injEq, Prod.mk.injEq] at h
  obtain ⟨rfl, rfl, rfl⟩ := h
  go_enter Try.func131, Try.ntmps131
  go_wp2_with (first | ((with_reducible refine gate_dst (N := 2) rfl ?_); refine box_event ?hg (N := 2) ?hd (cs := #[.int .i64 0, .string (⟨#[]⟩ : ByteArray)]) (t := 109) ?hr ?_; (case hd => rfl); (case hg => rfl); (case hr => first | (go_simp; done) | (go_simp; rfl)); intro gb101 hg w4 hbox hb; have n0_ := aM_ (below_step (by repeat (first | (with_reducible first | exact HB.out | apply bA_ | apply bN_ | apply bD_) | exact HB.out)) hb); have n1_ := aM_ (hbox); have n3_ := aM_ ((by rw [hg]; exact (below_size (by repeat (first | (with_reducible first | exact HB.out | apply bA_ | apply bN_ | apply bD_) | exact HB.out))) : w.heap.size ≤ gb101)); clear HB; have HB := n0_; have BK101 := n1_; have GE101 := n3_; clear n0_ n1_ n3_; clear hb hbox hg) | (go_at_call 56; (with_reducible refine (impl_ArePoints.calls k A0 c0 l0 false _ ?side1 HC0.out HA.out).mono ?_); (case side1 => repeat (first | exact (Kd.C_below HR0.out HB.out) | (with_reducible refine Kd.C_alloc ?_ _) | (with_reducible refine Kd.C_drewN ?_ _) | (with_reducible refine Kd.C_drew ?_))); rintro e w6 ⟨rfl, hb⟩; have n0_ := aM_ (below_step (by repeat (first | (with_reducible first | exact HB.out | apply bA_ | apply bN_ | apply bD_) | exact HB.out)) hb); have n1_ := aM_ (blk_below (g := gb101) (o := .cells #[.int .i64 0, .string (⟨#[]⟩ : ByteArray)] 109 (0, 0)) BK101.out hb); clear HB BK101; have HB := n0_; have BK101 := n1_; clear n0_ n1_ hb; have hcz14_0 : w6.cell? ⟨gb101, 0, none⟩ = some (.int .i64 0) := (blk_cell BK101.out 0).trans rfl; have hcz14_1 : w6.cell? ⟨gb101, 1, none⟩ = some (.string (⟨#[]⟩ : ByteArray)) := (blk_cell BK101.out 1).trans rfl; have hfz14_0 := blk_frozen BK101.out 0; have hfz14_1 := blk_frozen BK101.out 1))
  refine bodyPost_ret (results_ct rfl _ _ gb101 109 #[.int .i64 0, .string (⟨#[]⟩ : ByteArray)] (0, 0) _ rfl (by (with_reducible repeat (first | refine blk_drewN ?_ _ | refine blk_drew ?_ | refine blk_alloc ?_ _)); refine blk_put (cs := #[.int .i64 0, .string (⟨#[]⟩ : ByteArray)]) ?_ 1 _ rfl; (with_reducible repeat (first | refine blk_drewN ?_ _ | refine blk_drew ?_ | refine blk_alloc ?_ _)); refine blk_put (cs := #[.int .i64 0, .string (⟨#[]⟩ : ByteArray)]) ?_ 0 _ rfl; (with_reducible repeat (first | refine blk_drewN ?_ _ | refine blk_drew ?_ | refine blk_alloc ?_ _)); exact BK101.out) Try.underlying109 rfl (by kernel_rfl)) rfl ?_
  exact ⟨by first | rfl | (simp [errW_none, errW_some] <;> rfl) | (simp [*, errW_none, errW_some] <;> rfl), by repeat (first | (with_reducible first | exact HB.out | apply bA_ | apply bN_ | apply bD_ | refine below_set ?_ GE101.out) | exact HB.out)⟩
 rw [if_pos rfl] at h
 by_cases hc : (3 ≤ (l0.length : Int) ∧ (l0.length : Int) ≤ 7) ∧ (∀ t ∈ chiList (l0.length : Int), (turnP l0 t).isSome = true)
 case neg => rw [if_neg hc] at h; cases h
 rw [if_pos hc] at h
 simp only [Option.some.injEq, Prod.mk.injEq] at h
 obtain ⟨rfl, rfl, rfl⟩ := h
 obtain ⟨hR, hL, hS⟩ := chi_list _ hc.1
 have HR := aM_ hR
 have HL := aM_ hL
 have HAS := aM_ hS
 have HLL := aM_ (chi_list_lt _ hc.1)
 have HSO := aM_ hc.2
 clear hR hL hS hc
 go_enter Try.func131, Try.ntmps131
 go_wp2_with (first | ((with_reducible refine gate_dst (N := 2) rfl ?_); refine box_event ?hg (N := 2) ?hd (cs := #[.int .i64 0, .string (⟨#[]⟩ : ByteArray)]) (t := 109) ?hr ?_; (case hd => rfl); (case hg => rfl); (case hr => first | (go_simp; done) | (go_simp; rfl)); intro gb101 hg w4 hbox hb; have n0_ := aM_ (below_step (by repeat (first | (with_reducible first | exact HB.out | apply bA_ | apply bN_ | apply bD_) | exact HB.out)) hb); have n1_ := aM_ (hbox); have n3_ := aM_ ((by rw [hg]; exact (below_size (by repeat (first | (with_reducible first | exact HB.out | apply bA_ | apply bN_ | apply bD_) | exact HB.out))) : w.heap.size ≤ gb101)); clear HB; have HB := n0_; have BK101 := n1_; have GE101 := n3_; clear n0_ n1_ n3_; clear hb hbox hg) | (go_at_call 56; (with_reducible refine (impl_ArePoints.calls k A0 c0 l0 true _ ?side1 HC0.out HA.out).mono ?_); (case side1 => repeat (first | exact (Kd.C_below HR0.out HB.out) | (with_reducible refine Kd.C_alloc ?_ _) | (with_reducible refine Kd.C_drewN ?_ _) | (with_reducible refine Kd.C_drew ?_))); rintro e w6 ⟨rfl, hb⟩; have n0_ := aM_ (below_step (by repeat (first | (with_reducible first | exact HB.out | apply bA_ | apply bN_ | apply bD_) | exact HB.out)) hb); have n1_ := aM_ (blk_below (g := gb101) (o := .cells #[.int .i64 0, .string (⟨#[]⟩ : ByteArray)] 109 (0, 0)) BK101.out hb); clear HB BK101; have HB := n0_; have BK101 := n1_; clear n0_ n1_ hb))
 have hch : (w6.alloc (.cells (Try.zeroCells141.setIfInBounds 0 (.int .i64 (l0.length : Int))) 141)).heap[w6.heap.size]? = some (.cells (chiC (l0.length : Int) (fun _ => 0)) 141 (0, 0)) := by
  rw [← chi_fresh]
  exact blk_new w6 _
 obtain ⟨g, hg⟩ : ∃ g, w6.heap.size = g := ⟨_, rfl⟩
 have HGG := aM_ (show gb101 ≠ g by have := blk_lt BK101.out; rw [← hg]; exact Nat.ne_of_lt this)
 have hgw : w.heap.size ≤ g := by rw [← hg]; exact below_size HB.out
 rw [hg] at hch ⊢
 have n1_ := aM_ (bA_ HB.out (.cells (Try.zeroCells141.setIfInBounds 0 (.int .i64 (l0.length : Int))) 141))
 have n2_ := aM_ (blk_alloc BK101.out (.cells (Try.zeroCells141.setIfInBounds 0 (.int .i64 (l0.length : Int))) 141))
 have HI0 := aM_ (show IsS141 w _ g (l0.length : Int) (fun _ => 0) from ⟨hch, hgw⟩)
 clear HB BK101 hch hgw hg
 have HB := n1_
 have BK101 := n2_
 clear n1_ n2_
 generalize w6.alloc (.cells (Try.zeroCells141.setIfInBounds 0 (.int .i64 (l0.length : Int))) 141) = wC at HB BK101 HI0 ⊢
 (with_reducible refine (impl_triplesOf.calls 300 (l0.length : Int) (chiList (l0.length : Int)) _ HR.out).mono ?_)
 rintro e w3 ⟨v102, rfl, ho0, hb⟩
 have HO_8 := aM_ (Kd.R_lower ho0 (below_size HB.out))
 have n1_ := aM_ (below_step HB.out hb)
 have n2_ := aM_ (blk_below BK101.out hb)
 have n3_ := aM_ (HI0.out.below hb)
 clear HB BK101 HI0
 have HB := n1_
 have BK101 := n2_
 have HI0 := n3_
 clear n1_ n2_ n3_ hb ho0
 obtain ⟨Ao4, co4, eo4⟩ := Kd.R_slice HO_8.out
 subst eo4
 obtain ⟨r, hr⟩ : ∃ r, chiList (l0.length : Int) = r := ⟨_, rfl⟩
 have HRR := aM_ hr
 rw [hr] at HO_8 HL HAS HLL HSO ⊢
 clear hr
 go_wp2
 go_loopg [21] r.length (fun kq v21 w' => ∃ (x : Int) (ix : Nat) (T : Nat → Int), v21 = .int .i64 x ∧ Aside0 (x = (ix : Int)) ∧ Aside0 (kq + ix = r.length) ∧ Aside0 (T = (r.take ix).foldl (turnStep l0) (fun _ => 0)) ∧ Aside0 (IsS141 w w' g (l0.length : Int) T) ∧ Aside0 (w'.heap[gb101]? = some (.cells #[.int .i64 0, .string (⟨#[]⟩ : ByteArray)] 109 (0, 0))) ∧ Aside0 (Kd.R k65 65 w' w.heap.size (fun _ => True) (.slice Ao4 r.length co4) r) ∧ Aside0 (Below w.heap.size w w'))
 case atStart => exact ⟨0, 0, _, rfl, ⟨rfl⟩, ⟨rfl⟩, ⟨rfl⟩, HI0, BK101, HO_8, HB⟩
 case round =>
  clear HI0 BK101 HO_8 HB
  obtain ⟨x, ix, T, rfl, HX, HK1, HT, HI0, BK101, HO_8, HB⟩ := hrel
  by_cases c5 : x < (r.length : Int)
  ·have c5b0 : decide (x < (r.length : Int)) = true := decide_eq_true c5
   have hx := HX.out
   have p104 : 0 ≤ x := by omega
   have q104 := c5
   have hixn : ix < r.length := by omega
   have hrd : rd_T65 r x = r[ix] := by rw [hx]; simp [rd_T65, hixn]
   have HASC := aM_ (show chiAsc (rd_T65 r x) by rw [hrd]; exact HAS.out _ (List.getElem_mem hixn))
   have HLT := aM_ (show (rd_T65 r x).f2 < (l0.length : Int) by rw [hrd]; exact HLL.out _ (List.getElem_mem hixn))
   obtain ⟨v, hv⟩ := Option.isSome_iff_exists.1 (show (turnP l0 (rd_T65 r x)).isSome = true by rw [hrd]; exact HSO.out _ (List.getElem_mem hixn))
   have HST := aM_ (show (r.take (ix + 1)).foldl (turnStep l0) (fun _ => 0) = setT ((r.take ix).foldl (turnStep l0) (fun _ => 0)) ((rd_T65 r x).f0) ((rd_T65 r x).f1) ((rd_T65 r x).f2) v by rw [List.take_add_one, List.getElem?_eq_getElem hixn, List.foldl_append, ← hrd]; show turnStep l0 _ _ = _; rw [turnStep, hv]; rfl)
   have HV := aM_ (show impl_TurnOf.f (rd_T25 l0 ((rd_T65 r x).f0)).f0 (rd_T25 l0 ((rd_T65 r x).f0)).f1 (rd_T25 l0 ((rd_T65 r x).f1)).f0 (rd_T25 l0 ((rd_T65 r x).f1)).f1 (rd_T25 l0 ((rd_T65 r x).f2)).f0 (rd_T25 l0 ((rd_T65 r x).f2)).f1 = some v from hv)
   have HIX := aM_ hixn
   have HW : wrap64 (x + 1) = ((ix + 1 : Nat) : Int) := by have := HL.out; unfold wrap64; omega
   have HW := aM_ HW
   clear c5 hrd hixn hx hv
   obtain ⟨ad104, e104, hx104_0, hx104_1, hx104_2⟩ := at_T65 (Kd.R_reads' HO_8.out).2.2 x p104 q104
   cases e104
   replace p104 := eq_true p104
   replace q104 := eq_true q104
   try go_wp2_with (first | ((with_reducible refine gate_dst (N := 6) rfl ?_); refine box_event ?hg (N := 6) ?hd (cs := #[.int .i64 0, .int .i64 0, .int .i64 0]) (t := 65) ?hr ?_; (case hd => rfl); (case hg => rfl); (case hr => first | (go_simp; done) | (go_simp; rfl)); intro gb106 hg w22 hbox hb; have n0_ := aM_ (Kd.R_below (Kd.R_elderB (by (with_reducible repeat (first | apply kA_ | apply kN_ | apply kD_)); exact HO_8.out) gb106 (Nat.le_of_eq hg.symm)) hb); have n1_ := aM_ (below_step (by repeat (first | (with_reducible first | exact HB.out | apply bA_ | apply bN_ | apply bD_) | exact HB.out)) hb); have n2_ := aM_ (hbox); have n3_ := aM_ (show gb106 ≠ g by have := IsS141.lt HI0.out; rw [hg]; show _ ≠ g; exact Nat.ne_of_gt this); have n4_ := aM_ ((by rw [hg]; exact (below_size (by repeat (first | (with_reducible first | exact HB.out | apply bA_ | apply bN_ | apply bD_) | exact HB.out))) : w.heap.size ≤ gb106)); have n5_ := aM_ (HI0.out.below hb); have n6_ := aM_ (blk_below (g := gb101) (o := .cells #[.int .i64 0, .string (⟨#[]⟩ : ByteArray)] 109 (0, 0)) BK101.out hb); have n7_ := aM_ (show gb106 ≠ gb101 by have := blk_lt BK101.out; rw [hg]; show _ ≠ gb101; exact Nat.ne_of_gt this); clear HO_8 HB HI0 BK101; have HO_8 := n0_; have HB := n1_; have BK106 := n2_; have GW106 := n3_; have GE106 := n4_; have HI0 := n5_; have BK101 := n6_; have GS106 := n7_; clear n0_ n1_ n2_ n3_ n4_ n5_ n6_ n7_; clear hb hbox hg; have hcz23_0 : w22.cell? ⟨gb106, 0, none⟩ = some (.int .i64 0) := (blk_cell BK106.out 0).trans rfl; have hcz23_1 : w22.cell? ⟨gb106, 1, none⟩ = some (.int .i64 0) := (blk_cell BK106.out 1).trans rfl; have hcz23_2 : w22.cell? ⟨gb106, 2, none⟩ = some (.int .i64 0) := (blk_cell BK106.out 2).trans rfl; have hfz23_0 := blk_frozen BK106.out 0; have hfz23_1 := blk_frozen BK106.out 1; have hfz23_2 := blk_frozen BK106.out 2))
   have n0_ : Aside0 (Kd.R k65 65 (((w22.setCell ⟨gb106, 0, none⟩ (.int .i64 ((rd_T65 r x).f0))).setCell ⟨gb106, 1, none⟩ (.int .i64 ((rd_T65 r x).f1))).setCell ⟨gb106, 2, none⟩ (.int .i64 ((rd_T65 r x).f2))) w.heap.size (fun k_ => (True ∧ k_ ≠ gb106) ∧ k_ ≠ g) (.slice (some ad104) r.length co4) r) := ⟨Kd.R_mono (Kd.R_far (p := ⟨gb106, 2, none⟩) (Kd.R_far (p := ⟨gb106, 1, none⟩) (Kd.R_far (p := ⟨gb106, 0, none⟩) (Kd.R_types HO_8.out HI0.out.1 (by decide)) (fun _ hk => hk.1.2) (.int .i64 ((rd_T65 r x).f0))) (fun _ hk => hk.1.2) (.int .i64 ((rd_T65 r x).f1))) (fun _ hk => hk.1.2) (.int .i64 ((rd_T65 r x).f2))) (fun _ hk => hk)⟩
   have n1_ : Aside0 ((((w22.setCell ⟨gb106, 0, none⟩ (.int .i64 ((rd_T65 r x).f0))).setCell ⟨gb106, 1, none⟩ (.int .i64 ((rd_T65 r x).f1))).setCell ⟨gb106, 2, none⟩ (.int .i64 ((rd_T65 r x).f2))).heap[gb106]? = some (.cells #[.int .i64 ((rd_T65 r x).f0), .int .i64 ((rd_T65 r x).f1), .int .i64 ((rd_T65 r x).f2)] 65 (0, 0))) := ⟨by refine blk_put (cs := #[.int .i64 ((rd_T65 r x).f0), .int .i64 ((rd_T65 r x).f1), .int .i64 0]) ?_ 2 _ rfl; refine blk_put (cs := #[.int .i64 ((rd_T65 r x).f0), .int .i64 0, .int .i64 0]) ?_ 1 _ rfl; refine blk_put (cs := #[.int .i64 0, .int .i64 0, .int .i64 0]) ?_ 0 _ rfl; exact BK106.out⟩
   have n2_ : Aside0 (Below w.heap.size w (((w22.setCell ⟨gb106, 0, none⟩ (.int .i64 ((rd_T65 r x).f0))).setCell ⟨gb106, 1, none⟩ (.int .i64 ((rd_T65 r x).f1))).setCell ⟨gb106, 2, none⟩ (.int .i64 ((rd_T65 r x).f2)))) := ⟨by repeat (first | (with_reducible first | exact HB.out | refine below_set ?_ GE106.out) | exact HB.out)⟩
   have n3_ : Aside0 (IsS141 w (((w22.setCell ⟨gb106, 0, none⟩ (.int .i64 ((rd_T65 r x).f0))).setCell ⟨gb106, 1, none⟩ (.int .i64 ((rd_T65 r x).f1))).setCell ⟨gb106, 2, none⟩ (.int .i64 ((rd_T65 r x).f2))) g (l0.length : Int) T) := ⟨IsS141.far (IsS141.far (IsS141.far HI0.out (Ne.symm GW106.out) _) (Ne.symm GW106.out) _) (Ne.symm GW106.out) _⟩
   have n4_ : Aside0 ((((w22.setCell ⟨gb106, 0, none⟩ (.int .i64 ((rd_T65 r x).f0))).setCell ⟨gb106, 1, none⟩ (.int .i64 ((rd_T65 r x).f1))).setCell ⟨gb106, 2, none⟩ (.int .i64 ((rd_T65 r x).f2))).heap[gb101]? = some (.cells #[.int .i64 0, .string (⟨#[]⟩ : ByteArray)] 109 (0, 0))) := ⟨(Below.heap_setCell _ _ _ _ (Ne.symm GS106.out)).trans ((Below.heap_setCell _ _ _ _ (Ne.symm GS106.out)).trans ((Below.heap_setCell _ _ _ _ (Ne.symm GS106.out)).trans BK101.out))⟩
   clear HO_8 BK106 HB HI0 BK101
   generalize (((w22.setCell ⟨gb106, 0, none⟩ (.int .i64 ((rd_T65 r x).f0))).setCell ⟨gb106, 1, none⟩ (.int .i64 ((rd_T65 r x).f1))).setCell ⟨gb106, 2, none⟩ (.int .i64 ((rd_T65 r x).f2))) = w24 at n0_ n1_ n2_ n3_ n4_ ⊢
   have HO_8 := aM_ (kD_ n0_.out)
   have BK106 := aM_ (blk_drew n1_.out)
   have HB := aM_ (bD_ n2_.out)
   have HI0 := aM_ n3_.out.drew
   have BK101 := aM_ (blk_drew n4_.out)
   clear n0_ n1_ n2_ n3_ n4_
   have p107 : 0 ≤ ((rd_T65 r x).f0) := by have := HASC.out; unfold chiAsc at this; omega
   have q107 : ((rd_T65 r x).f0) < (l0.length : Int) := by have := HASC.out; have := HLT.out; unfold chiAsc at *; omega
   obtain ⟨ad107, e107, hx107_0, hx107_1⟩ := at_T25 HR0.out ((rd_T65 r x).f0) p107 q107
   have hw107_1 := hx107_1
   have hw107_0 := hx107_0
   cases e107
   replace hx107_0 := (HB.out.cell (World.block_lt_of_cell? w _ hx107_0)).trans hx107_0
   replace hx107_1 := (HB.out.cell (World.block_lt_of_cell? w _ hx107_1)).trans hx107_1
   replace p107 := eq_true p107
   replace q107 := eq_true q107
   have p108 : 0 ≤ ((rd_T65 r x).f1) := by have := HASC.out; unfold chiAsc at this; omega
   have q108 : ((rd_T65 r x).f1) < (l0.length : Int) := by have := HASC.out; have := HLT.out; unfold chiAsc at *; omega
   obtain ⟨ad108, e108, hx108_0, hx108_1⟩ := at_T25 HR0.out ((rd_T65 r x).f1) p108 q108
   have hw108_1 := hx108_1
   have hw108_0 := hx108_0
   obtain rfl : ad107 = ad108 := (by injection e108)
   replace hx108_0 := (HB.out.cell (World.block_lt_of_cell? w _ hx108_0)).trans hx108_0
   replace hx108_1 := (HB.out.cell (World.block_lt_of_cell? w _ hx108_1)).trans hx108_1
   replace p108 := eq_true p108
   replace q108 := eq_true q108
   have p109 : 0 ≤ ((rd_T65 r x).f2) := by have := HASC.out; unfold chiAsc at this; omega
   have q109 : ((rd_T65 r x).f2) < (l0.length : Int) := by have := HASC.out; have := HLT.out; unfold chiAsc at *; omega
   obtain ⟨ad109, e109, hx109_0, hx109_1⟩ := at_T25 HR0.out ((rd_T65 r x).f2) p109 q109
   have hw109_1 := hx109_1
   have hw109_0 := hx109_0
   obtain rfl : ad107 = ad109 := (by injection e109)
   replace hx109_0 := (HB.out.cell (World.block_lt_of_cell? w _ hx109_0)).trans hx109_0
   replace hx109_1 := (HB.out.cell (World.block_lt_of_cell? w _ hx109_1)).trans hx109_1
   replace p109 := eq_true p109
   replace q109 := eq_true q109
   refine start_ (n := 24) (S := fun w' => w'.cell? ⟨gb106, 0, none⟩ = some (.int .i64 ((rd_T65 r x).f0)) ∧ w'.cell? ⟨gb106, 1, none⟩ = some (.int .i64 ((rd_T65 r x).f1)) ∧ w'.cell? ⟨gb106, 2, none⟩ = some (.int .i64 ((rd_T65 r x).f2)) ∧ w'.cell? (ad107.add (((rd_T65 r x).f0).toNat * 2)) = some (.int .i64 (rd_T25 l0 ((rd_T65 r x).f0)).f0) ∧ w'.cell? ⟨(ad107.add (((rd_T65 r x).f0).toNat * 2)).block, (ad107.add (((rd_T65 r x).f0).toNat * 2)).off + 1, none⟩ = some (.int .i64 (rd_T25 l0 ((rd_T65 r x).f0)).f1) ∧ w'.cell? (ad107.add (((rd_T65 r x).f1).toNat * 2)) = some (.int .i64 (rd_T25 l0 ((rd_T65 r x).f1)).f0) ∧ w'.cell? ⟨(ad107.add (((rd_T65 r x).f1).toNat * 2)).block, (ad107.add (((rd_T65 r x).f1).toNat * 2)).off + 1, none⟩ = some (.int .i64 (rd_T25 l0 ((rd_T65 r x).f1)).f1) ∧ w'.cell? (ad107.add (((rd_T65 r x).f2).toNat * 2)) = some (.int .i64 (rd_T25 l0 ((rd_T65 r x).f2)).f0) ∧ w'.cell? ⟨(ad107.add (((rd_T65 r x).f2).toNat * 2)).block, (ad107.add (((rd_T65 r x).f2).toNat * 2)).off + 1, none⟩ = some (.int .i64 (rd_T25 l0 ((rd_T65 r x).f2)).f1)) (ds := []) (bm 24 0) (by kernel_rfl) rfl rfl ⟨(blk_cell BK106.out 0).trans rfl, (blk_cell BK106.out 1).trans rfl, (blk_cell BK106.out 2).trans rfl, ((HB.out.cell (World.block_lt_of_cell? w _ hw107_0)).trans hw107_0), ((HB.out.cell (World.block_lt_of_cell? w _ hw107_1)).trans hw107_1), ((HB.out.cell (World.block_lt_of_cell? w _ hw108_0)).trans hw108_0), ((HB.out.cell (World.block_lt_of_cell? w _ hw108_1)).trans hw108_1), ((HB.out.cell (World.block_lt_of_cell? w _ hw109_0)).trans hw109_0), ((HB.out.cell (World.block_lt_of_cell? w _ hw109_1)).trans hw109_1)⟩ (fun hHeld => ?_); refine with_tabW impl_SignsOf.tab7 impl_SignsOf.bits7 (fun HT_ HW_ => ?_)
   generalize w24.drew = w30 at HO_8 BK106 HB HI0 BK101 hx107_0 hx107_1 hx108_0 hx108_1 hx109_0 hx109_1 hHeld ⊢
   refine plan_ ((0, 0, 25, 1) :: (0, 1, 26, 3) :: (2, 2, 27, 7) :: (0, 3, 28, 15) :: (2, 4, 29, 31) :: (0, 5, 30, 63) :: (2, 6, 31, 127) :: (0, 7, 32, 255) :: (0, 8, 33, 511) :: (2, 9, 34, 1023) :: (0, 10, 35, 2047) :: (2, 11, 36, 4095) :: (0, 12, 37, 8191) :: (0, 13, 38, 16383) :: (2, 14, 39, 32767) :: (0, 15, 40, 65535) :: (2, 16, 41, 131071) :: (0, 17, 42, 262143) :: (0, 18, 43, 524287) :: (2, 19, 44, 1048575) :: (0, 20, 45, 2097151) :: (2, 21, 46, 4194303) :: []) ?_
   iterate 22 (first | (refine planV_ ?_ ?_ rfl rfl (any_of HT_.out (by kernel_rfl)) (fun _ _ _ h => h) (Or.inl ⟨by rfl, ?_⟩) ?_ ?_; rotate_left 2; (· intro w'; go_simp; with_reducible rfl); (· simp only [Act.put, List.setIfInBounds_toArray, List.set_cons_zero, List.set_cons_succ, i64_w, i32_w]; rfl)) | (refine planT_ ?_ ?_ rfl rfl (take_ofW HT_.out HW_.out (by kernel_rfl)) (fun _ _ _ h => h) (Or.inl ⟨by rfl, ?_⟩) hHeld ?_ ?_; rotate_left 2; (· rintro w' ⟨s0, s1, s2, s3, s4, s5, s6, s7, s8⟩; go_simp; with_reducible rfl); (· simp only [Act.put, List.setIfInBounds_toArray, List.set_cons_zero, List.set_cons_succ, i64_w, i32_w]; rfl)))
   refine planEnd_ ?_
   refine one_ (i := 22) (N := some 47) (bm 24 8388607) rfl rfl (one_of HT_.out (by kernel_rfl)) (by decide) (fun K hK => ?_)
   refine goes_ Try.func105 (by kernel_rfl) rfl #[.agg #[.int .i64 (rd_T25 l0 ((rd_T65 r x).f0)).f0, .int .i64 (rd_T25 l0 ((rd_T65 r x).f0)).f1], .agg #[.int .i64 (rd_T25 l0 ((rd_T65 r x).f1)).f0, .int .i64 (rd_T25 l0 ((rd_T65 r x).f1)).f1], .agg #[.int .i64 (rd_T25 l0 ((rd_T65 r x).f2)).f0, .int .i64 (rd_T25 l0 ((rd_T65 r x).f2)).f1]] (by rfl) rfl rfl (by (try simp only [List.map_toArray, List.map_cons, List.map_nil]); first | done | rfl) ?_
   with_reducible refine (impl_TurnOf.calls ((rd_T25 l0 ((rd_T65 r x).f0)).f0) ((rd_T25 l0 ((rd_T65 r x).f0)).f1) ((rd_T25 l0 ((rd_T65 r x).f1)).f0) ((rd_T25 l0 ((rd_T65 r x).f1)).f1) ((rd_T25 l0 ((rd_T65 r x).f2)).f0) ((rd_T25 l0 ((rd_T65 r x).f2)).f1) v _ HV.out).mono ?_
   rintro e w31 ⟨rfl, hb⟩
   refine ⟨_, rfl, ?_⟩
   have n0_ := aM_ (Kd.R_below HO_8.out hb)
   have n1_ := aM_ (blk_below (g := gb106) (o := .cells #[.int .i64 ((rd_T65 r x).f0), .int .i64 ((rd_T65 r x).f1), .int .i64 ((rd_T65 r x).f2)] 65 (0, 0)) BK106.out hb)
   have n2_ := aM_ (below_step HB.out hb)
   have n3_ := aM_ (HI0.out.below hb)
   have n4_ := aM_ (blk_below (g := gb101) (o := .cells #[.int .i64 0, .string (⟨#[]⟩ : ByteArray)] 109 (0, 0)) BK101.out hb)
   clear HO_8 BK106 HB HI0 BK101
   have HO_8 := n0_
   have BK106 := n1_
   have HB := n2_
   have HI0 := n3_
   have BK101 := n4_
   clear n0_ n1_ n2_ n3_ n4_ hb
   refine hK.out _ _ ⟨(blk_cell BK106.out 0).trans rfl, (blk_cell BK106.out 1).trans rfl, (blk_cell BK106.out 2).trans rfl, ((HB.out.cell (World.block_lt_of_cell? w _ hw107_0)).trans hw107_0), ((HB.out.cell (World.block_lt_of_cell? w _ hw107_1)).trans hw107_1), ((HB.out.cell (World.block_lt_of_cell? w _ hw108_0)).trans hw108_0), ((HB.out.cell (World.block_lt_of_cell? w _ hw108_1)).trans hw108_1), ((HB.out.cell (World.block_lt_of_cell? w _ hw109_0)).trans hw109_0), ((HB.out.cell (World.block_lt_of_cell? w _ hw109_1)).trans hw109_1)⟩ (fun hHeld => ?_)
   clear hK K
   refine norm_ (a' := ?_) ?_ ?_
   rotate_left
   ·show Act.put _ (some 47) _ = _
    simp only [Act.put, List.setIfInBounds_toArray, List.set_cons_zero, List.set_cons_succ, i64_w, i32_w]
    rfl
   refine one_ (i := 23) (N := some 48) (bm 24 16777215) rfl rfl (one_of HT_.out (by kernel_rfl)) (by decide) (fun K hK => ?_)
   refine goes_ Try.func159 (by kernel_rfl) rfl #[.pointer (some ⟨g, 0, none⟩), .int .i64 ((rd_T65 r x).f0), .int .i64 ((rd_T65 r x).f1), .int .i64 ((rd_T65 r x).f2), .int .i64 v] (by rfl) rfl rfl (by (try simp only [List.map_toArray, List.map_cons, List.map_nil]); first | done | rfl) ?_
   have hA := HASC.out
   unfold chiAsc at hA
   (with_reducible refine (chi_setT_calls w _ g (l0.length : Int) T ((rd_T65 r x).f0) ((rd_T65 r x).f1) ((rd_T65 r x).f2) v HI0.out HB.out (by omega) (by omega) (by omega)).mono ?_)
   rintro e' w10 ⟨rfl, hh1, hb1, hk1⟩
   refine ⟨_, rfl, ?_⟩
   have HO9 := aM_ (Kd.R_mono (ok' := fun _ => True) (Kd.R_keep HO_8.out hk1 (fun _ hk => hk.2)) (fun _ _ => trivial))
   have HBS := aM_ (show w10.heap[gb101]? = some (.cells #[.int .i64 0, .string (⟨#[]⟩ : ByteArray)] 109 (0, 0)) from (hk1.2 gb101 (blk_lt BK101.out) HGG.out (by simp)).trans BK101.out)
   have HB6 := aM_ (show w10.heap[gb106]? = some (.cells #[.int .i64 ((rd_T65 r x).f0), .int .i64 ((rd_T65 r x).f1), .int .i64 ((rd_T65 r x).f2)] 65 (0, 0)) from (hk1.2 gb106 (blk_lt BK106.out) GW106.out (by simp)).trans BK106.out)
   clear HO_8 BK106 HB HI0 BK101
   have BK106 := HB6
   have HB := aM_ hb1
   refine hK.out _ _ ⟨(blk_cell BK106.out 0).trans rfl, (blk_cell BK106.out 1).trans rfl, (blk_cell BK106.out 2).trans rfl, ((HB.out.cell (World.block_lt_of_cell? w _ hw107_0)).trans hw107_0), ((HB.out.cell (World.block_lt_of_cell? w _ hw107_1)).trans hw107_1), ((HB.out.cell (World.block_lt_of_cell? w _ hw108_0)).trans hw108_0), ((HB.out.cell (World.block_lt_of_cell? w _ hw108_1)).trans hw108_1), ((HB.out.cell (World.block_lt_of_cell? w _ hw109_0)).trans hw109_0), ((HB.out.cell (World.block_lt_of_cell? w _ hw109_1)).trans hw109_1)⟩ (fun hHeld => ?_)
   clear hK K
   refine done_ (done_of HT_.out (by kernel_rfl)) ?_
   try go_wp2
   go_roundg (gk - 1)
   case measure => have := HK1.out; have := HIX.out; omega
   case rel => exact ⟨wrap64 (x + 1), ix + 1, _, (by first | rfl | (simp; done) | (rw [HW.out]; first | rfl | (simp; done))), ⟨HW.out⟩, ⟨by have := HK1.out; have := HIX.out; omega⟩, ⟨by rw [HST.out, HT.out]⟩, ⟨hh1⟩, HBS, HO9, ⟨hb1⟩⟩
  ·have c5b0 : decide (x < (r.length : Int)) = false := decide_eq_false c5
   have HE := aM_ (show ix = r.length by have := HK1.out; have := HX.out; omega)
   clear c5
   go_wp2_with (first | (go_at_call 160; (with_reducible refine (chi_signsT_calls 300 w _ g (l0.length : Int) T r (by rw [← HRR.out]; exact HR.out) HL.out HAS.out HI0.out).mono ?_); rintro e w7 ⟨rfl, hb⟩; have n0_ := aM_ (below_step HB.out hb); have n1_ := aM_ (blk_below (g := gb101) (o := .cells #[.int .i64 0, .string (⟨#[]⟩ : ByteArray)] 109 (0, 0)) BK101.out hb); clear HB BK101; have HB := n0_; have BK101 := n1_; clear n0_ n1_ hb; have hcz14_0 : w7.cell? ⟨gb101, 0, none⟩ = some (.int .i64 0) := (blk_cell BK101.out 0).trans rfl; have hcz14_1 : w7.cell? ⟨gb101, 1, none⟩ = some (.string (⟨#[]⟩ : ByteArray)) := (blk_cell BK101.out 1).trans rfl; have hfz14_0 := blk_frozen BK101.out 0; have hfz14_1 := blk_frozen BK101.out 1))
   have hTT : T = turnTab l0 r := by rw [HT.out, HE.out, List.take_length]; rfl
   rw [HRR.out, ← hTT]
   refine bodyPost_ret (results_ct rfl _ _ gb101 109 #[.int .i64 (l0.length : Int), .string (strOfNums (r.map (sgnB T)))] (0, 0) _ rfl (by (with_reducible repeat (first | refine blk_drewN ?_ _ | refine blk_drew ?_ | refine blk_alloc ?_ _)); refine blk_put (cs := #[.int .i64 (l0.length : Int), .string (⟨#[]⟩ : ByteArray)]) ?_ 1 _ rfl; (with_reducible repeat (first | refine blk_drewN ?_ _ | refine blk_drew ?_ | refine blk_alloc ?_ _)); refine blk_put (cs := #[.int .i64 0, .string (⟨#[]⟩ : ByteArray)]) ?_ 0 _ rfl; (with_reducible repeat (first | refine blk_drewN ?_ _ | refine blk_drew ?_ | refine blk_alloc ?_ _)); exact BK101.out) Try.underlying109 rfl (by kernel_rfl)) rfl ?_
   exact ⟨by first | rfl | (simp [errW_none, errW_some] <;> rfl) | (simp [*, errW_none, errW_some] <;> rfl), by repeat (first | (with_reducible first | exact HB.out | apply bA_ | apply bN_ | apply bD_ | refine below_set ?_ GE101.out) | exact HB.out)⟩
end Go.Proofs.Ytijgjpfbhbggdaa.P

namespace Go.Proofs.Ytijgjpfbhbggdaa.P
open Go.RowKit Go.Proofs.YtijgjpfbhbggdaaW.PrintWords Go.Proofs.YtijgjpfbhbggdaaW.PrintLast Go.Proofs.YtijgjpfbhbggdaaW.PrintMore
attribute [local go_sem] max2_int min2_int max_two min_two max_three min_three max_four min_four   -- for this text's walks alone
set_option linter.unusedVariables false
set_option linter.unusedSimpArgs false
/-! ### impl_fullSet: function 86 -/
def impl_fullSet.f (a0 : Int) : Option (Int) := if 0 ≤ a0 then (some (wrap64 ((shl .i64 1 a0) - 1))) else (none)
set_option maxHeartbeats 8000000 in
set_option maxRecDepth 100000 in
theorem impl_fullSet.calls (a0 : Int) (r : Int) (w : World) (h : impl_fullSet.f a0 = some r) :
  Calls Try.prog 86 #[.int .i64 a0] w fun e w' => e = .returned (.int .i64 r) ∧ Drawn0 w w' := by
 have H : (if 0 ≤ a0 then (some (wrap64 ((shl .i64 1 a0) - 1))) else (none)) = some r := h
 clear h
 by_cases c2 : 0 ≤ a0
 ·rw [if_pos c2] at H
  have c2b0 := eq_true c2
  have c2b1 : decide (0 ≤ a0) = true := decide_eq_true c2
  clear c2
  obtain ⟨ji3, hji3⟩ : ∃ j_ : Int, (shl .i64 1 a0) = j_ := ⟨_, rfl⟩
  replace H : (some (wrap64 ((ji3) - 1))) = some r := by first | (rw [hji3] at H; exact H) | (simp only [hji3] at H ⊢; exact H)
  have hji3_ : (IntKind.i64.wrap (1 * 2 ^ min a0.toNat 64)) = ji3 := hji3
  have hji3z : a0 ≤ 64 → (IntKind.i64.wrap (1 * 2 ^ a0.toNat)) = ji3 := shl_small hji3
  have hji3u : (IntKind.i64.wrap (2 ^ min a0.toNat 64)) = ji3 := by have h_ := hji3_; rw [Int.one_mul] at h_; exact h_
  have hji3v : a0 ≤ 64 → (IntKind.i64.wrap (2 ^ a0.toNat)) = ji3 := fun hle_ => by have h_ := hji3z hle_; rw [Int.one_mul] at h_; exact h_
  have hji3y : (wrap64 (1 * 2 ^ min a0.toNat 64)) = ji3 := (i64_w _).symm.trans hji3_
  have hji3x : a0 ≤ 64 → (wrap64 (1 * 2 ^ a0.toNat)) = ji3 := fun h_ => (i64_w _).symm.trans (hji3z h_)
  obtain rfl := Option.some.inj H
  go_enter Try.func86, Try.ntmps86
  go_wp2
  go_ret
  exact ⟨by first | rfl | (simp; done) | (simp only [← hji3] <;> (first | rfl | simp)) | (simp [*]; done), by repeat (first | exact Drawn0.refl _ | apply Drawn0.step)⟩
 ·rw [if_neg c2] at H
  exact absurd H (by simp)
end Go.Proofs.Ytijgjpfbhbggdaa.P

namespace Go.Proofs.Ytijgjpfbhbggdaa.P
open Go.RowKit Go.Proofs.YtijgjpfbhbggdaaW.PrintWords Go.Proofs.YtijgjpfbhbggdaaW.PrintLast Go.Proofs.YtijgjpfbhbggdaaW.PrintMore
attribute [local go_sem] max2_int min2_int max_two min_two max_three min_three max_four min_four   -- for this text's walks alone
set_option linter.unusedVariables false
set_option linter.unusedSimpArgs false
/-! ### impl_elementsOf: function 161 -/
def impl_elementsOf.l0 : Nat → Int → List Int → Int → Option (List Int)
 | 0, _, _, _ => none
 | k + 1, x0, x3, x4 => if x4 < 63 then (if 0 ≤ x4 then (if (Go.bits .and .i64 (shr .i64 x0 x4) 1) = 1 then (if x3.length < 17592186044416 then (impl_elementsOf.l0 k x0 (x3 ++ [x4]) (wrap64 (x4 + 1))) else (none)) else (impl_elementsOf.l0 k x0 x3 (wrap64 (x4 + 1)))) else (none)) else (some x3)
def impl_elementsOf.f (k : Nat) (a0 : Int) : Option (List Int) := impl_elementsOf.l0 k a0 ([] : List Int) 0
theorem impl_elementsOf.mono_l : ∀ k, (∀ y0 y1 y2, LeO (impl_elementsOf.l0 k y0 y1 y2) (impl_elementsOf.l0 (k + 1) y0 y1 y2))
 | 0 => fun _ _ _ r h => by simp [impl_elementsOf.l0] at h
 | k + 1 => by
  have ih0 := impl_elementsOf.mono_l k
  ·intro y0 y1 y2
   unfold impl_elementsOf.l0
   repeat' first
   | (with_reducible exact ih0 _ _ _)
   | (with_reducible exact LeO.refl _)
   | (with_reducible exact LeO.none _)
   | (with_reducible refine LeO.ite ?_ ?_)
   | (with_reducible refine LeO.bind ?_ (fun _ => ?_))
theorem impl_elementsOf.mono : ∀ a0 k, LeO (impl_elementsOf.f k a0) (impl_elementsOf.f (k + 1) a0) := by
 intro a0 k
 have ih0 := impl_elementsOf.mono_l k
 unfold impl_elementsOf.f
 repeat' first
   | (with_reducible exact ih0 _ _ _)
   | (with_reducible exact LeO.refl _)
   | (with_reducible exact LeO.none _)
   | (with_reducible refine LeO.ite ?_ ?_)
   | (with_reducible refine LeO.bind ?_ (fun _ => ?_))
set_option maxHeartbeats 8000000 in
set_option maxRecDepth 100000 in
theorem impl_elementsOf.calls (k : Nat) (a0 : Int) (r : List Int) (w : World) (h : impl_elementsOf.f k a0 = some r) :
  Calls Try.prog 161 #[.int .i64 a0] w fun e w' => ∃ v0_ : Value, e = .returned (v0_) ∧ Kd.R (Kd.int .i64) 3 w' w.heap.size (fun _ => True) v0_ r ∧ Below w.heap.size w w' := by
 have HB := aM_ (Below.refl w.heap.size w)
 have H : (impl_elementsOf.l0 k a0 ([] : List Int) 0) = some r := h
 clear h
 have H' := aM_ H
 clear H
 go_enter Try.func161, Try.ntmps161
 go_wp2
 go_loopg [3, 4] k (fun kq v3 v4 w' => ∃ (x3_1 : List Int) (x4_1 : Int), v4 = .int .i64 x4_1 ∧ Aside0 (impl_elementsOf.l0 kq a0 x3_1 x4_1 = some r) ∧ Aside0 (kq ≤ k) ∧ Aside0 (Kd.R (Kd.int .i64) 3 w' w.heap.size (fun _ => True) v3 x3_1) ∧ Aside0 (Below w.heap.size w w'))
 case atStart => exact ⟨(([] : List Int)), (0), (by first | rfl | (simp; done) | (simp [*]; done)), H', ⟨Nat.le_refl _⟩, ⟨by first | exact Kd.R_nil _ _ _ _ _ | exact Kd.N_nil _ _ _ _ _ | exact Kd.V_nil _ _ _ _ _ | exact Kd.Q_nil _ _ _ _ _ | exact Kd.S_nil _ _ _ _ _⟩, ⟨by repeat (first | (with_reducible first | exact HB.out | apply bA_ | apply bN_ | apply bD_) | exact HB.out)⟩⟩
 case round =>
  clear H'
  obtain ⟨x3_1, x4_1, rfl, HA, HK1, HO_3, HB⟩ := hrel
  cases gk with
  | zero => exact absurd HA.out (by simp [impl_elementsOf.l0])
  | succ k1 =>
   have H := HA.out
   clear HA
   simp only [impl_elementsOf.l0] at H
   by_cases c2 : x4_1 < 63
   ·rw [if_pos c2] at H
    have c2b0 : decide (x4_1 < 63) = true := decide_eq_true c2
    clear c2
    by_cases c3 : 0 ≤ x4_1
    ·rw [if_pos c3] at H
     have c3b0 := eq_true c3
     have c3b1 : decide (0 ≤ x4_1) = true := decide_eq_true c3
     clear c3
     obtain ⟨ji4, hji4⟩ : ∃ j_ : Int, (shr .i64 a0 x4_1) = j_ := ⟨_, rfl⟩
     replace H : (if (Go.bits .and .i64 (ji4) 1) = 1 then (if x3_1.length < 17592186044416 then (impl_elementsOf.l0 k1 a0 (x3_1 ++ [x4_1]) (wrap64 (x4_1 + 1))) else (none)) else (impl_elementsOf.l0 k1 a0 x3_1 (wrap64 (x4_1 + 1)))) = some r := by first | (rw [hji4] at H; exact H) | (simp only [hji4] at H ⊢; exact H)
     have hji4_ : (a0 / 2 ^ min x4_1.toNat 64) = ji4 := hji4
     have hji4z : x4_1 ≤ 64 → (a0 / 2 ^ x4_1.toNat) = ji4 := shr_small hji4
     by_cases c5 : (Go.bits .and .i64 (ji4) 1) = 1
     ·rw [if_pos c5] at H
      have c5b0 : ((Go.bits .and .i64 (ji4) 1) == 1) = true := beq_iff_eq.mpr c5
      have c5b1 : ((Go.bits .and .i64 (ji4) 1) != 1) = false := bne_eq_false_iff_eq.mpr c5
      clear c5
      by_cases c6 : x3_1.length < 17592186044416
      ·rw [if_pos c6] at H
       have LMc6 := aM_ c6
       clear c6
       obtain ⟨y101, hy101⟩ : ∃ y_ : List Int, y_ = (x3_1 ++ [x4_1]) := ⟨_, rfl⟩
       replace H : (impl_elementsOf.l0 k1 a0 y101 (wrap64 (x4_1 + 1))) = some r := by first | (rw [hy101]; with_reducible exact H) | (have H2_ := (Option.bind_some _ _).symm.trans H; rw [hy101]; with_reducible exact H2_) | (have H2_ := (Option.bind_some _ _).symm.trans H; with_reducible exact H2_) | with_reducible exact H | (rw [hy101]; exact H) | exact H
       have Ny101 := aM_ hy101
       clear hy101
       have H' := aM_ H
       clear H
       go_wp2_with (first | ((with_reducible refine gate_builtin (b := .append) (xs := #[.tmp 14, .tmp 16]) rfl ?_); at_builtin; refine Kd.R_append (Kd.int .i64) (w0 := w) w.heap.size rfl (.tmp 14) (.tmp 16) 33 3 (.int .i64 0) 8 rfl Try.underlying33 info3 rfl (by decide) (by omega) u3 x3_1 x4_1 [.int .i64 x4_1] (fun _ => True) (fun _ => False) rfl rfl ?aP (fun _ hk => hk.elim) ?aF ?aO ?aB ?aS ?aL ?_; (case aP => exact rfl); (case aB => exact (by repeat (first | (with_reducible first | exact HB.out | apply bA_ | apply bN_ | apply bD_) | exact HB.out))); (case aF => exact (fun _ _ => trivial)); (case aO => exact (by (with_reducible repeat (first | apply kA_ | apply kN_ | apply kD_)); exact HO_3.out)); (case aS => exact (below_size (by repeat (first | (with_reducible first | exact HB.out | apply bA_ | apply bN_ | apply bD_) | exact HB.out)))); (case aL => have := LMc6.out; omega); intro v102 w7 ho hb hg hat; rw [← Ny101.out] at ho; have n0_ := aM_ (hb); have n1_ := aM_ (ho); clear HB; clear HO_3; have HB := n0_; have HO103 := n1_; clear n0_ n1_; clear ho hb hg hat))
       go_roundg k1
       case measure => have := HK1.out; omega
       case rel => exact ⟨(y101), (wrap64 (x4_1 + 1)), (by first | rfl | (simp; done) | (simp [*]; done)), H', ⟨by have := HK1.out; omega⟩, ⟨by (with_reducible repeat (first | apply kA_ | apply kN_ | apply kD_)); exact HO103.out⟩, ⟨by repeat (first | (with_reducible first | exact HB.out | apply bA_ | apply bN_ | apply bD_) | exact HB.out)⟩⟩
      ·rw [if_neg c6] at H
       exact absurd H (by simp)
     ·rw [if_neg c5] at H
      have c5b0 : ((Go.bits .and .i64 (ji4) 1) == 1) = false := beq_eq_false_iff_ne.mpr c5
      have c5b1 : ((Go.bits .and .i64 (ji4) 1) != 1) = true := bne_iff_ne.mpr c5
      have H' := aM_ H
      clear H
      go_wp2
      go_roundg k1
      case measure => have := HK1.out; omega
      case rel => exact ⟨(x3_1), (wrap64 (x4_1 + 1)), (by first | rfl | (simp; done) | (simp [*]; done)), H', ⟨by have := HK1.out; omega⟩, ⟨by (with_reducible repeat (first | apply kA_ | apply kN_ | apply kD_)); exact HO_3.out⟩, ⟨by repeat (first | (with_reducible first | exact HB.out | apply bA_ | apply bN_ | apply bD_) | exact HB.out)⟩⟩
    ·rw [if_neg c3] at H
     exact absurd H (by simp)
   ·rw [if_neg c2] at H
    have c2b0 : decide (x4_1 < 63) = false := decide_eq_false c2
    clear c2
    obtain rfl := Option.some.inj H
    go_wp2
    go_ret
    exact ⟨_, by first | rfl | (simp [errW_none, errW_some] <;> rfl) | (simp [*, errW_none, errW_some] <;> rfl), by (with_reducible repeat (first | apply kA_ | apply kN_ | apply kD_)); exact HO_3.out, by repeat (first | (with_reducible first | exact HB.out | apply bA_ | apply bN_ | apply bD_) | exact HB.out)⟩
end Go.Proofs.Ytijgjpfbhbggdaa.P

namespace Go.Proofs.Ytijgjpfbhbggdaa.P
open Go.RowKit Go.Proofs.YtijgjpfbhbggdaaW.PrintWords Go.Proofs.YtijgjpfbhbggdaaW.PrintLast Go.Proofs.YtijgjpfbhbggdaaW.PrintMore
attribute [local go_sem] max2_int min2_int max_two min_two max_three min_three max_four min_four   -- for this text's walks alone
set_option linter.unusedVariables false
set_option linter.unusedSimpArgs false
/-! ### impl_opposite: function 193 -/
def flipU (b : UInt8) : UInt8 := if b = 43 then 45 else if b = 45 then 43 else b
def flipI (b : Int) : Int := if b = 43 then 45 else if b = 45 then 43 else b
theorem flip_is (b : UInt8) : flipI (b.toNat : Int) = ((flipU b).toNat : Int) := by
 unfold flipI flipU
 by_cases h1 : b = 43
 ·subst h1; rfl
 ·have e1 : ¬ ((b.toNat : Int) = 43) := fun e => h1 (by apply UInt8.toNat_inj.1; show b.toNat = 43; omega)
  rw [if_neg h1, if_neg e1]
  by_cases h2 : b = 45
  ·subst h2; rfl
  ·have e2 : ¬ ((b.toNat : Int) = 45) := fun e => h2 (by apply UInt8.toNat_inj.1; show b.toNat = 45; omega)
   rw [if_neg h2, if_neg e2]
def oppText (s : ByteArray) : ByteArray := ⟨(s.data.toList.map flipU).toArray⟩
def oppL (s : ByteArray) : List Int := s.data.toList.map fun b => (b.toNat : Int)
theorem oppL_length (s : ByteArray) : (oppL s).length = s.size := by unfold oppL; rw [List.length_map, Array.length_toList]; rfl
def impl_opposite.f (a0 : ByteArray) : Option ByteArray := if a0.size < 4611686018427387904 then some (oppText a0) else none
theorem blk_setF {w : World} {g : Nat} {t : TypeId} {fr : Nat × Nat} {cs : Array Value} (h : w.heap[g]? = some (.cells cs t fr)) (i : Nat) (u : Value) : (w.setCell ⟨g, i, none⟩ u).heap[g]? = some (.cells (cs.setIfInBounds i u) t fr) := by
 simp [World.setCell, Array.getElem?_modify, h]
theorem blk_frozenF {w : World} {g : Nat} {t : TypeId} {lo hi : Nat} {cs : Array Value} (h : w.heap[g]? = some (.cells cs t (lo, hi))) (i : Nat) (hi : i < lo) : w.frozen? ⟨g, i, none⟩ = false := by
 simp [World.frozen?, h]
 omega
def oppRow (w' : World) (g m : Nat) (xs : List Int) : Prop := ∃ cur, w'.heap[g]? = some (.cells cur 5 (m, m + 1)) ∧ xs.length ≤ m ∧ ∀ j, j < xs.length → cur[j]? = some (.int .u8 (xs.getD j 0))
theorem oppRow_cell {w' : World} {g m : Nat} {xs : List Int} (h : oppRow w' g m xs) (j : Nat) (hj : j < xs.length) : w'.cell? ⟨g, j, none⟩ = some (.int .u8 (xs.getD j 0)) ∧ w'.frozen? ⟨g, j, none⟩ = false := by
 obtain ⟨cur, h1, h2, h3⟩ := h
 exact ⟨(cell_of_row w' g j cur _ _ h1).trans (h3 j hj), blk_frozenF h1 j (by omega)⟩
theorem oppRow_set {w' : World} {g m : Nat} {xs : List Int} (h : oppRow w' g m xs) (j : Nat) (v : Int) : oppRow (w'.setCell ⟨g, j, none⟩ (.int .u8 v)) g m (xs.set j v) := by
 obtain ⟨cur, h1, h2, h3⟩ := h
 refine ⟨_, blk_setF h1 j _, by rw [List.length_set]; exact h2, fun i hi => ?_⟩
 rw [List.length_set] at hi
 rw [Array.getElem?_setIfInBounds]
 by_cases e : j = i
 ·subst e
  have : j < cur.size := by
   have := h3 j hi
   rcases Nat.lt_or_ge j cur.size with h | h
   ·exact h
   ·rw [Array.getElem?_eq_none h] at this; cases this
  rw [if_pos rfl, if_pos this]
  simp [List.getD_eq_getElem?_getD, hi]
 ·rw [if_neg e, h3 i hi]
  simp [List.getD_eq_getElem?_getD, e]
theorem opp_new (w : World) (s : ByteArray) : oppRow (Lib.bytesWorld w 5 s) w.heap.size (Lib.bytesCells w 5 s).size (oppL s) := by
 refine ⟨_, Lib.bytesWorld_at_new w _ s, ?_, fun j hj => ?_⟩
 ·rw [oppL_length]
  unfold Lib.bytesCells
  rw [Array.size_append, Array.size_map]
  exact Nat.le_add_right _ _
 ·rw [oppL_length] at hj
  have hj' : j < s.data.size := hj
  unfold Lib.bytesCells
  rw [Array.getElem?_append_left (by simpa using hj')]
  rw [Array.getElem?_map, Array.getElem?_eq_getElem hj', Option.map_some]
  simp only [oppL, List.getD_eq_getElem?_getD, List.getElem?_map, Array.getElem?_toList, Array.getElem?_eq_getElem hj', Option.map_some, Option.getD_some]
theorem opp_below (w : World) (s : ByteArray) : Below w.heap.size w (Lib.bytesWorld w 5 s) := Lib.bytesWorld_below w 5 s
theorem getD_app1 (A B : List Int) (j : Nat) (h : A.length = j) (hB : B ≠ []) : (A ++ B).getD j 0 = B.getD 0 0 := by
 subst h
 rw [List.getD_eq_getElem?_getD, List.getElem?_append_right (Nat.le_refl _), Nat.sub_self, List.getD_eq_getElem?_getD]
set_option maxHeartbeats 8000000 in
set_option maxRecDepth 100000 in
theorem impl_opposite.calls (a0 : ByteArray) (r : ByteArray) (w : World) (h : impl_opposite.f a0 = some r) :
  Calls Try.prog 193 #[.string a0] w fun e w' => e = .returned (.string r) ∧ Below w.heap.size w w' := by
 unfold impl_opposite.f at h
 by_cases hb : a0.size < 4611686018427387904
 case neg => rw [if_neg hb] at h; cases h
 rw [if_pos hb] at h
 obtain rfl := Option.some.inj h
 clear h
 have hcv := Lib.run_convert_string_bytes (P := Try.prog) w 9 153 5 a0 Try.underlying9 Try.underlying153 Try.underlying5
 have HR := aM_ (opp_new w a0)
 have HB := aM_ (opp_below w a0)
 have HS := aM_ hb
 have HL := aM_ (oppL_length a0)
 clear hb
 go_enter Try.func193, Try.ntmps193
 go_wp2
 clear hcv
 generalize Lib.bytesWorld w 5 a0 = w1 at HR HB ⊢
 obtain ⟨m, hm⟩ : ∃ m, (Lib.bytesCells w 5 a0).size = m := ⟨_, rfl⟩
 rw [hm] at HR
 clear hm
 generalize grownCap w a0.size 0 5 = cap
 obtain ⟨g1, hg1⟩ : ∃ g1, w.heap.size = g1 := ⟨_, rfl⟩
 have HG := aM_ hg1
 rw [hg1] at HR ⊢
 clear hg1
 go_loopg [4, 5, 10, 16, 21] a0.size (fun gg v4 v5 v10 v16 v21 w' => ∃ (x : Int) (ix : Nat) (xs : List Int), v10 = .int .i64 x ∧ Aside0 (x = (ix : Int)) ∧ Aside0 (gg + ix = a0.size) ∧ Aside0 (xs = ((oppL a0).take ix).map flipI ++ (oppL a0).drop ix) ∧ Aside0 (oppRow w' g1 m xs) ∧ Aside0 (Below w.heap.size w w'))
 case atStart => exact ⟨0, 0, oppL a0, rfl, ⟨rfl⟩, ⟨rfl⟩, ⟨by simp⟩, HR, HB⟩
 case round =>
  clear HR HB
  obtain ⟨x, ix, xs, rfl, HX, HGG, HXS, HR, HB⟩ := hrel
  by_cases c : x < (a0.size : Int)
  ·have c0 : decide (x < (a0.size : Int)) = true := decide_eq_true c
   have hix : ix < a0.size := by have := HX.out; omega
   have hlen : xs.length = a0.size := by rw [HXS.out]; simp [HL.out]; omega
   have hxn : x.toNat = ix := by have := HX.out; omega
   have p1 : (0 ≤ x) = True := eq_true (by have := HX.out; omega)
   have q1 : (x < (a0.size : Int)) = True := eq_true c
   obtain ⟨hx0, hf0⟩ := oppRow_cell HR.out x.toNat (by omega)
   have hv : xs.getD x.toNat 0 = (oppL a0).getD ix 0 := by
    rw [HXS.out, hxn, getD_app1 _ _ ix (by simp [HL.out]; omega) (by intro e; have := congrArg List.length e; simp only [List.length_drop, HL.out, List.length_nil] at this; omega)]
    simp [List.getD_eq_getElem?_getD]
   have hstep : ((oppL a0).take (ix + 1)).map flipI ++ (oppL a0).drop (ix + 1) = xs.set x.toNat (flipI ((oppL a0).getD ix 0)) := by
    have hl : ix < (oppL a0).length := by rw [HL.out]; exact hix
    rw [HXS.out, hxn, List.take_add_one, List.getElem?_eq_getElem hl, List.map_append, List.set_append_right _ _ (by simp; omega), List.drop_eq_getElem_cons hl]
    simp [List.getD_eq_getElem?_getD, hl, Nat.min_eq_left (Nat.le_of_lt hl)]
    rw [List.drop_eq_getElem_cons hl]
    rfl
   have hsame : flipI ((oppL a0).getD ix 0) = (oppL a0).getD ix 0 → xs.set x.toNat (flipI ((oppL a0).getD ix 0)) = xs := by
    intro e
    rw [e, ← hv]
    apply List.ext_getElem?
    intro q
    rw [List.getElem?_set]
    by_cases e : x.toNat = q
    ·subst e; simp [List.getD_eq_getElem?_getD, show x.toNat < xs.length by omega]
    ·rw [if_neg e]
   rw [hv] at hx0
   generalize (oppL a0).getD ix 0 = v at hx0 hstep hsame
   have HST := aM_ hstep
   have HSM := aM_ hsame
   have HIX := aM_ hix
   have HW : wrap64 (x + 1) = ((ix + 1 : Nat) : Int) := by have := HX.out; have := HS.out; unfold wrap64; omega
   have HW := aM_ HW
   clear c hix hlen hxn hv hstep hsame
   by_cases v1 : v = 43
   ·have d1 : decide (v = 43) = true := decide_eq_true v1
    have d1b : (v == 43) = true := beq_iff_eq.2 v1
    have HF := aM_ (show flipI v = 45 by unfold flipI; rw [if_pos v1])
    clear v1
    go_wp2
    go_roundg (gk - 1)
    case measure => have := HGG.out; have := HIX.out; omega
    case rel => exact ⟨wrap64 (x + 1), ix + 1, xs.set x.toNat 45, by first | rfl | (simp; done), HW, ⟨by have := HGG.out; have := HIX.out; omega⟩, ⟨by rw [HST.out, HF.out]⟩, ⟨oppRow_set HR.out _ _⟩, ⟨below_set HB.out (by rw [HG.out]; exact Nat.le_refl _)⟩⟩
   ·have d1 : decide (v = 43) = false := decide_eq_false v1
    have d1b : (v == 43) = false := beq_eq_false_iff_ne.2 v1
    by_cases v2 : v = 45
    ·have d2 : decide (v = 45) = true := decide_eq_true v2
     have d2b : (v == 45) = true := beq_iff_eq.2 v2
     have HF := aM_ (show flipI v = 43 by unfold flipI; rw [if_neg v1, if_pos v2])
     clear v1 v2
     go_wp2
     go_roundg (gk - 1)
     case measure => have := HGG.out; have := HIX.out; omega
     case rel => exact ⟨wrap64 (x + 1), ix + 1, xs.set x.toNat 43, by first | rfl | (simp; done), HW, ⟨by have := HGG.out; have := HIX.out; omega⟩, ⟨by rw [HST.out, HF.out]⟩, ⟨oppRow_set HR.out _ _⟩, ⟨below_set HB.out (by rw [HG.out]; exact Nat.le_refl _)⟩⟩
    ·have d2 : decide (v = 45) = false := decide_eq_false v2
     have d2b : (v == 45) = false := beq_eq_false_iff_ne.2 v2
     have HF := aM_ (show flipI v = v by unfold flipI; rw [if_neg v1, if_neg v2])
     clear v1 v2
     go_wp2
     go_roundg (gk - 1)
     case measure => have := HGG.out; have := HIX.out; omega
     case rel => exact ⟨wrap64 (x + 1), ix + 1, xs, by first | rfl | (simp; done), HW, ⟨by have := HGG.out; have := HIX.out; omega⟩, ⟨by rw [HST.out, HSM.out HF.out]⟩, HR, HB⟩
  ·have c0 : decide (x < (a0.size : Int)) = false := decide_eq_false c
   have HE := aM_ (show ix = a0.size by have := HX.out; have := HGG.out; omega)
   clear c
   have hcv : (convert 153 9 (.slice (some ⟨g1, 0, none⟩) a0.size cap)).run Try.prog wr = .ok (.string (oppText a0)) wr := by
    have hl : (a0.data.toList.map flipU).length = a0.size := by rw [List.length_map, Array.length_toList]; rfl
    have := run_convert_bytes_back (P := Try.prog) wr 153 9 5 ⟨g1, 0, none⟩ cap (a0.data.toList.map flipU) Try.underlying153 Try.underlying5 Try.underlying9 (fun j hj => by
     have hxs : xs = (oppL a0).map flipI := by rw [HXS.out, HE.out, List.take_of_length_le (by rw [HL.out]; exact Nat.le_refl _), List.drop_of_length_le (by rw [HL.out]; exact Nat.le_refl _), List.append_nil]
     have hj2 : j < a0.size := by omega
     have hj3 : j < a0.data.size := hj2
     obtain ⟨h1, _⟩ := oppRow_cell HR.out j (by rw [hxs, List.length_map, HL.out]; exact hj2)
     rw [show (⟨g1, 0, none⟩ : Addr).add j = ⟨g1, j, none⟩ by (simp [Addr.add]; omega), h1, hxs]
     simp only [oppL, List.getD_eq_getElem?_getD, List.getElem?_map, Array.getElem?_toList, Array.getElem?_eq_getElem hj3, Option.map_some, Option.getD_some, List.getElem_map, Array.getElem_toList, flip_is])
    rw [hl] at this
    exact this
   go_wp2
   go_ret
   exact ⟨rfl, HB.out⟩
end Go.Proofs.Ytijgjpfbhbggdaa.P

namespace Go.Proofs.Ytijgjpfbhbggdaa.P
open Go.RowKit Go.Proofs.YtijgjpfbhbggdaaW.PrintWords Go.Proofs.YtijgjpfbhbggdaaW.PrintLast Go.Proofs.YtijgjpfbhbggdaaW.PrintMore
attribute [local go_sem] max2_int min2_int max_two min_two max_three min_three max_four min_four   -- for this text's walks alone
set_option linter.unusedVariables false
set_option linter.unusedSimpArgs false
/-! ### impl_chi_circuit: function 192 -/
def circI (v : Int) : Int := if v > 0 then 43 else 45
def circL (T : Nat → Int) (a b c d : Int) : List Int := [T (tix b c d), wrap64 (-T (tix a c d)), T (tix a b d), wrap64 (-T (tix a b c))]
def circT (T : Nat → Int) (a b c d : Int) : ByteArray := if T (tix b c d) > 0 then strOfNums ((circL T a b c d).map circI) else oppText (strOfNums ((circL T a b c d).map circI))
def in7 (a : Int) : Prop := 0 ≤ a ∧ a < 7
instance (a : Int) : Decidable (in7 a) := inferInstanceAs (Decidable (_ ∧ _))
def impl_chi_circuit.f (s0_0 : Int) (s0_1 : Nat → Int) (a1 a2 a3 a4 : Int) : Option (ByteArray × Int × (Nat → Int)) := if in7 a1 ∧ in7 a2 ∧ in7 a3 ∧ in7 a4 then some (circT s0_1 a1 a2 a3 a4, s0_0, s0_1) else none
theorem run_event {P : Program} {ops : Array Oper} {o : Oper} {a : Act} {Q : Exit → Act → World → Prop} {W W1 : World} {Kc : Act → World → Prop} {N : Tmp} {v : Value} (hN : o.dst = some N) (hw : Region.wanted o (yielded ops a.tmps) = true) (hrun : (execOp a.eval o).run P W = .ok (.value v) W1)
  (h : Kc (a.put (some N) v) W1) : if Region.wanted o (yielded ops a.tmps) = true then Oper.wp P o a W Kc Q else Kc (a.put (some N) undef) W := by
 rw [if_pos hw]
 unfold Oper.wp
 rw [hrun]
 show Kc (a.put o.dst v) _
 rw [hN]
 exact h
def circT2 : Bool × List (List Nat × List Nat) := (true, [([], []), ([], []), ([], []), ([], []), ([0], [0]), ([4], [4]), ([5, 1], [1, 5]), ([6, 2], [2, 6]), ([7, 3], [3, 7]), ([8], [8]), ([], []), ([], []), ([], []), ([], []), ([10], [10]), ([14], [14]), ([15, 11], [11, 15]), ([16, 12], [12, 16]), ([17, 13], [13, 17]), ([18], [18]), ([19], [19]), ([], []), ([], []), ([], []), ([], []), ([21], [21]), ([25], [25]), ([26, 22], [22, 26]), ([27, 23], [23, 27]), ([28, 24], [24, 28]), ([29], [29]), ([], []), ([], []), ([], []), ([], []), ([31], [31]), ([35], [35]), ([36, 32], [32, 36]), ([37, 33], [33, 37]), ([38, 34], [34, 38]), ([39], [39]), ([40], [40]), ([9, 20, 30, 41], [9, 20, 30, 41]), ([42], [42]), ([], [])])
def circB2 : List Nat := [0, 0, 0, 0, 1, 17, 51, 119, 255, 511, 0, 0, 0, 0, 1024, 17408, 52224, 121856, 261120, 523264, 1047552, 0, 0, 0, 0, 2097152, 35651584, 106954752, 249561088, 534773760, 1071644672, 0, 0, 0, 0, 2147483648, 36507222016, 109521666048, 255550554112, 547608330240, 1097364144128, 2196875771904, 4398046511103, 8796093022207, 0]
theorem circ_tab2 : rtab .any (opsOf Try.f192 2) = circT2 := by kernel_rfl
theorem circ_bits2 : waitsOk circT2.2 circB2 = true := by kernel_rfl
theorem cell_keep {w w1 : World} {p : Addr} {v : Value} (hb : Below w.heap.size w w1) (h : w.cell? p = some v) : w1.cell? p = some v := (hb.cell (World.block_lt_of_cell? _ _ h)).trans h
set_option maxHeartbeats 8000000 in
set_option maxRecDepth 100000 in
theorem impl_chi_circuit.calls (g : Nat) (s0_0 : Int) (s0_1 : Nat → Int) (a1 a2 a3 a4 : Int) (r1 : ByteArray) (r2 : Int) (r3 : Nat → Int) (w0 w : World) (hI : IsS141 w0 w g s0_0 s0_1) (hB : Below w0.heap.size w0 w) (h : impl_chi_circuit.f s0_0 s0_1 a1 a2 a3 a4 = some (r1, r2, r3)) :
  Calls Try.prog 192 #[.pointer (some ⟨g, 0, none⟩), .int .i64 a1, .int .i64 a2, .int .i64 a3, .int .i64 a4] w fun e w' => e = .returned (.string r1) ∧ IsS141 w0 w' g r2 r3 ∧ Below w0.heap.size w0 w' ∧ KeepBut w w' g none := by
 unfold impl_chi_circuit.f at h
 by_cases hc : in7 a1 ∧ in7 a2 ∧ in7 a3 ∧ in7 a4
 case neg => rw [if_neg hc] at h; cases h
 rw [if_pos hc] at h
 simp only [Option.some.injEq, Prod.mk.injEq] at h
 obtain ⟨rfl, rfl, rfl⟩ := h
 obtain ⟨h1, h2, h3, h4⟩ := hc
 suffices hs : Calls Try.prog 192 #[.pointer (some ⟨g, 0, none⟩), .int .i64 a1, .int .i64 a2, .int .i64 a3, .int .i64 a4] w fun e w' => e = .returned (.string (circT s0_1 a1 a2 a3 a4)) ∧ Below w.heap.size w w' by
  refine hs.mono ?_
  rintro e w' ⟨he, hb⟩
  exact ⟨he, hI.below hb, below_step hB hb, KeepBut.of_below hb g none⟩
 have hat := chi_at7 hI
 have k0 := hat a2 a3 a4 h2 h3 h4
 have k1 := hat a1 a3 a4 h1 h3 h4
 have k2 := hat a1 a2 a4 h1 h2 h4
 have k3 := hat a1 a2 a3 h1 h2 h3
 have hr : circT s0_1 a1 a2 a3 a4 = if s0_1 (a2.toNat * 49 + a3.toNat * 7 + a4.toNat) > 0 then strOfNums ([s0_1 (a2.toNat * 49 + a3.toNat * 7 + a4.toNat), wrap64 (-s0_1 (a1.toNat * 49 + a3.toNat * 7 + a4.toNat)), s0_1 (a1.toNat * 49 + a2.toNat * 7 + a4.toNat), wrap64 (-s0_1 (a1.toNat * 49 + a2.toNat * 7 + a3.toNat))].map circI) else oppText (strOfNums ([s0_1 (a2.toNat * 49 + a3.toNat * 7 + a4.toNat), wrap64 (-s0_1 (a1.toNat * 49 + a3.toNat * 7 + a4.toNat)), s0_1 (a1.toNat * 49 + a2.toNat * 7 + a4.toNat), wrap64 (-s0_1 (a1.toNat * 49 + a2.toNat * 7 + a3.toNat))].map circI)) := rfl
 rw [hr]
 generalize s0_1 (a2.toNat * 49 + a3.toNat * 7 + a4.toNat) = v0 at k0 ⊢
 generalize s0_1 (a1.toNat * 49 + a3.toNat * 7 + a4.toNat) = v1 at k1 ⊢
 generalize s0_1 (a1.toNat * 49 + a2.toNat * 7 + a4.toNat) = v2 at k2 ⊢
 generalize s0_1 (a1.toNat * 49 + a2.toNat * 7 + a3.toNat) = v3 at k3 ⊢
 obtain ⟨R, hR⟩ : ∃ R, (if v0 > 0 then strOfNums ([v0, wrap64 (-v1), v2, wrap64 (-v3)].map circI) else oppText (strOfNums ([v0, wrap64 (-v1), v2, wrap64 (-v3)].map circI))) = R := ⟨_, rfl⟩
 rw [hR]
 have HRES := aM_ hR
 clear hR
 have I58a := chi_ix58 g a1 h1
 have I58b := chi_ix58 g a2 h2
 have I57b := chi_ix57 g a2 h2
 have I57c := chi_ix57 g a3 h3
 have I56c := chi_ix56 g a3 h3
 have I56d := chi_ix56 g a4 h4
 have HK0 := aM_ k0
 have HK1 := aM_ k1
 have HK2 := aM_ k2
 have HK3 := aM_ k3
 have HB := aM_ (Below.refl w.heap.size w)
 clear hat k0 k1 k2 k3 hI hB hr h1 h2 h3 h4
 go_enter Try.func192, Try.ntmps192
 go_wp2_with fail
 refine start_ (n := 45) (S := fun w' => w'.cell? ⟨g, 1 + a2.toNat * 49 + a3.toNat * 7 + a4.toNat, none⟩ = some (.int .i64 v0) ∧ w'.cell? ⟨g, 1 + a1.toNat * 49 + a3.toNat * 7 + a4.toNat, none⟩ = some (.int .i64 v1) ∧ w'.cell? ⟨g, 1 + a1.toNat * 49 + a2.toNat * 7 + a4.toNat, none⟩ = some (.int .i64 v2) ∧ w'.cell? ⟨g, 1 + a1.toNat * 49 + a2.toNat * 7 + a3.toNat, none⟩ = some (.int .i64 v3)) (ds := []) (bm 45 0) (by kernel_rfl) rfl rfl ⟨HK0.out, HK1.out, HK2.out, HK3.out⟩ (fun hHeld => ?_); refine with_tabW circ_tab2 circ_bits2 (fun HT_ HW_ => ?_)
 have HB := aM_ (bD_ HB.out)
 have HK0 := aM_ (show w.drew.cell? ⟨g, 1 + a2.toNat * 49 + a3.toNat * 7 + a4.toNat, none⟩ = some (.int .i64 v0) from HK0.out)
 have HK1 := aM_ (show w.drew.cell? ⟨g, 1 + a1.toNat * 49 + a3.toNat * 7 + a4.toNat, none⟩ = some (.int .i64 v1) from HK1.out)
 have HK2 := aM_ (show w.drew.cell? ⟨g, 1 + a1.toNat * 49 + a2.toNat * 7 + a4.toNat, none⟩ = some (.int .i64 v2) from HK2.out)
 have HK3 := aM_ (show w.drew.cell? ⟨g, 1 + a1.toNat * 49 + a2.toNat * 7 + a3.toNat, none⟩ = some (.int .i64 v3) from HK3.out)
 generalize w.drew = wB at HB HK0 HK1 HK2 HK3 hHeld ⊢
 refine plan_ ((0, 0, 14, 1) :: (0, 1, 15, 3) :: (0, 2, 16, 7) :: (0, 3, 17, 15) :: (0, 4, 18, 31) :: (0, 5, 19, 63) :: (0, 6, 20, 127) :: (0, 7, 21, 255) :: (0, 8, 22, 511) :: (2, 9, 23, 1023) :: (0, 10, 24, 2047) :: (0, 11, 25, 4095) :: (0, 12, 26, 8191) :: (0, 13, 27, 16383) :: (0, 14, 28, 32767) :: (0, 15, 29, 65535) :: (0, 16, 30, 131071) :: (0, 17, 31, 262143) :: (0, 18, 32, 524287) :: (2, 19, 33, 1048575) :: (0, 20, 34, 2097151) :: (0, 21, 35, 4194303) :: (0, 22, 36, 8388607) :: (0, 23, 37, 16777215) :: (0, 24, 38, 33554431) :: (0, 25, 39, 67108863) :: (0, 26, 40, 134217727) :: (0, 27, 41, 268435455) :: (0, 28, 42, 536870911) :: (0, 29, 43, 1073741823) :: (2, 30, 44, 2147483647) :: (0, 31, 45, 4294967295) :: (0, 32, 46, 8589934591) :: (0, 33, 47, 17179869183) :: (0, 34, 48, 34359738367) :: (0, 35, 49, 68719476735) :: (0, 36, 50, 137438953471) :: (0, 37, 51, 274877906943) :: (0, 38, 52, 549755813887) :: (0, 39, 53, 1099511627775) :: (2, 40, 54, 2199023255551) :: (0, 41, 55, 4398046511103) :: (0, 44, 58, 21990232555519) :: []) ?_
 iterate 43 (first | (refine planV_ ?_ ?_ rfl rfl (any_of HT_.out (by kernel_rfl)) (fun _ _ _ h => h) (Or.inl ⟨by rfl, ?_⟩) ?_ ?_; rotate_left 2; (· intro w'; go_simp; with_reducible rfl); (· simp only [Act.put, List.setIfInBounds_toArray, List.set_cons_zero, List.set_cons_succ, i64_w, i32_w]; rfl)) | (refine planT_ ?_ ?_ rfl rfl (take_ofW HT_.out HW_.out (by kernel_rfl)) (fun _ _ _ h => h) (Or.inl ⟨by rfl, ?_⟩) hHeld ?_ ?_; rotate_left 2; (· rintro w' ⟨s0, s1, s2, s3⟩; go_simp; with_reducible rfl); (· simp only [Act.put, List.setIfInBounds_toArray, List.set_cons_zero, List.set_cons_succ, i64_w, i32_w]; rfl)))
 refine planEnd_ ?_
 refine one_ (i := 42) (N := some 56) (bm 45 26388279066623) rfl rfl (one_of HT_.out (by kernel_rfl)) (by decide) (fun K hK => ?_)
 refine run_event (v := .slice (some ⟨wB.heap.size, 0, none⟩) 4 4) (W1 := wB.alloc (.cells #[.int .i64 v0, .int .i64 (wrap64 (-v1)), .int .i64 v2, .int .i64 (wrap64 (-v3))] 3 (0, 0))) rfl (by rfl) (by first | (go_simp; done) | (go_simp; rfl)) ?_
 have hba := bA_ (Below.refl wB.heap.size wB) (.cells #[.int .i64 v0, .int .i64 (wrap64 (-v1)), .int .i64 v2, .int .i64 (wrap64 (-v3))] 3 (0, 0))
 have BKN := aM_ (blk_new wB (.cells #[.int .i64 v0, .int .i64 (wrap64 (-v1)), .int .i64 v2, .int .i64 (wrap64 (-v3))] 3 (0, 0)))
 have HB := aM_ (below_step HB.out hba)
 have hs_ : (wB.alloc (.cells #[.int .i64 v0, .int .i64 (wrap64 (-v1)), .int .i64 v2, .int .i64 (wrap64 (-v3))] 3 (0, 0))).cell? ⟨g, 1 + a2.toNat * 49 + a3.toNat * 7 + a4.toNat, none⟩ = some (.int .i64 v0) ∧ (wB.alloc (.cells #[.int .i64 v0, .int .i64 (wrap64 (-v1)), .int .i64 v2, .int .i64 (wrap64 (-v3))] 3 (0, 0))).cell? ⟨g, 1 + a1.toNat * 49 + a3.toNat * 7 + a4.toNat, none⟩ = some (.int .i64 v1) ∧ (wB.alloc (.cells #[.int .i64 v0, .int .i64 (wrap64 (-v1)), .int .i64 v2, .int .i64 (wrap64 (-v3))] 3 (0, 0))).cell? ⟨g, 1 + a1.toNat * 49 + a2.toNat * 7 + a4.toNat, none⟩ = some (.int .i64 v2) ∧ (wB.alloc (.cells #[.int .i64 v0, .int .i64 (wrap64 (-v1)), .int .i64 v2, .int .i64 (wrap64 (-v3))] 3 (0, 0))).cell? ⟨g, 1 + a1.toNat * 49 + a2.toNat * 7 + a3.toNat, none⟩ = some (.int .i64 v3) := ⟨cell_keep hba HK0.out, cell_keep hba HK1.out, cell_keep hba HK2.out, cell_keep hba HK3.out⟩
 refine hK.out _ _ hs_ (fun hHeld => ?_)
 clear hK K hs_ hba HK0 HK1 HK2 HK3
 obtain ⟨gN, hgN⟩ : ∃ gN, wB.heap.size = gN := ⟨_, rfl⟩
 rw [hgN] at BKN ⊢
 generalize wB.alloc (.cells #[.int .i64 v0, .int .i64 (wrap64 (-v1)), .int .i64 v2, .int .i64 (wrap64 (-v3))] 3 (0, 0)) = wC at HB BKN hHeld ⊢
 clear hgN
 refine plan_ ((0, 43, 57, 35184372088831) :: []) ?_
 iterate 1 (refine planV_ ?_ ?_ rfl rfl (any_of HT_.out (by kernel_rfl)) (fun _ _ _ h => h) (Or.inl ⟨by rfl, ?_⟩) ?_ ?_; rotate_left 2; (· intro w'; go_simp; with_reducible rfl); (· simp only [Act.put, List.setIfInBounds_toArray, List.set_cons_zero, List.set_cons_succ, i64_w, i32_w]; rfl))
 refine planEnd_ ?_
 refine done_ (done_of HT_.out (by kernel_rfl)) ?_
 clear HT_ HW_ hHeld I58a I58b I57b I57c I56c I56d
 go_wp2
 go_loopg [11, 58] 4 (fun kq v11 v58 w' => ∃ (x : Int) (ix : Nat) (tx : List Int), v58 = .int .i64 x ∧ Aside0 (x = (ix : Int)) ∧ Aside0 (kq + ix = 4) ∧ Aside0 (tx = ([v0, wrap64 (-v1), v2, wrap64 (-v3)].take ix).map circI) ∧ Aside0 (w'.heap[gN]? = some (.cells #[.int .i64 v0, .int .i64 (wrap64 (-v1)), .int .i64 v2, .int .i64 (wrap64 (-v3))] 3 (0, 0))) ∧ Aside0 (Kd.R (Kd.int .u8) 5 w' w.heap.size (fun _ => True) v11 tx) ∧ Aside0 (Below w.heap.size w w'))
 case atStart => exact ⟨0, 0, [], rfl, ⟨rfl⟩, ⟨rfl⟩, ⟨rfl⟩, BKN, ⟨Kd.R_nil _ _ _ _ _⟩, HB⟩
 case round =>
  clear BKN HB
  obtain ⟨x, ix, tx, rfl, HX, HK1, HT, BKN, HO_11, HB⟩ := hrel
  by_cases c5 : x < 4
  ·have c5b0 : decide (x < 4) = true := decide_eq_true c5
   have hx := HX.out
   have hix : ix < 4 := by omega
   have hxn : x.toNat = ix := by omega
   have p1 : (0 ≤ x) = True := eq_true (by omega)
   have q1 : (x < 4) = True := eq_true c5
   have hcs : ∀ q : Nat, q < 4 → (#[.int .i64 v0, .int .i64 (wrap64 (-v1)), .int .i64 v2, .int .i64 (wrap64 (-v3))] : Array Value)[q]? = some (.int .i64 ([v0, wrap64 (-v1), v2, wrap64 (-v3)].getD q 0)) := by
    intro q hq
    have : q = 0 ∨ q = 1 ∨ q = 2 ∨ q = 3 := by omega
    rcases this with rfl | rfl | rfl | rfl <;> rfl
   have hst : ∀ q : Nat, q < 4 → ([v0, wrap64 (-v1), v2, wrap64 (-v3)].take (q + 1)).map circI = ([v0, wrap64 (-v1), v2, wrap64 (-v3)].take q).map circI ++ [circI ([v0, wrap64 (-v1), v2, wrap64 (-v3)].getD q 0)] := by
    intro q hq
    have : q = 0 ∨ q = 1 ∨ q = 2 ∨ q = 3 := by omega
    rcases this with rfl | rfl | rfl | rfl <;> rfl
   have hx0 := (blk_cell BKN.out x.toNat).trans (hcs x.toNat (by omega))
   have hf0 := blk_frozen BKN.out x.toNat
   have hs1 := hst ix hix
   rw [hxn] at hx0
   generalize ([v0, wrap64 (-v1), v2, wrap64 (-v3)] : List Int).getD ix 0 = v at hx0 hs1
   rw [← hxn] at hx0
   have HST := aM_ hs1
   have HIX := aM_ hix
   have HLT := aM_ (show tx.length ≤ 4 by rw [HT.out]; simp; omega)
   have HW : wrap64 (x + 1) = ((ix + 1 : Nat) : Int) := by unfold wrap64; omega
   have HW := aM_ HW
   clear c5 hx hix hxn hcs hst hs1
   by_cases cv : v > 0
   ·have HQ := aM_ (show circI v = 43 by unfold circI; rw [if_pos cv])
    have cvb : decide (0 < v) = true := decide_eq_true cv
    clear cv
    go_wp2_with ((with_reducible refine gate_builtin (b := .append) (xs := #[.tmp 64, .tmp 65]) rfl ?_); at_builtin; refine Kd.R_append (Kd.int .u8) (w0 := w) w.heap.size rfl (.tmp 64) (.tmp 65) 153 5 (.int .u8 0) 1 rfl Try.underlying153 chi_info5 rfl (by decide) (by omega) u11 tx 43 [.int .u8 43] (fun _ => True) (fun _ => False) rfl rfl ?aP (fun _ hk => hk.elim) ?aF ?aO ?aB ?aS ?aL ?_; (case aP => exact rfl); (case aB => exact (by repeat (first | (with_reducible first | exact HB.out | apply bA_ | apply bN_ | apply bD_) | exact HB.out))); (case aF => exact (fun _ _ => trivial)); (case aO => exact (by (with_reducible repeat (first | apply kA_ | apply kN_ | apply kD_)); exact HO_11.out)); (case aS => exact (below_size (by repeat (first | (with_reducible first | exact HB.out | apply bA_ | apply bN_ | apply bD_) | exact HB.out)))); (case aL => have h1 := HLT.out; omega); intro v102 w7 ho hb hg hat; have n1_ := aM_ (blk_grown (g := gN) (o := .cells #[.int .i64 v0, .int .i64 (wrap64 (-v1)), .int .i64 v2, .int .i64 (wrap64 (-v3))] 3 (0, 0)) (by (with_reducible repeat (first | refine blk_drewN ?_ _ | refine blk_drew ?_ | refine blk_alloc ?_ _)); exact BKN.out) hg (Kd.R_ne HO_11.out BKN.out (by decide))); have n2_ := aM_ (hb); have n3_ := aM_ (ho); clear BKN; clear HB; clear HO_11; have BKN := n1_; have HB := n2_; have HO_11 := n3_; clear n1_ n2_ n3_; clear ho hb hg hat)
    go_roundg (gk - 1)
    case measure => have := HK1.out; have := HIX.out; omega
    case rel => exact ⟨wrap64 (x + 1), ix + 1, tx ++ [43], (by first | rfl | (simp; done) | (rw [HW.out]; first | rfl | (simp; done))), ⟨HW.out⟩, ⟨by have := HK1.out; have := HIX.out; omega⟩, ⟨by rw [HST.out, HT.out, HQ.out]⟩, ⟨BKN.out⟩, ⟨HO_11.out⟩, ⟨HB.out⟩⟩
   ·have HQ := aM_ (show circI v = 45 by unfold circI; rw [if_neg cv])
    have cvb : decide (0 < v) = false := decide_eq_false cv
    clear cv
    go_wp2_with ((with_reducible refine gate_builtin (b := .append) (xs := #[.tmp 67, .tmp 68]) rfl ?_); at_builtin; refine Kd.R_append (Kd.int .u8) (w0 := w) w.heap.size rfl (.tmp 67) (.tmp 68) 153 5 (.int .u8 0) 1 rfl Try.underlying153 chi_info5 rfl (by decide) (by omega) u11 tx 45 [.int .u8 45] (fun _ => True) (fun _ => False) rfl rfl ?aP (fun _ hk => hk.elim) ?aF ?aO ?aB ?aS ?aL ?_; (case aP => exact rfl); (case aB => exact (by repeat (first | (with_reducible first | exact HB.out | apply bA_ | apply bN_ | apply bD_) | exact HB.out))); (case aF => exact (fun _ _ => trivial)); (case aO => exact (by (with_reducible repeat (first | apply kA_ | apply kN_ | apply kD_)); exact HO_11.out)); (case aS => exact (below_size (by repeat (first | (with_reducible first | exact HB.out | apply bA_ | apply bN_ | apply bD_) | exact HB.out)))); (case aL => have h1 := HLT.out; omega); intro v102 w7 ho hb hg hat; have n1_ := aM_ (blk_grown (g := gN) (o := .cells #[.int .i64 v0, .int .i64 (wrap64 (-v1)), .int .i64 v2, .int .i64 (wrap64 (-v3))] 3 (0, 0)) (by (with_reducible repeat (first | refine blk_drewN ?_ _ | refine blk_drew ?_ | refine blk_alloc ?_ _)); exact BKN.out) hg (Kd.R_ne HO_11.out BKN.out (by decide))); have n2_ := aM_ (hb); have n3_ := aM_ (ho); clear BKN; clear HB; clear HO_11; have BKN := n1_; have HB := n2_; have HO_11 := n3_; clear n1_ n2_ n3_; clear ho hb hg hat)
    go_roundg (gk - 1)
    case measure => have := HK1.out; have := HIX.out; omega
    case rel => exact ⟨wrap64 (x + 1), ix + 1, tx ++ [45], (by first | rfl | (simp; done) | (rw [HW.out]; first | rfl | (simp; done))), ⟨HW.out⟩, ⟨by have := HK1.out; have := HIX.out; omega⟩, ⟨by rw [HST.out, HT.out, HQ.out]⟩, ⟨BKN.out⟩, ⟨HO_11.out⟩, ⟨HB.out⟩⟩
  ·have c5b0 : decide (x < 4) = false := decide_eq_false c5
   have hE : ix = 4 := by have := HK1.out; have := HX.out; omega
   have htx : tx = [v0, wrap64 (-v1), v2, wrap64 (-v3)].map circI := by rw [HT.out, hE]; rfl
   have hcv : ∀ w' : World, Kd.R (Kd.int .u8) 5 w' w.heap.size (fun _ => True) u11 tx → (convert 153 9 u11).run Try.prog w' = .ok (.string (strOfNums tx)) w' := fun w' h => own_string (P := Try.prog) Try.underlying153 Try.underlying5 Try.underlying9 (Kd.own_of_R h)
   have hcv1 := hcv _ HO_11.out
   obtain ⟨Ao, co, eo⟩ := Kd.R_slice HO_11.out
   subst eo
   have hl4 : tx.length = 4 := by rw [htx]; rfl
   obtain ⟨ad, e0, hx0⟩ := Kd.at_int (Kd.R_reads' HO_11.out).2.2 0 (Int.le_refl 0) (by rw [hl4]; decide)
   cases e0
   have q1 : ((0 : Int) < (tx.length : Int)) = True := eq_true (by rw [hl4]; decide)
   have q2 : (0 < tx.length) = True := eq_true (by rw [hl4]; decide)
   have hop : impl_opposite.f (strOfNums tx) = some (oppText (strOfNums tx)) := by
    unfold impl_opposite.f
    rw [if_pos (by rw [htx]; simp [strOfNums, ByteArray.size])]
   have HOP := aM_ hop
   have HTX := aM_ htx
   have hrd : rd tx 0 = circI v0 := by rw [htx]; rfl
   rw [hrd, show ad.add (Int.toNat 0) = ad by simp [Addr.add]] at hx0
   clear c5 hE htx hl4 hcv hop hrd HT HK1 HX
   by_cases cv : v0 > 0
   ·rw [show circI v0 = 43 by unfold circI; rw [if_pos cv]] at hx0
    have HQ := aM_ (show R = strOfNums tx by rw [← HRES.out, if_pos cv, HTX.out])
    clear cv
    go_wp2
    first | go_ret | go_ret2 | go_end0
    exact ⟨by rw [HQ.out]; rfl, HB.out⟩
   ·rw [show circI v0 = 45 by unfold circI; rw [if_neg cv]] at hx0
    have HQ := aM_ (show R = oppText (strOfNums tx) by rw [← HRES.out, if_neg cv, HTX.out])
    clear cv
    go_wp2_with (go_at_call 193; refine (impl_opposite.calls (strOfNums tx) _ _ HOP.out).mono ?_; rintro e w9 ⟨rfl, hb9⟩)
    first | go_ret | go_ret2 | go_end0
    exact ⟨by rw [HQ.out]; rfl, below_step HB.out hb9⟩
end Go.Proofs.Ytijgjpfbhbggdaa.P

namespace Go.Proofs.Ytijgjpfbhbggdaa.P
open Go.RowKit Go.Proofs.YtijgjpfbhbggdaaW.PrintWords Go.Proofs.YtijgjpfbhbggdaaW.PrintLast Go.Proofs.YtijgjpfbhbggdaaW.PrintMore
attribute [local go_sem] max2_int min2_int max_two min_two max_three min_three max_four min_four   -- for this text's walks alone
set_option linter.unusedVariables false
set_option linter.unusedSimpArgs false
/-! ### impl_chi_split: function 190 -/
def impl_chi_split.l0 : Nat → ByteArray → Int → Int → List Int → Int → Int → Int → (Nat → Int) → Option (Int × Int × Int × (Nat → Int))
 | 0, _, _, _, _, _, _, _, _ => none
 | k + 1, x12, x13, x14, x27, x28, x29, x1000, x1001 => if x29 < x28 then (if 0 ≤ x29 then (if x29 < (x27.length : Int) then (if x29 < (x12.size : Int) then (if (bt x12 x29) = 43 then (if 0 ≤ (rd x27 x29) then (impl_chi_split.l0 k x12 (Go.bits .or .i64 x13 (shl .i64 1 (rd x27 x29))) x14 x27 x28 (wrap64 (x29 + 1)) x1000 x1001) else (none)) else (if 0 ≤ (rd x27 x29) then (impl_chi_split.l0 k x12 x13 (Go.bits .or .i64 x14 (shl .i64 1 (rd x27 x29))) x27 x28 (wrap64 (x29 + 1)) x1000 x1001) else (none))) else (none)) else (none)) else (none)) else (some (x13, x14, x1000, x1001))
def impl_chi_split.f (k : Nat) (s0_0 : Int) (s0_1 : (Nat → Int)) (a1 : Int) (a2 : Int) (a3 : Int) (a4 : Int) : Option (Int × Int × Int × (Nat → Int)) := (impl_chi_circuit.f s0_0 s0_1 a1 a2 a3 a4).bind fun bt101 => ((some (([a1, a2, a3, a4] : List Int) : List Int)).bind fun y104 => (impl_chi_split.l0 k bt101.1 0 0 y104 (y104.length : Int) 0 bt101.2.1 bt101.2.2))
theorem impl_chi_split.mono_l : ∀ k, (∀ y0 y1 y2 y3 y4 y5 y6 y7, LeO (impl_chi_split.l0 k y0 y1 y2 y3 y4 y5 y6 y7) (impl_chi_split.l0 (k + 1) y0 y1 y2 y3 y4 y5 y6 y7))
 | 0 => fun _ _ _ _ _ _ _ _ r h => by simp [impl_chi_split.l0] at h
 | k + 1 => by
  have ih0 := impl_chi_split.mono_l k
  ·intro y0 y1 y2 y3 y4 y5 y6 y7
   unfold impl_chi_split.l0
   repeat' first
   | (with_reducible exact ih0 _ _ _ _ _ _ _ _)
   | (with_reducible exact LeO.refl _)
   | (with_reducible exact LeO.none _)
   | (with_reducible refine LeO.ite ?_ ?_)
   | (with_reducible refine LeO.bind ?_ (fun _ => ?_))
theorem impl_chi_split.mono : ∀ a0 a1 a2 a3 a4 a5 k, LeO (impl_chi_split.f k a0 a1 a2 a3 a4 a5) (impl_chi_split.f (k + 1) a0 a1 a2 a3 a4 a5) := by
 intro a0 a1 a2 a3 a4 a5 k
 have ih0 := impl_chi_split.mono_l k
 unfold impl_chi_split.f
 repeat' first
   | (with_reducible exact ih0 _ _ _ _ _ _ _ _)
   | (with_reducible exact LeO.refl _)
   | (with_reducible exact LeO.none _)
   | (with_reducible refine LeO.ite ?_ ?_)
   | (with_reducible refine LeO.bind ?_ (fun _ => ?_))
set_option maxHeartbeats 8000000 in
set_option maxRecDepth 100000 in
theorem impl_chi_split.calls (k : Nat) (g : Nat) (s0_0 : Int) (s0_1 : (Nat → Int)) (a1 : Int) (a2 : Int) (a3 : Int) (a4 : Int) (r1 : Int) (r2 : Int) (r3 : Int) (r4 : (Nat → Int)) (w0 w : World) (hI : IsS141 w0 w g s0_0 s0_1) (hB : Below w0.heap.size w0 w) (h : impl_chi_split.f k s0_0 s0_1 a1 a2 a3 a4 = some (r1, r2, r3, r4)) :
  Calls Try.prog 190 #[.pointer (some ⟨g, 0, none⟩), .int .i64 a1, .int .i64 a2, .int .i64 a3, .int .i64 a4] w fun e w' => e = .returned (.tuple #[.int .i64 r1, .int .i64 r2]) ∧ IsS141 w0 w' g r3 r4 ∧ Below w0.heap.size w0 w' ∧ KeepBut w w' g none := by
 have HI0 := aM_ hI
 have HK := aM_ (KeepBut.refl w g none)
 have HL := aM_ hB.size
 clear hI
 have HW0 := aM_ hB.size
 have HB := aM_ hB
 clear hB
 have H : ((impl_chi_circuit.f s0_0 s0_1 a1 a2 a3 a4).bind fun bt101 => ((some (([a1, a2, a3, a4] : List Int) : List Int)).bind fun y104 => (impl_chi_split.l0 k bt101.1 0 0 y104 (y104.length : Int) 0 bt101.2.1 bt101.2.2))) = some (r1, r2, r3, r4) := h
 clear h
 replace H := oB_ H
 obtain ⟨⟨t101, t102, t103⟩, A60, H⟩ := H
 replace H : ((some (([a1, a2, a3, a4] : List Int) : List Int)).bind fun y104 => (impl_chi_split.l0 k t101 0 0 y104 (y104.length : Int) 0 t102 t103)) = some (r1, r2, r3, r4) := H
 have A6 := aM_ A60
 clear A60
 obtain ⟨y104, hy104⟩ : ∃ y_ : List Int, y_ = (([a1, a2, a3, a4] : List Int)) := ⟨_, rfl⟩
 replace H : (impl_chi_split.l0 k t101 0 0 y104 (y104.length : Int) 0 t102 t103) = some (r1, r2, r3, r4) := by first | (rw [hy104]; with_reducible exact H) | (have H2_ := (Option.bind_some _ _).symm.trans H; rw [hy104]; with_reducible exact H2_) | (have H2_ := (Option.bind_some _ _).symm.trans H; with_reducible exact H2_) | with_reducible exact H | (rw [hy104]; exact H) | exact H
 have Ny104 := aM_ hy104
 clear hy104
 have H' := aM_ H
 clear H
 go_enter Try.func190, Try.ntmps190
 go_wp2_with (first | ((with_reducible refine gate_callee (f := 192) rfl ?_); refine goesL_ (some 22) rfl rfl Try.func192 (by kernel_rfl) rfl #[.pointer (some ⟨g, 0, none⟩), .int .i64 a1, .int .i64 a2, .int .i64 a3, .int .i64 a4] rfl (by (try simp only [List.map_toArray, List.map_cons, List.map_nil]); first | done | rfl | (simp only [List.length_drop, List.length_take]; rfl)) ?_; (with_reducible refine (impl_chi_circuit.calls g s0_0 s0_1 a1 a2 a3 a4 t101 t102 t103 w0 _ ?side1 ?side2 A6.out).mono ?_); (case side1 => repeat (first | (with_reducible first | exact HI0.out | apply IsS141.alloc | apply IsS141.drewN | apply IsS141.drew | apply IsS141.set_0 | apply IsS141.set_1) | exact HI0.out)); (case side2 => repeat (first | (with_reducible first | exact HB.out | apply bA_ | apply bN_ | apply bD_ | refine below_set ?_ (IsS141.ge HI0.out)) | exact HB.out)); rintro e w7 ⟨rfl, hi, hb, hk⟩; refine ⟨_, rfl, ?_⟩; have n0_ := aM_ (KeepBut.trans (by repeat (first | (with_reducible first | exact HK.out | apply KeepBut.set_ | apply keep_drewN | apply keep_drew | apply keep_alloc) | exact HK.out)) hk (.inl rfl)); have n1_ := aM_ (hb); have n2_ := aM_ (hi); clear HK; clear HB; clear HI0; have HK := n0_; have HB := n1_; have HI0 := n2_; clear n0_ n1_ n2_; (try clear hb); (try clear hb2); (try clear hk); (try clear hi)) | ((with_reducible refine gate_dst (N := 27) rfl ?_); refine Kd.R_lit (Kd.int .i64) _ 3 ?hg (N := 27) ?hd (xs := ([a1, a2, a3, a4] : List Int)) (inner := [.int .i64 a1, .int .i64 a2, .int .i64 a3, .int .i64 a4]) (ok := fun _ => True) (okp := fun _ => True) ?hr ?hp (fun _ hk => hk) trivial (Below.refl _ _) (Nat.le_refl _) (by simp) ?_; (case hd => rfl); (case hg => rfl); (case hr => first | (go_simp; done) | (go_simp; rfl)); (case hp => exact (Reps.one (show Kd.M (Kd.int .i64) _ _ _ a1 [.int .i64 a1] from rfl) (Reps.one (show Kd.M (Kd.int .i64) _ _ _ a2 [.int .i64 a2] from rfl) (Reps.one (show Kd.M (Kd.int .i64) _ _ _ a3 [.int .i64 a3] from rfl) (Reps.one (show Kd.M (Kd.int .i64) _ _ _ a4 [.int .i64 a4] from rfl) (Reps.none _ _)))))); intro v105 w8 ho9 hb hg_ hnew_; clear hg_ hnew_; (first | rw [← Ny104.out] at ho9 | (simp only [Int.reduceToNat] at ho9; rw [← Ny104.out] at ho9)); have n0_ := aM_ (Kd.R_lower ho9 (keep_size (w := w) (g := g) (row := none) (by repeat (first | (with_reducible first | exact HK.out | apply KeepBut.set_ | apply keep_drewN | apply keep_drew | apply keep_alloc) | exact HK.out)))); have n1_ := aM_ (IsS141.below (by repeat (first | (with_reducible first | exact HI0.out | apply IsS141.alloc | apply IsS141.drewN | apply IsS141.drew | apply IsS141.set_0 | apply IsS141.set_1) | exact HI0.out)) hb); have n2_ := aM_ (KeepBut.trans (by repeat (first | (with_reducible first | exact HK.out | apply KeepBut.set_ | apply keep_drewN | apply keep_drew | apply keep_alloc) | exact HK.out)) (KeepBut.of_below hb g none) (.inl rfl)); have n3_ := aM_ (below_step (by repeat (first | (with_reducible first | exact HB.out | apply bA_ | apply bN_ | apply bD_ | refine below_set ?_ (IsS141.ge HI0.out)) | exact HB.out)) hb); clear HI0; clear HK; clear HB; have HO106 := n0_; have HI0 := n1_; have HK := n2_; have HB := n3_; clear n0_ n1_ n2_ n3_; clear hb ho9; obtain ⟨Ao10, co10, eo10⟩ := Kd.R_slice HO106.out; subst eo10))
 go_loopg [13, 14, 29] k (fun kq v13 v14 v29 w' => ∃ (x13_1 : Int) (x14_1 : Int) (x29_1 : Int), v13 = .int .i64 x13_1 ∧ v14 = .int .i64 x14_1 ∧ v29 = .int .i64 x29_1 ∧ Aside0 (impl_chi_split.l0 kq t101 x13_1 x14_1 y104 (y104.length : Int) x29_1 t102 t103 = some (r1, r2, r3, r4)) ∧ Aside0 (kq ≤ k) ∧ Aside0 (Kd.R (Kd.int .i64) 3 w' w.heap.size (fun _ => True) (.slice Ao10 y104.length co10) y104) ∧ Aside0 (IsS141 w0 w' g t102 t103) ∧ Aside0 (KeepBut w w' g none) ∧ Aside0 (Below w0.heap.size w0 w'))
 case atStart => exact ⟨(0), (0), (0), (by first | rfl | (simp; done) | (simp [*]; done)), (by first | rfl | (simp; done) | (simp [*]; done)), (by first | rfl | (simp; done) | (simp [*]; done)), H', ⟨Nat.le_refl _⟩, ⟨by (with_reducible repeat (first | apply kA_ | apply kN_ | apply kD_)); exact HO106.out⟩, ⟨by repeat (first | (with_reducible first | exact HI0.out | apply IsS141.alloc | apply IsS141.drewN | apply IsS141.drew | apply IsS141.set_0 | apply IsS141.set_1) | exact HI0.out)⟩, ⟨by repeat (first | (with_reducible first | exact HK.out | apply KeepBut.set_ | apply keep_drewN | apply keep_drew | apply keep_alloc) | exact HK.out)⟩, ⟨by repeat (first | (with_reducible first | exact HB.out | apply bA_ | apply bN_ | apply bD_ | refine below_set ?_ (IsS141.ge HI0.out)) | exact HB.out)⟩⟩
 case round =>
  clear H'
  obtain ⟨x13_1, x14_1, x29_1, rfl, rfl, rfl, HA, HK1, HO_27, HI0, HK, HB⟩ := hrel
  cases gk with
  | zero => exact absurd HA.out (by simp [impl_chi_split.l0])
  | succ k1 =>
   have H := HA.out
   clear HA
   simp only [impl_chi_split.l0] at H
   by_cases c11 : x29_1 < (y104.length : Int)
   ·rw [if_pos c11] at H
    have c11b0 : decide (x29_1 < (y104.length : Int)) = true := decide_eq_true c11
    clear c11
    by_cases c12 : 0 ≤ x29_1
    ·rw [if_pos c12] at H
     have c12b0 : decide (0 ≤ x29_1) = true := decide_eq_true c12
     clear c12
     by_cases c13 : x29_1 < (y104.length : Int)
     ·rw [if_pos c13] at H
      have c13b0 : decide (x29_1 < (y104.length : Int)) = true := decide_eq_true c13
      clear c13
      by_cases c14 : x29_1 < (t101.size : Int)
      ·rw [if_pos c14] at H
       have c14b0 : decide (x29_1 < (t101.size : Int)) = true := decide_eq_true c14
       clear c14
       by_cases c16 : (bt t101 x29_1) = 43
       ·rw [if_pos c16] at H
        have c16b0 : ((bt t101 x29_1) == 43) = true := beq_iff_eq.mpr c16
        have c16b1 : ((bt t101 x29_1) != 43) = false := bne_eq_false_iff_eq.mpr c16
        clear c16
        by_cases c17 : 0 ≤ (rd y104 x29_1)
        ·rw [if_pos c17] at H
         have c17b0 := eq_true c17
         have c17b1 : decide (0 ≤ (rd y104 x29_1)) = true := decide_eq_true c17
         clear c17
         obtain ⟨ji18, hji18⟩ : ∃ j_ : Int, (shl .i64 1 (rd y104 x29_1)) = j_ := ⟨_, rfl⟩
         replace H : (impl_chi_split.l0 k1 t101 (Go.bits .or .i64 x13_1 (ji18)) x14_1 y104 (y104.length : Int) (wrap64 (x29_1 + 1)) t102 t103) = some (r1, r2, r3, r4) := by first | (rw [hji18] at H; exact H) | (simp only [hji18] at H ⊢; exact H)
         have hji18_ : (IntKind.i64.wrap (1 * 2 ^ min (rd y104 x29_1).toNat 64)) = ji18 := hji18
         have hji18z : (rd y104 x29_1) ≤ 64 → (IntKind.i64.wrap (1 * 2 ^ (rd y104 x29_1).toNat)) = ji18 := shl_small hji18
         have hji18u : (IntKind.i64.wrap (2 ^ min (rd y104 x29_1).toNat 64)) = ji18 := by have h_ := hji18_; rw [Int.one_mul] at h_; exact h_
         have hji18v : (rd y104 x29_1) ≤ 64 → (IntKind.i64.wrap (2 ^ (rd y104 x29_1).toNat)) = ji18 := fun hle_ => by have h_ := hji18z hle_; rw [Int.one_mul] at h_; exact h_
         have hji18y : (wrap64 (1 * 2 ^ min (rd y104 x29_1).toNat 64)) = ji18 := (i64_w _).symm.trans hji18_
         have hji18x : (rd y104 x29_1) ≤ 64 → (wrap64 (1 * 2 ^ (rd y104 x29_1).toNat)) = ji18 := fun h_ => (i64_w _).symm.trans (hji18z h_)
         have H' := aM_ H
         clear H
         have p107 : 0 ≤ (x29_1 : Int) := of_decide_eq_true (by first | (with_reducible assumption) | assumption)
         have q107 : x29_1 < (y104.length : Int) := of_decide_eq_true (by first | (with_reducible assumption) | assumption)
         obtain ⟨ad107, e107, hx107_0⟩ := Kd.at_int (Kd.R_reads' HO_27.out).2.2 x29_1 p107 q107
         cases e107
         replace p107 := eq_true p107
         replace q107 := eq_true q107
         have p15 : 0 ≤ (x29_1 : Int) := of_decide_eq_true (by first | (with_reducible assumption) | assumption)
         have q15 : x29_1 < (t101.size : Int) := of_decide_eq_true (by first | (with_reducible assumption) | assumption)
         have hx15 := bt_at t101 x29_1
         replace p15 := eq_true p15
         replace q15 := eq_true q15
         go_wp2
         go_roundg k1
         case measure => have := HK1.out; omega
         case rel => exact ⟨(Go.bits .or .i64 x13_1 (ji18)), (x14_1), (wrap64 (x29_1 + 1)), (by first | rfl | (simp; done) | (simp only [← hji18] <;> (first | rfl | simp)) | (simp [*]; done)), (by first | rfl | (simp; done) | (simp [*]; done)), (by first | rfl | (simp; done) | (simp [*]; done)), H', ⟨by have := HK1.out; omega⟩, ⟨by (with_reducible repeat (first | apply kA_ | apply kN_ | apply kD_)); exact HO_27.out⟩, ⟨by repeat (first | (with_reducible first | exact HI0.out | apply IsS141.alloc | apply IsS141.drewN | apply IsS141.drew | apply IsS141.set_0 | apply IsS141.set_1) | exact HI0.out)⟩, ⟨by repeat (first | (with_reducible first | exact HK.out | apply KeepBut.set_ | apply keep_drewN | apply keep_drew | apply keep_alloc) | exact HK.out)⟩, ⟨by repeat (first | (with_reducible first | exact HB.out | apply bA_ | apply bN_ | apply bD_ | refine below_set ?_ (IsS141.ge HI0.out)) | exact HB.out)⟩⟩
        ·rw [if_neg c17] at H
         exact absurd H (by simp)
       ·rw [if_neg c16] at H
        have c16b0 : ((bt t101 x29_1) == 43) = false := beq_eq_false_iff_ne.mpr c16
        have c16b1 : ((bt t101 x29_1) != 43) = true := bne_iff_ne.mpr c16
        by_cases c19 : 0 ≤ (rd y104 x29_1)
        ·rw [if_pos c19] at H
         have c19b0 := eq_true c19
         have c19b1 : decide (0 ≤ (rd y104 x29_1)) = true := decide_eq_true c19
         clear c19
         obtain ⟨ji20, hji20⟩ : ∃ j_ : Int, (shl .i64 1 (rd y104 x29_1)) = j_ := ⟨_, rfl⟩
         replace H : (impl_chi_split.l0 k1 t101 x13_1 (Go.bits .or .i64 x14_1 (ji20)) y104 (y104.length : Int) (wrap64 (x29_1 + 1)) t102 t103) = some (r1, r2, r3, r4) := by first | (rw [hji20] at H; exact H) | (simp only [hji20] at H ⊢; exact H)
         have hji20_ : (IntKind.i64.wrap (1 * 2 ^ min (rd y104 x29_1).toNat 64)) = ji20 := hji20
         have hji20z : (rd y104 x29_1) ≤ 64 → (IntKind.i64.wrap (1 * 2 ^ (rd y104 x29_1).toNat)) = ji20 := shl_small hji20
         have hji20u : (IntKind.i64.wrap (2 ^ min (rd y104 x29_1).toNat 64)) = ji20 := by have h_ := hji20_; rw [Int.one_mul] at h_; exact h_
         have hji20v : (rd y104 x29_1) ≤ 64 → (IntKind.i64.wrap (2 ^ (rd y104 x29_1).toNat)) = ji20 := fun hle_ => by have h_ := hji20z hle_; rw [Int.one_mul] at h_; exact h_
         have hji20y : (wrap64 (1 * 2 ^ min (rd y104 x29_1).toNat 64)) = ji20 := (i64_w _).symm.trans hji20_
         have hji20x : (rd y104 x29_1) ≤ 64 → (wrap64 (1 * 2 ^ (rd y104 x29_1).toNat)) = ji20 := fun h_ => (i64_w _).symm.trans (hji20z h_)
         have H' := aM_ H
         clear H
         have p107 : 0 ≤ (x29_1 : Int) := of_decide_eq_true (by first | (with_reducible assumption) | assumption)
         have q107 : x29_1 < (y104.length : Int) := of_decide_eq_true (by first | (with_reducible assumption) | assumption)
         obtain ⟨ad107, e107, hx107_0⟩ := Kd.at_int (Kd.R_reads' HO_27.out).2.2 x29_1 p107 q107
         cases e107
         replace p107 := eq_true p107
         replace q107 := eq_true q107
         have p15 : 0 ≤ (x29_1 : Int) := of_decide_eq_true (by first | (with_reducible assumption) | assumption)
         have q15 : x29_1 < (t101.size : Int) := of_decide_eq_true (by first | (with_reducible assumption) | assumption)
         have hx15 := bt_at t101 x29_1
         replace p15 := eq_true p15
         replace q15 := eq_true q15
         go_wp2
         go_roundg k1
         case measure => have := HK1.out; omega
         case rel => exact ⟨(x13_1), (Go.bits .or .i64 x14_1 (ji20)), (wrap64 (x29_1 + 1)), (by first | rfl | (simp; done) | (simp [*]; done)), (by first | rfl | (simp; done) | (simp only [← hji20] <;> (first | rfl | simp)) | (simp [*]; done)), (by first | rfl | (simp; done) | (simp [*]; done)), H', ⟨by have := HK1.out; omega⟩, ⟨by (with_reducible repeat (first | apply kA_ | apply kN_ | apply kD_)); exact HO_27.out⟩, ⟨by repeat (first | (with_reducible first | exact HI0.out | apply IsS141.alloc | apply IsS141.drewN | apply IsS141.drew | apply IsS141.set_0 | apply IsS141.set_1) | exact HI0.out)⟩, ⟨by repeat (first | (with_reducible first | exact HK.out | apply KeepBut.set_ | apply keep_drewN | apply keep_drew | apply keep_alloc) | exact HK.out)⟩, ⟨by repeat (first | (with_reducible first | exact HB.out | apply bA_ | apply bN_ | apply bD_ | refine below_set ?_ (IsS141.ge HI0.out)) | exact HB.out)⟩⟩
        ·rw [if_neg c19] at H
         exact absurd H (by simp)
      ·rw [if_neg c14] at H
       exact absurd H (by simp)
     ·rw [if_neg c13] at H
      exact absurd H (by simp)
    ·rw [if_neg c12] at H
     exact absurd H (by simp)
   ·rw [if_neg c11] at H
    have c11b0 : decide (x29_1 < (y104.length : Int)) = false := decide_eq_false c11
    clear c11
    simp only [Option.some.injEq, Prod.mk.injEq] at H
    obtain ⟨rfl, rfl, rfl, rfl⟩ := H
    go_wp2
    go_ret2
    exact ⟨by first | rfl | (simp [errW_none, errW_some] <;> rfl) | (simp [*, errW_none, errW_some] <;> rfl), by repeat (first | (with_reducible first | exact HI0.out | apply IsS141.alloc | apply IsS141.drewN | apply IsS141.drew | apply IsS141.set_0 | apply IsS141.set_1) | exact HI0.out), by repeat (first | (with_reducible first | exact HB.out | apply bA_ | apply bN_ | apply bD_ | refine below_set ?_ (IsS141.ge HI0.out)) | exact HB.out), by repeat (first | (with_reducible first | exact HK.out | apply KeepBut.set_ | apply keep_drewN | apply keep_drew | apply keep_alloc) | exact HK.out)⟩
end Go.Proofs.Ytijgjpfbhbggdaa.P

namespace Go.Proofs.Ytijgjpfbhbggdaa.P
open Go.RowKit Go.Proofs.YtijgjpfbhbggdaaW.PrintWords Go.Proofs.YtijgjpfbhbggdaaW.PrintLast Go.Proofs.YtijgjpfbhbggdaaW.PrintMore
attribute [local go_sem] max2_int min2_int max_two min_two max_three min_three max_four min_four   -- for this text's walks alone
set_option linter.unusedVariables false
set_option linter.unusedSimpArgs false
/-! ### impl_single: function 191 -/
def impl_single.l0 : Nat → Int → Int → Option (Int)
 | 0, _, _ => none
 | k + 1, x0, x3 => if x3 < 7 then (if 0 ≤ x3 then (if x0 = (shl .i64 1 x3) then (some x3) else (impl_single.l0 k x0 (wrap64 (x3 + 1)))) else (none)) else (some (-1))
def impl_single.f (k : Nat) (a0 : Int) : Option (Int) := impl_single.l0 k a0 0
theorem impl_single.mono_l : ∀ k, (∀ y0 y1, LeO (impl_single.l0 k y0 y1) (impl_single.l0 (k + 1) y0 y1))
 | 0 => fun _ _ r h => by simp [impl_single.l0] at h
 | k + 1 => by
  have ih0 := impl_single.mono_l k
  ·intro y0 y1
   unfold impl_single.l0
   repeat' first
   | (with_reducible exact ih0 _ _)
   | (with_reducible exact LeO.refl _)
   | (with_reducible exact LeO.none _)
   | (with_reducible refine LeO.ite ?_ ?_)
   | (with_reducible refine LeO.bind ?_ (fun _ => ?_))
theorem impl_single.mono : ∀ a0 k, LeO (impl_single.f k a0) (impl_single.f (k + 1) a0) := by
 intro a0 k
 have ih0 := impl_single.mono_l k
 unfold impl_single.f
 repeat' first
   | (with_reducible exact ih0 _ _)
   | (with_reducible exact LeO.refl _)
   | (with_reducible exact LeO.none _)
   | (with_reducible refine LeO.ite ?_ ?_)
   | (with_reducible refine LeO.bind ?_ (fun _ => ?_))
set_option maxHeartbeats 8000000 in
set_option maxRecDepth 100000 in
theorem impl_single.calls (k : Nat) (a0 : Int) (r : Int) (w : World) (h : impl_single.f k a0 = some r) :
  Calls Try.prog 191 #[.int .i64 a0] w fun e w' => e = .returned (.int .i64 r) ∧ Drawn0 w w' := by
 have H : (impl_single.l0 k a0 0) = some r := h
 clear h
 have H' := aM_ H
 clear H
 go_enter Try.func191, Try.ntmps191
 go_wp2
 go_loopg [3] k (fun kq v3 w' => ∃ (x3_1 : Int), v3 = .int .i64 x3_1 ∧ Aside0 (impl_single.l0 kq a0 x3_1 = some r) ∧ Aside0 (kq ≤ k) ∧ Drawn0 w w')
 case atStart => exact ⟨(0), (by first | rfl | (simp; done) | (simp [*]; done)), H', ⟨Nat.le_refl _⟩, by repeat (first | exact Drawn0.refl _ | apply Drawn0.step)⟩
 case round =>
  clear H'
  obtain ⟨x3_1, rfl, HA, HK1, ⟨m1, rfl⟩⟩ := hrel
  cases gk with
  | zero => exact absurd HA.out (by simp [impl_single.l0])
  | succ k1 =>
   have H := HA.out
   clear HA
   simp only [impl_single.l0] at H
   by_cases c2 : x3_1 < 7
   ·rw [if_pos c2] at H
    have c2b0 : decide (x3_1 < 7) = true := decide_eq_true c2
    clear c2
    by_cases c3 : 0 ≤ x3_1
    ·rw [if_pos c3] at H
     have c3b0 := eq_true c3
     have c3b1 : decide (0 ≤ x3_1) = true := decide_eq_true c3
     clear c3
     obtain ⟨ji4, hji4⟩ : ∃ j_ : Int, (shl .i64 1 x3_1) = j_ := ⟨_, rfl⟩
     replace H : (if a0 = (ji4) then (some x3_1) else (impl_single.l0 k1 a0 (wrap64 (x3_1 + 1)))) = some r := by first | (rw [hji4] at H; exact H) | (simp only [hji4] at H ⊢; exact H)
     have hji4_ : (IntKind.i64.wrap (1 * 2 ^ min x3_1.toNat 64)) = ji4 := hji4
     have hji4z : x3_1 ≤ 64 → (IntKind.i64.wrap (1 * 2 ^ x3_1.toNat)) = ji4 := shl_small hji4
     have hji4u : (IntKind.i64.wrap (2 ^ min x3_1.toNat 64)) = ji4 := by have h_ := hji4_; rw [Int.one_mul] at h_; exact h_
     have hji4v : x3_1 ≤ 64 → (IntKind.i64.wrap (2 ^ x3_1.toNat)) = ji4 := fun hle_ => by have h_ := hji4z hle_; rw [Int.one_mul] at h_; exact h_
     have hji4y : (wrap64 (1 * 2 ^ min x3_1.toNat 64)) = ji4 := (i64_w _).symm.trans hji4_
     have hji4x : x3_1 ≤ 64 → (wrap64 (1 * 2 ^ x3_1.toNat)) = ji4 := fun h_ => (i64_w _).symm.trans (hji4z h_)
     by_cases c5 : a0 = (ji4)
     ·rw [if_pos c5] at H
      have c5b0 : (a0 == (ji4)) = true := beq_iff_eq.mpr c5
      have c5b1 : (a0 != (ji4)) = false := bne_eq_false_iff_eq.mpr c5
      clear c5
      obtain rfl := Option.some.inj H
      go_wp2
      go_ret
      exact ⟨by first | rfl | (simp; done) | (simp only [← hji4] <;> (first | rfl | simp)) | (simp [*]; done), by repeat (first | exact Drawn0.refl _ | apply Drawn0.step)⟩
     ·rw [if_neg c5] at H
      have c5b0 : (a0 == (ji4)) = false := beq_eq_false_iff_ne.mpr c5
      have c5b1 : (a0 != (ji4)) = true := bne_iff_ne.mpr c5
      have H' := aM_ H
      clear H
      go_wp2
      go_roundg k1
      case measure => have := HK1.out; omega
      case rel => exact ⟨(wrap64 (x3_1 + 1)), (by first | rfl | (simp; done) | (simp [*]; done)), H', ⟨by have := HK1.out; omega⟩, by repeat (first | exact Drawn0.refl _ | apply Drawn0.step)⟩
    ·rw [if_neg c3] at H
     exact absurd H (by simp)
   ·rw [if_neg c2] at H
    have c2b0 : decide (x3_1 < 7) = false := decide_eq_false c2
    clear c2
    obtain rfl := Option.some.inj H
    go_wp2
    go_ret
    exact ⟨by first | rfl | (simp; done) | (simp [*]; done), by repeat (first | exact Drawn0.refl _ | apply Drawn0.step)⟩
end Go.Proofs.Ytijgjpfbhbggdaa.P

namespace Go.Proofs.Ytijgjpfbhbggdaa.P
open Go.RowKit Go.Proofs.YtijgjpfbhbggdaaW.PrintWords Go.Proofs.YtijgjpfbhbggdaaW.PrintLast Go.Proofs.YtijgjpfbhbggdaaW.PrintMore
attribute [local go_sem] max2_int min2_int max_two min_two max_three min_three max_four min_four   -- for this text's walks alone
set_option linter.unusedVariables false
set_option linter.unusedSimpArgs false
/-! ### impl_chi_inner: function 189 -/
def impl_chi_inner.f (k : Nat) (s0_0 : Int) (s0_1 : (Nat → Int)) (a1 : Int) (a2 : Int) (a3 : Int) (a4 : Int) : Option (Int × Int × (Nat → Int)) := (impl_chi_split.f k s0_0 s0_1 a1 a2 a3 a4).bind fun bt101 => ((impl_single.f k bt101.1).bind fun t105 => ((impl_single.f k bt101.2.1).bind fun t106 => (some (mx t105 t106, bt101.2.2.1, bt101.2.2.2))))
theorem impl_chi_inner.mono : ∀ a0 a1 a2 a3 a4 a5 k, LeO (impl_chi_inner.f k a0 a1 a2 a3 a4 a5) (impl_chi_inner.f (k + 1) a0 a1 a2 a3 a4 a5) := by
 intro a0 a1 a2 a3 a4 a5 k
 unfold impl_chi_inner.f
 repeat' first
   | (with_reducible exact impl_chi_split.mono _ _ _ _ _ _ _)
   | (with_reducible exact impl_single.mono _ _)
   | (with_reducible exact LeO.refl _)
   | (with_reducible exact LeO.none _)
   | (with_reducible refine LeO.ite ?_ ?_)
   | (with_reducible refine LeO.bind ?_ (fun _ => ?_))
set_option maxHeartbeats 8000000 in
set_option maxRecDepth 100000 in
theorem impl_chi_inner.calls (k : Nat) (g : Nat) (s0_0 : Int) (s0_1 : (Nat → Int)) (a1 : Int) (a2 : Int) (a3 : Int) (a4 : Int) (r1 : Int) (r2 : Int) (r3 : (Nat → Int)) (w0 w : World) (hI : IsS141 w0 w g s0_0 s0_1) (hB : Below w0.heap.size w0 w) (h : impl_chi_inner.f k s0_0 s0_1 a1 a2 a3 a4 = some (r1, r2, r3)) :
  Calls Try.prog 189 #[.pointer (some ⟨g, 0, none⟩), .int .i64 a1, .int .i64 a2, .int .i64 a3, .int .i64 a4] w fun e w' => e = .returned (.int .i64 r1) ∧ IsS141 w0 w' g r2 r3 ∧ Below w0.heap.size w0 w' ∧ KeepBut w w' g none := by
 have HI0 := aM_ hI
 have HK := aM_ (KeepBut.refl w g none)
 have HL := aM_ hB.size
 clear hI
 have HW0 := aM_ hB.size
 have HB := aM_ hB
 clear hB
 have H : ((impl_chi_split.f k s0_0 s0_1 a1 a2 a3 a4).bind fun bt101 => ((impl_single.f k bt101.1).bind fun t105 => ((impl_single.f k bt101.2.1).bind fun t106 => (some (mx t105 t106, bt101.2.2.1, bt101.2.2.2))))) = some (r1, r2, r3) := h
 clear h
 replace H := oB_ H
 obtain ⟨⟨t101, t102, t103, t104⟩, A60, H⟩ := H
 replace H : ((impl_single.f k t101).bind fun t105 => ((impl_single.f k t102).bind fun t106 => (some (mx t105 t106, t103, t104)))) = some (r1, r2, r3) := H
 have A6 := aM_ A60
 clear A60
 replace H := oB_ H
 obtain ⟨t105, A70, H⟩ := H
 replace H : ((impl_single.f k t102).bind fun t106 => (some (mx t105 t106, t103, t104))) = some (r1, r2, r3) := H
 have A7 := aM_ A70
 clear A70
 replace H := oB_ H
 obtain ⟨t106, A80, H⟩ := H
 replace H : (some (mx t105 t106, t103, t104)) = some (r1, r2, r3) := H
 have A8 := aM_ A80
 clear A80
 obtain ⟨ji9, hji9⟩ : ∃ j_ : Int, (mx t105 t106) = j_ := ⟨_, rfl⟩
 replace H : (some (ji9, t103, t104)) = some (r1, r2, r3) := by first | (rw [hji9] at H; exact H) | (simp only [hji9] at H ⊢; exact H)
 (try rw [hji9] at A6)
 (try rw [hji9] at A7)
 (try rw [hji9] at A8)
 have hji9_ : (if t105 < t106 then t106 else t105) = ji9 := hji9
 simp only [Option.some.injEq, Prod.mk.injEq] at H
 obtain ⟨rfl, rfl, rfl⟩ := H
 go_enter Try.func189, Try.ntmps189
 go_wp2_with (first | ((with_reducible refine gate_callee (f := 190) rfl ?_); refine goesL_ (some 19) rfl rfl Try.func190 (by kernel_rfl) rfl #[.pointer (some ⟨g, 0, none⟩), .int .i64 a1, .int .i64 a2, .int .i64 a3, .int .i64 a4] rfl (by (try simp only [List.map_toArray, List.map_cons, List.map_nil]); first | done | rfl | (simp only [List.length_drop, List.length_take]; rfl)) ?_; (with_reducible refine (impl_chi_split.calls k g s0_0 s0_1 a1 a2 a3 a4 t101 t102 t103 t104 w0 _ ?side1 ?side2 A6.out).mono ?_); (case side1 => repeat (first | (with_reducible first | exact HI0.out | apply IsS141.alloc | apply IsS141.drewN | apply IsS141.drew | apply IsS141.set_0 | apply IsS141.set_1) | exact HI0.out)); (case side2 => repeat (first | (with_reducible first | exact HB.out | apply bA_ | apply bN_ | apply bD_ | refine below_set ?_ (IsS141.ge HI0.out)) | exact HB.out)); rintro e w10 ⟨rfl, hi, hb, hk⟩; refine ⟨_, rfl, ?_⟩; have n0_ := aM_ (KeepBut.trans (by repeat (first | (with_reducible first | exact HK.out | apply KeepBut.set_ | apply keep_drewN | apply keep_drew | apply keep_alloc) | exact HK.out)) hk (.inl rfl)); have n1_ := aM_ (hb); have n2_ := aM_ (hi); clear HK; clear HB; clear HI0; have HK := n0_; have HB := n1_; have HI0 := n2_; clear n0_ n1_ n2_; (try clear hb); (try clear hb2); (try clear hk); (try clear hi)) | ((with_reducible refine gate_callee (f := 191) rfl ?_); refine goesL_ (some 23) rfl rfl Try.func191 (by kernel_rfl) rfl #[.int .i64 t101] rfl (by (try simp only [List.map_toArray, List.map_cons, List.map_nil]); first | done | rfl | (simp only [List.length_drop, List.length_take]; rfl)) ?_; (with_reducible refine (impl_single.calls k t101 t105 _ A7.out).mono ?_); rintro e w' ⟨rfl, ⟨nd, rfl⟩⟩; refine ⟨_, rfl, ?_⟩) | ((with_reducible refine gate_callee (f := 191) rfl ?_); refine goesL_ (some 25) rfl rfl Try.func191 (by kernel_rfl) rfl #[.int .i64 t102] rfl (by (try simp only [List.map_toArray, List.map_cons, List.map_nil]); first | done | rfl | (simp only [List.length_drop, List.length_take]; rfl)) ?_; (with_reducible refine (impl_single.calls k t102 t106 _ A8.out).mono ?_); rintro e w' ⟨rfl, ⟨nd, rfl⟩⟩; refine ⟨_, rfl, ?_⟩))
 go_ret
 exact ⟨by first | rfl | (simp [errW_none, errW_some] <;> rfl) | (simp only [← hji9]; first | rfl | (simp [errW_none, errW_some] <;> rfl)) | (simp [*, errW_none, errW_some] <;> rfl), by repeat (first | (with_reducible first | exact HI0.out | apply IsS141.alloc | apply IsS141.drewN | apply IsS141.drew | apply IsS141.set_0 | apply IsS141.set_1) | exact HI0.out), by repeat (first | (with_reducible first | exact HB.out | apply bA_ | apply bN_ | apply bD_ | refine below_set ?_ (IsS141.ge HI0.out)) | exact HB.out), by repeat (first | (with_reducible first | exact HK.out | apply KeepBut.set_ | apply keep_drewN | apply keep_drew | apply keep_alloc) | exact HK.out)⟩
end Go.Proofs.Ytijgjpfbhbggdaa.P

namespace Go.Proofs.Ytijgjpfbhbggdaa.P
open Go.RowKit Go.Proofs.YtijgjpfbhbggdaaW.PrintWords Go.Proofs.YtijgjpfbhbggdaaW.PrintLast Go.Proofs.YtijgjpfbhbggdaaW.PrintMore
attribute [local go_sem] max2_int min2_int max_two min_two max_three min_three max_four min_four   -- for this text's walks alone
set_option linter.unusedVariables false
set_option linter.unusedSimpArgs false
/-! ### impl_chi_isInside: function 184 -/
def impl_chi_isInside.f (k : Nat) (s0_0 : Int) (s0_1 : (Nat → Int)) (a1 : Int) (a2 : Int) (a3 : Int) (a4 : Int) : Option (Bool × Int × (Nat → Int)) := (impl_chi_inner.f k s0_0 s0_1 a1 a2 a3 a4).bind fun bt101 => (some ((bt101.1 == a1), bt101.2.1, bt101.2.2))
theorem impl_chi_isInside.mono : ∀ a0 a1 a2 a3 a4 a5 k, LeO (impl_chi_isInside.f k a0 a1 a2 a3 a4 a5) (impl_chi_isInside.f (k + 1) a0 a1 a2 a3 a4 a5) := by
 intro a0 a1 a2 a3 a4 a5 k
 unfold impl_chi_isInside.f
 repeat' first
   | (with_reducible exact impl_chi_inner.mono _ _ _ _ _ _ _)
   | (with_reducible exact LeO.refl _)
   | (with_reducible exact LeO.none _)
   | (with_reducible refine LeO.ite ?_ ?_)
   | (with_reducible refine LeO.bind ?_ (fun _ => ?_))
set_option maxHeartbeats 8000000 in
set_option maxRecDepth 100000 in
theorem impl_chi_isInside.calls (k : Nat) (g : Nat) (s0_0 : Int) (s0_1 : (Nat → Int)) (a1 : Int) (a2 : Int) (a3 : Int) (a4 : Int) (r1 : Bool) (r2 : Int) (r3 : (Nat → Int)) (w0 w : World) (hI : IsS141 w0 w g s0_0 s0_1) (hB : Below w0.heap.size w0 w) (h : impl_chi_isInside.f k s0_0 s0_1 a1 a2 a3 a4 = some (r1, r2, r3)) :
  Calls Try.prog 184 #[.pointer (some ⟨g, 0, none⟩), .int .i64 a1, .int .i64 a2, .int .i64 a3, .int .i64 a4] w fun e w' => e = .returned (.bool r1) ∧ IsS141 w0 w' g r2 r3 ∧ Below w0.heap.size w0 w' ∧ KeepBut w w' g none := by
 have HI0 := aM_ hI
 have HK := aM_ (KeepBut.refl w g none)
 have HL := aM_ hB.size
 clear hI
 have HW0 := aM_ hB.size
 have HB := aM_ hB
 clear hB
 have H : ((impl_chi_inner.f k s0_0 s0_1 a1 a2 a3 a4).bind fun bt101 => (some ((bt101.1 == a1), bt101.2.1, bt101.2.2))) = some (r1, r2, r3) := h
 clear h
 replace H := oB_ H
 obtain ⟨⟨t101, t102, t103⟩, A60, H⟩ := H
 replace H : (some ((t101 == a1), t102, t103)) = some (r1, r2, r3) := H
 have A6 := aM_ A60
 clear A60
 simp only [Option.some.injEq, Prod.mk.injEq] at H
 obtain ⟨rfl, rfl, rfl⟩ := H
 go_enter Try.func184, Try.ntmps184
 go_wp2_with (first | ((with_reducible refine gate_callee (f := 189) rfl ?_); refine goesL_ (some 16) rfl rfl Try.func189 (by kernel_rfl) rfl #[.pointer (some ⟨g, 0, none⟩), .int .i64 a1, .int .i64 a2, .int .i64 a3, .int .i64 a4] rfl (by (try simp only [List.map_toArray, List.map_cons, List.map_nil]); first | done | rfl | (simp only [List.length_drop, List.length_take]; rfl)) ?_; (with_reducible refine (impl_chi_inner.calls k g s0_0 s0_1 a1 a2 a3 a4 t101 t102 t103 w0 _ ?side1 ?side2 A6.out).mono ?_); (case side1 => repeat (first | (with_reducible first | exact HI0.out | apply IsS141.alloc | apply IsS141.drewN | apply IsS141.drew | apply IsS141.set_0 | apply IsS141.set_1) | exact HI0.out)); (case side2 => repeat (first | (with_reducible first | exact HB.out | apply bA_ | apply bN_ | apply bD_ | refine below_set ?_ (IsS141.ge HI0.out)) | exact HB.out)); rintro e w7 ⟨rfl, hi, hb, hk⟩; refine ⟨_, rfl, ?_⟩; have n0_ := aM_ (KeepBut.trans (by repeat (first | (with_reducible first | exact HK.out | apply KeepBut.set_ | apply keep_drewN | apply keep_drew | apply keep_alloc) | exact HK.out)) hk (.inl rfl)); have n1_ := aM_ (hb); have n2_ := aM_ (hi); clear HK; clear HB; clear HI0; have HK := n0_; have HB := n1_; have HI0 := n2_; clear n0_ n1_ n2_; (try clear hb); (try clear hb2); (try clear hk); (try clear hi)))
 go_ret
 exact ⟨by first | rfl | (simp [errW_none, errW_some] <;> rfl) | (simp [*, errW_none, errW_some] <;> rfl), by repeat (first | (with_reducible first | exact HI0.out | apply IsS141.alloc | apply IsS141.drewN | apply IsS141.drew | apply IsS141.set_0 | apply IsS141.set_1) | exact HI0.out), by repeat (first | (with_reducible first | exact HB.out | apply bA_ | apply bN_ | apply bD_ | refine below_set ?_ (IsS141.ge HI0.out)) | exact HB.out), by repeat (first | (with_reducible first | exact HK.out | apply KeepBut.set_ | apply keep_drewN | apply keep_drew | apply keep_alloc) | exact HK.out)⟩
end Go.Proofs.Ytijgjpfbhbggdaa.P

