/- The examples are what they are called: the draws are small numbers, and at each of them the program and the reference are run to their end; no condition. -/
import Derived.Test.YtobbhjcohkndeaaGreatDoorZFnExamples5
import Derived.Deep.Slices
import Derived.ChangeOld
import Derived.Carry
import Derived.Test.YtobbhjcohkndeaaGreatDoorRows
import Derived.Test.YtobbhjcohkndeaaGreatDoorCards
import Derived.Test.YtobbhjcohkndeaaGreatDoorTie
import Derived.LaidMore
import Derived.Lib.LaidU8
import Derived.MakeChecks
import Derived.Stop.Joined
import Derived.SevenTiedAt
import Derived.WalkKit
import Derived.ProofKit
import Derived.OpenShut
import Derived.ShutString
import Derived.Below
import Derived.SizedLaws
namespace Go.Proofs.YtobbhjcohkndeaaGreatDoor.P
open Go.RowKit Go.Proofs.YtobbhjcohkndeaaGreatDoorW.PrintWords Go.Proofs.YtobbhjcohkndeaaGreatDoorW.PrintLast Go.Proofs.YtobbhjcohkndeaaGreatDoorW.PrintMore
attribute [local go_sem] max2_int min2_int max_two min_two max_three min_three max_four min_four   -- for this text's walks alone
set_option linter.unusedVariables false
set_option linter.unusedSimpArgs false
/-! ### spec_l6In: function 68 -/
mutual
def spec_l6In.l0 : Nat → Int → Int → Int → Int → ByteArray → Option (Bool)
 | 0, _, _, _, _, _ => none
 | k + 1, x1, x2, x7, x102000, x102001 => if x7 < x102000 then (spec_l6In.l1 k x1 x2 x7 (wrap64 (x7 + 1)) x102000 x102001) else (some false)
def spec_l6In.l1 : Nat → Int → Int → Int → Int → Int → ByteArray → Option (Bool)
 | 0, _, _, _, _, _, _ => none
 | k + 1, x1, x2, x7, x8, x102000, x102001 => if x8 < x102000 then (spec_l6In.l2 k x1 x2 x7 x8 (wrap64 (x8 + 1)) x102000 x102001) else (spec_l6In.l0 k x1 x2 (wrap64 (x7 + 1)) x102000 x102001)
def spec_l6In.l2 : Nat → Int → Int → Int → Int → Int → Int → ByteArray → Option (Bool)
 | 0, _, _, _, _, _, _, _ => none
 | k + 1, x1, x2, x7, x8, x9, x102000, x102001 => if x9 < x102000 then (if x2 = x7 then (spec_l6In.l2 k x1 x2 x7 x8 (wrap64 (x9 + 1)) x102000 x102001) else (if x2 = x8 then (spec_l6In.l2 k x1 x2 x7 x8 (wrap64 (x9 + 1)) x102000 x102001) else (if x2 = x9 then (spec_l6In.l2 k x1 x2 x7 x8 (wrap64 (x9 + 1)) x102000 x102001) else ((spec_l6Has.f x1 x7).bind fun t102 => (if t102 = true then ((spec_l6Has.f x1 x8).bind fun t103 => (if t103 = true then ((spec_l6Has.f x1 x9).bind fun t104 => (if t104 = true then ((spec_l5Inner.f k x102000 x102001 (([x2, x7, x8, x9] : List Int))).bind fun t108 => (if t108 = x2 then (some true) else (spec_l6In.l2 k x1 x2 x7 x8 (wrap64 (x9 + 1)) x102000 x102001))) else (spec_l6In.l2 k x1 x2 x7 x8 (wrap64 (x9 + 1)) x102000 x102001))) else (spec_l6In.l2 k x1 x2 x7 x8 (wrap64 (x9 + 1)) x102000 x102001))) else (spec_l6In.l2 k x1 x2 x7 x8 (wrap64 (x9 + 1)) x102000 x102001)))))) else (spec_l6In.l1 k x1 x2 x7 (wrap64 (x8 + 1)) x102000 x102001)
end
def spec_l6In.f (k : Nat) (a0_0 : Int) (a0_1 : ByteArray) (a1 : Int) (a2 : Int) : Option (Bool) := spec_l6In.l0 k a1 a2 0 a0_0 a0_1
theorem spec_l6In.mono_l : ∀ k, (∀ y0 y1 y2 y3 y4, LeO (spec_l6In.l0 k y0 y1 y2 y3 y4) (spec_l6In.l0 (k + 1) y0 y1 y2 y3 y4)) ∧ (∀ y0 y1 y2 y3 y4 y5, LeO (spec_l6In.l1 k y0 y1 y2 y3 y4 y5) (spec_l6In.l1 (k + 1) y0 y1 y2 y3 y4 y5)) ∧ (∀ y0 y1 y2 y3 y4 y5 y6, LeO (spec_l6In.l2 k y0 y1 y2 y3 y4 y5 y6) (spec_l6In.l2 (k + 1) y0 y1 y2 y3 y4 y5 y6))
 | 0 => ⟨fun _ _ _ _ _ r h => by simp [spec_l6In.l0] at h, fun _ _ _ _ _ _ r h => by simp [spec_l6In.l1] at h, fun _ _ _ _ _ _ _ r h => by simp [spec_l6In.l2] at h⟩
 | k + 1 => by
  obtain ⟨ih0, ih1, ih2⟩ := spec_l6In.mono_l k
  refine ⟨?_, ?_, ?_⟩
  ·intro y0 y1 y2 y3 y4
   unfold spec_l6In.l0
   repeat' first
   | (with_reducible exact ih0 _ _ _ _ _)
   | (with_reducible exact ih1 _ _ _ _ _ _)
   | (with_reducible exact ih2 _ _ _ _ _ _ _)
   | (with_reducible exact spec_l5Inner.mono _ _ _ _)
   | (with_reducible exact LeO.refl _)
   | (with_reducible exact LeO.none _)
   | (with_reducible refine LeO.ite ?_ ?_)
   | (with_reducible refine LeO.bind ?_ (fun _ => ?_))
  ·intro y0 y1 y2 y3 y4 y5
   unfold spec_l6In.l1
   repeat' first
   | (with_reducible exact ih0 _ _ _ _ _)
   | (with_reducible exact ih1 _ _ _ _ _ _)
   | (with_reducible exact ih2 _ _ _ _ _ _ _)
   | (with_reducible exact spec_l5Inner.mono _ _ _ _)
   | (with_reducible exact LeO.refl _)
   | (with_reducible exact LeO.none _)
   | (with_reducible refine LeO.ite ?_ ?_)
   | (with_reducible refine LeO.bind ?_ (fun _ => ?_))
  ·intro y0 y1 y2 y3 y4 y5 y6
   unfold spec_l6In.l2
   repeat' first
   | (with_reducible exact ih0 _ _ _ _ _)
   | (with_reducible exact ih1 _ _ _ _ _ _)
   | (with_reducible exact ih2 _ _ _ _ _ _ _)
   | (with_reducible exact spec_l5Inner.mono _ _ _ _)
   | (with_reducible exact LeO.refl _)
   | (with_reducible exact LeO.none _)
   | (with_reducible refine LeO.ite ?_ ?_)
   | (with_reducible refine LeO.bind ?_ (fun _ => ?_))
theorem spec_l6In.mono : ∀ a0 a1 a2 a3 k, LeO (spec_l6In.f k a0 a1 a2 a3) (spec_l6In.f (k + 1) a0 a1 a2 a3) := by
 intro a0 a1 a2 a3 k
 obtain ⟨ih0, ih1, ih2⟩ := spec_l6In.mono_l k
 unfold spec_l6In.f
 repeat' first
   | (with_reducible exact ih0 _ _ _ _ _)
   | (with_reducible exact ih1 _ _ _ _ _ _)
   | (with_reducible exact ih2 _ _ _ _ _ _ _)
   | (with_reducible exact spec_l5Inner.mono _ _ _ _)
   | (with_reducible exact LeO.refl _)
   | (with_reducible exact LeO.none _)
   | (with_reducible refine LeO.ite ?_ ?_)
   | (with_reducible refine LeO.bind ?_ (fun _ => ?_))
set_option maxHeartbeats 8000000 in
set_option maxRecDepth 100000 in
theorem spec_l6In.calls (k : Nat) (a0_0 : Int) (a0_1 : ByteArray) (a1 : Int) (a2 : Int) (r : Bool) (w : World) (h : spec_l6In.f k a0_0 a0_1 a1 a2 = some r) :
  Calls Tryz.prog 68 #[.agg #[.int .i64 a0_0, .string a0_1], .int .i64 a1, .int .i64 a2] w fun e w' => e = .returned (.bool r) ∧ Below w.heap.size w w' := by
 have hu35 := Tryz.underlying35
 have HB := Aside0.mk (Below.refl w.heap.size w)
 have H : (spec_l6In.l0 k a1 a2 0 a0_0 a0_1) = some r := h
 clear h
 have H' := Aside0.mk H
 clear H
 go_enter Tryz.func68, Tryz.ntmps68
 go_wp2_with (first | ((with_reducible refine gate_dst (N := 3) rfl ?_); (try (refine gate_guard (by rfl) ?_; dsimp only)); refine box_event ?hg (N := 3) ?hd (cs := #[.int .i64 a0_0, .string a0_1]) (t := 35) ?hr ?_; (case hd => rfl); (case hg => rfl); (case hr => first | (go_simp; done) | (go_simp; rfl)); intro gb101 hg w4 hbox hb; have n0_ := Aside0.mk (below_step (by repeat (first | (with_reducible first | exact HB.out | apply below_alloc | apply pw_below_drewN | apply below_drew1) | exact HB.out)) hb); have n1_ := Aside0.mk (hbox); have n2_ := Aside0.mk ((by rw [hg]; exact (below_size (by repeat (first | (with_reducible first | exact HB.out | apply below_alloc | apply pw_below_drewN | apply below_drew1) | exact HB.out))) : w.heap.size ≤ gb101)); have n3_ := Aside0.mk ((by rw [hg]; exact (below_size (by repeat (first | (with_reducible first | exact HB.out | apply below_alloc | apply pw_below_drewN | apply below_drew1) | exact HB.out))) : w.heap.size ≤ gb101)); clear HB; have HB := n0_; have BK101 := n1_; have GW101 := n2_; have GE101 := n3_; clear n0_ n1_ n2_ n3_; clear hb hbox hg))
 go_loopg [7] k (fun kq v7 w' => ∃ (x7_1 : Int), v7 = .int .i64 x7_1 ∧ Aside0 (spec_l6In.l0 kq a1 a2 x7_1 a0_0 a0_1 = some r) ∧ Aside0 (kq ≤ k) ∧ Aside0 (w'.heap[gb101]? = some (.cells #[.int .i64 a0_0, .string a0_1] 35 (0, 0))) ∧ Aside0 (Below w.heap.size w w'))
 case atStart => exact ⟨(0), (by first | rfl | (simp; done) | (simp [*]; done)), H', ⟨Nat.le_refl _⟩, ⟨by (with_reducible repeat (first | refine blk_drewN ?_ _ | refine blk_drew ?_ | refine blk_alloc ?_ _)); exact BK101.out⟩, ⟨by repeat (first | (with_reducible first | exact HB.out | apply below_alloc | apply pw_below_drewN | apply below_drew1 | refine below_set ?_ GE101.out) | exact HB.out)⟩⟩
 case round =>
  clear H'
  obtain ⟨x7_1, rfl, HA, HK1, BK101, HB⟩ := hrel
  cases gk with
  | zero => exact absurd HA.out (by simp [spec_l6In.l0])
  | succ k1 =>
   have H := HA.out
   clear HA
   simp only [spec_l6In.l0] at H
   by_cases c5 : x7_1 < a0_0
   ·rw [if_pos c5] at H
    have c5b0 : decide (x7_1 < a0_0) = true := decide_eq_true c5
    clear c5
    have H' := Aside0.mk H
    clear H
    have hcz6_0 : wr.cell? ⟨gb101, 0, none⟩ = some (.int .i64 a0_0) := (blk_cell BK101.out 0).trans rfl
    have hcz6_1 : wr.cell? ⟨gb101, 1, none⟩ = some (.string a0_1) := (blk_cell BK101.out 1).trans rfl
    have hfz6_0 := blk_frozen BK101.out 0
    have hfz6_1 := blk_frozen BK101.out 1
    go_wp2
    go_loopg [8] k1 (fun kq v8 w' => ∃ (x8_2 : Int), v8 = .int .i64 x8_2 ∧ Aside0 (spec_l6In.l1 kq a1 a2 x7_1 x8_2 a0_0 a0_1 = some r) ∧ Aside0 (kq ≤ k1) ∧ Aside0 (w'.heap[gb101]? = some (.cells #[.int .i64 a0_0, .string a0_1] 35 (0, 0))) ∧ Aside0 (Below w.heap.size w w'))
    case atStart => exact ⟨(wrap64 (x7_1 + 1)), (by first | rfl | (simp; done) | (simp [*]; done)), H', ⟨Nat.le_refl _⟩, ⟨by (with_reducible repeat (first | refine blk_drewN ?_ _ | refine blk_drew ?_ | refine blk_alloc ?_ _)); exact BK101.out⟩, ⟨by repeat (first | (with_reducible first | exact HB.out | apply below_alloc | apply pw_below_drewN | apply below_drew1 | refine below_set ?_ GE101.out) | exact HB.out)⟩⟩
    case round =>
     clear H'
     try clear c5
     try clear c5b0
     try clear hcz6_0
     try clear hcz6_1
     try clear hfz6_0
     try clear hfz6_1
     obtain ⟨x8_2, rfl, HA, HK2, BK101, HB⟩ := hrel
     cases gk with
     | zero => exact absurd HA.out (by simp [spec_l6In.l1])
     | succ k2 =>
      have H := HA.out
      clear HA
      simp only [spec_l6In.l1] at H
      by_cases c7 : x8_2 < a0_0
      ·rw [if_pos c7] at H
       have c7b0 : decide (x8_2 < a0_0) = true := decide_eq_true c7
       clear c7
       have H' := Aside0.mk H
       clear H
       have hcz8_0 : wr.cell? ⟨gb101, 0, none⟩ = some (.int .i64 a0_0) := (blk_cell BK101.out 0).trans rfl
       have hcz8_1 : wr.cell? ⟨gb101, 1, none⟩ = some (.string a0_1) := (blk_cell BK101.out 1).trans rfl
       have hfz8_0 := blk_frozen BK101.out 0
       have hfz8_1 := blk_frozen BK101.out 1
       go_wp2
       go_loopg [9] k2 (fun kq v9 w' => ∃ (x9_3 : Int), v9 = .int .i64 x9_3 ∧ Aside0 (spec_l6In.l2 kq a1 a2 x7_1 x8_2 x9_3 a0_0 a0_1 = some r) ∧ Aside0 (kq ≤ k2) ∧ Aside0 (w'.heap[gb101]? = some (.cells #[.int .i64 a0_0, .string a0_1] 35 (0, 0))) ∧ Aside0 (Below w.heap.size w w'))
       case atStart => exact ⟨(wrap64 (x8_2 + 1)), (by first | rfl | (simp; done) | (simp [*]; done)), H', ⟨Nat.le_refl _⟩, ⟨by (with_reducible repeat (first | refine blk_drewN ?_ _ | refine blk_drew ?_ | refine blk_alloc ?_ _)); exact BK101.out⟩, ⟨by repeat (first | (with_reducible first | exact HB.out | apply below_alloc | apply pw_below_drewN | apply below_drew1 | refine below_set ?_ GE101.out) | exact HB.out)⟩⟩
       case round =>
        clear H'
        try clear c5
        try clear c5b0
        try clear c7
        try clear c7b0
        try clear hcz6_0
        try clear hcz6_1
        try clear hcz8_0
        try clear hcz8_1
        try clear hfz6_0
        try clear hfz6_1
        try clear hfz8_0
        try clear hfz8_1
        obtain ⟨x9_3, rfl, HA, HK3, BK101, HB⟩ := hrel
        cases gk with
        | zero => exact absurd HA.out (by simp [spec_l6In.l2])
        | succ k3 =>
         have H := HA.out
         clear HA
         simp only [spec_l6In.l2] at H
         by_cases c9 : x9_3 < a0_0
         ·rw [if_pos c9] at H
          have c9b0 : decide (x9_3 < a0_0) = true := decide_eq_true c9
          clear c9
          by_cases c10 : a2 = x7_1
          ·rw [if_pos c10] at H
           have c10b0 : (a2 == x7_1) = true := beq_iff_eq.mpr c10
           have c10b1 : (a2 != x7_1) = false := bne_eq_false_iff_eq.mpr c10
           clear c10
           have H' := Aside0.mk H
           clear H
           have hcz11_0 : wr.cell? ⟨gb101, 0, none⟩ = some (.int .i64 a0_0) := (blk_cell BK101.out 0).trans rfl
           have hcz11_1 : wr.cell? ⟨gb101, 1, none⟩ = some (.string a0_1) := (blk_cell BK101.out 1).trans rfl
           have hfz11_0 := blk_frozen BK101.out 0
           have hfz11_1 := blk_frozen BK101.out 1
           go_wp2
           go_roundg k3
           case measure => have := HK1.out; have := HK2.out; have := HK3.out; omega
           case rel => exact ⟨(wrap64 (x9_3 + 1)), (by first | rfl | (simp; done) | (simp [*]; done)), H', ⟨by have := HK1.out; have := HK2.out; have := HK3.out; omega⟩, ⟨by (with_reducible repeat (first | refine blk_drewN ?_ _ | refine blk_drew ?_ | refine blk_alloc ?_ _)); exact BK101.out⟩, ⟨by repeat (first | (with_reducible first | exact HB.out | apply below_alloc | apply pw_below_drewN | apply below_drew1 | refine below_set ?_ GE101.out) | exact HB.out)⟩⟩
          ·rw [if_neg c10] at H
           have c10b0 : (a2 == x7_1) = false := beq_eq_false_iff_ne.mpr c10
           have c10b1 : (a2 != x7_1) = true := bne_iff_ne.mpr c10
           by_cases c12 : a2 = x8_2
           ·rw [if_pos c12] at H
            have c12b0 : (a2 == x8_2) = true := beq_iff_eq.mpr c12
            have c12b1 : (a2 != x8_2) = false := bne_eq_false_iff_eq.mpr c12
            clear c12
            have H' := Aside0.mk H
            clear H
            have hcz13_0 : wr.cell? ⟨gb101, 0, none⟩ = some (.int .i64 a0_0) := (blk_cell BK101.out 0).trans rfl
            have hcz13_1 : wr.cell? ⟨gb101, 1, none⟩ = some (.string a0_1) := (blk_cell BK101.out 1).trans rfl
            have hfz13_0 := blk_frozen BK101.out 0
            have hfz13_1 := blk_frozen BK101.out 1
            go_wp2
            go_roundg k3
            case measure => have := HK1.out; have := HK2.out; have := HK3.out; omega
            case rel => exact ⟨(wrap64 (x9_3 + 1)), (by first | rfl | (simp; done) | (simp [*]; done)), H', ⟨by have := HK1.out; have := HK2.out; have := HK3.out; omega⟩, ⟨by (with_reducible repeat (first | refine blk_drewN ?_ _ | refine blk_drew ?_ | refine blk_alloc ?_ _)); exact BK101.out⟩, ⟨by repeat (first | (with_reducible first | exact HB.out | apply below_alloc | apply pw_below_drewN | apply below_drew1 | refine below_set ?_ GE101.out) | exact HB.out)⟩⟩
           ·rw [if_neg c12] at H
            have c12b0 : (a2 == x8_2) = false := beq_eq_false_iff_ne.mpr c12
            have c12b1 : (a2 != x8_2) = true := bne_iff_ne.mpr c12
            by_cases c14 : a2 = x9_3
            ·rw [if_pos c14] at H
             have c14b0 : (a2 == x9_3) = true := beq_iff_eq.mpr c14
             have c14b1 : (a2 != x9_3) = false := bne_eq_false_iff_eq.mpr c14
             clear c14
             have H' := Aside0.mk H
             clear H
             have hcz15_0 : wr.cell? ⟨gb101, 0, none⟩ = some (.int .i64 a0_0) := (blk_cell BK101.out 0).trans rfl
             have hcz15_1 : wr.cell? ⟨gb101, 1, none⟩ = some (.string a0_1) := (blk_cell BK101.out 1).trans rfl
             have hfz15_0 := blk_frozen BK101.out 0
             have hfz15_1 := blk_frozen BK101.out 1
             go_wp2
             go_roundg k3
             case measure => have := HK1.out; have := HK2.out; have := HK3.out; omega
             case rel => exact ⟨(wrap64 (x9_3 + 1)), (by first | rfl | (simp; done) | (simp [*]; done)), H', ⟨by have := HK1.out; have := HK2.out; have := HK3.out; omega⟩, ⟨by (with_reducible repeat (first | refine blk_drewN ?_ _ | refine blk_drew ?_ | refine blk_alloc ?_ _)); exact BK101.out⟩, ⟨by repeat (first | (with_reducible first | exact HB.out | apply below_alloc | apply pw_below_drewN | apply below_drew1 | refine below_set ?_ GE101.out) | exact HB.out)⟩⟩
            ·rw [if_neg c14] at H
             have c14b0 : (a2 == x9_3) = false := beq_eq_false_iff_ne.mpr c14
             have c14b1 : (a2 != x9_3) = true := bne_iff_ne.mpr c14
             replace H := Option.bind_eq_some_iff.mp H
             obtain ⟨t102, A160, H⟩ := H
             replace H : (if t102 = true then ((spec_l6Has.f a1 x8_2).bind fun t103 => (if t103 = true then ((spec_l6Has.f a1 x9_3).bind fun t104 => (if t104 = true then ((spec_l5Inner.f k3 a0_0 a0_1 (([a2, x7_1, x8_2, x9_3] : List Int))).bind fun t108 => (if t108 = a2 then (some true) else (spec_l6In.l2 k3 a1 a2 x7_1 x8_2 (wrap64 (x9_3 + 1)) a0_0 a0_1))) else (spec_l6In.l2 k3 a1 a2 x7_1 x8_2 (wrap64 (x9_3 + 1)) a0_0 a0_1))) else (spec_l6In.l2 k3 a1 a2 x7_1 x8_2 (wrap64 (x9_3 + 1)) a0_0 a0_1))) else (spec_l6In.l2 k3 a1 a2 x7_1 x8_2 (wrap64 (x9_3 + 1)) a0_0 a0_1)) = some r := H
             have A16 := Aside0.mk A160
             clear A160
             by_cases c17 : t102 = true
             ·subst c17
              have H1 : ((spec_l6Has.f a1 x8_2).bind fun t103 => (if t103 = true then ((spec_l6Has.f a1 x9_3).bind fun t104 => (if t104 = true then ((spec_l5Inner.f k3 a0_0 a0_1 (([a2, x7_1, x8_2, x9_3] : List Int))).bind fun t108 => (if t108 = a2 then (some true) else (spec_l6In.l2 k3 a1 a2 x7_1 x8_2 (wrap64 (x9_3 + 1)) a0_0 a0_1))) else (spec_l6In.l2 k3 a1 a2 x7_1 x8_2 (wrap64 (x9_3 + 1)) a0_0 a0_1))) else (spec_l6In.l2 k3 a1 a2 x7_1 x8_2 (wrap64 (x9_3 + 1)) a0_0 a0_1))) = some r := by rw [if_pos rfl] at H; exact H
              clear H
              have H := H1
              clear H1
              replace H := Option.bind_eq_some_iff.mp H
              obtain ⟨t103, A180, H⟩ := H
              replace H : (if t103 = true then ((spec_l6Has.f a1 x9_3).bind fun t104 => (if t104 = true then ((spec_l5Inner.f k3 a0_0 a0_1 (([a2, x7_1, x8_2, x9_3] : List Int))).bind fun t108 => (if t108 = a2 then (some true) else (spec_l6In.l2 k3 a1 a2 x7_1 x8_2 (wrap64 (x9_3 + 1)) a0_0 a0_1))) else (spec_l6In.l2 k3 a1 a2 x7_1 x8_2 (wrap64 (x9_3 + 1)) a0_0 a0_1))) else (spec_l6In.l2 k3 a1 a2 x7_1 x8_2 (wrap64 (x9_3 + 1)) a0_0 a0_1)) = some r := H
              have A18 := Aside0.mk A180
              clear A180
              by_cases c19 : t103 = true
              ·subst c19
               have H1 : ((spec_l6Has.f a1 x9_3).bind fun t104 => (if t104 = true then ((spec_l5Inner.f k3 a0_0 a0_1 (([a2, x7_1, x8_2, x9_3] : List Int))).bind fun t108 => (if t108 = a2 then (some true) else (spec_l6In.l2 k3 a1 a2 x7_1 x8_2 (wrap64 (x9_3 + 1)) a0_0 a0_1))) else (spec_l6In.l2 k3 a1 a2 x7_1 x8_2 (wrap64 (x9_3 + 1)) a0_0 a0_1))) = some r := by rw [if_pos rfl] at H; exact H
               clear H
               have H := H1
               clear H1
               replace H := Option.bind_eq_some_iff.mp H
               obtain ⟨t104, A200, H⟩ := H
               replace H : (if t104 = true then ((spec_l5Inner.f k3 a0_0 a0_1 (([a2, x7_1, x8_2, x9_3] : List Int))).bind fun t108 => (if t108 = a2 then (some true) else (spec_l6In.l2 k3 a1 a2 x7_1 x8_2 (wrap64 (x9_3 + 1)) a0_0 a0_1))) else (spec_l6In.l2 k3 a1 a2 x7_1 x8_2 (wrap64 (x9_3 + 1)) a0_0 a0_1)) = some r := H
               have A20 := Aside0.mk A200
               clear A200
               by_cases c21 : t104 = true
               ·subst c21
                have H1 : ((spec_l5Inner.f k3 a0_0 a0_1 (([a2, x7_1, x8_2, x9_3] : List Int))).bind fun t108 => (if t108 = a2 then (some true) else (spec_l6In.l2 k3 a1 a2 x7_1 x8_2 (wrap64 (x9_3 + 1)) a0_0 a0_1))) = some r := by rw [if_pos rfl] at H; exact H
                clear H
                have H := H1
                clear H1
                obtain ⟨y105, hy105⟩ : ∃ y_ : List Int, y_ = (([a2, x7_1, x8_2, x9_3] : List Int)) := ⟨_, rfl⟩
                replace H : ((spec_l5Inner.f k3 a0_0 a0_1 y105).bind fun t108 => (if t108 = a2 then (some true) else (spec_l6In.l2 k3 a1 a2 x7_1 x8_2 (wrap64 (x9_3 + 1)) a0_0 a0_1))) = some r := by first | (rw [hy105]; with_reducible exact H) | (have H2_ := (Option.bind_some _ _).symm.trans H; rw [hy105]; with_reducible exact H2_) | (have H2_ := (Option.bind_some _ _).symm.trans H; with_reducible exact H2_) | with_reducible exact H | (rw [hy105]; exact H) | exact H
                have Ny105 := Aside0.mk hy105
                clear hy105
                replace H := Option.bind_eq_some_iff.mp H
                obtain ⟨t108, A220, H⟩ := H
                replace H : (if t108 = a2 then (some true) else (spec_l6In.l2 k3 a1 a2 x7_1 x8_2 (wrap64 (x9_3 + 1)) a0_0 a0_1)) = some r := H
                have A22 := Aside0.mk A220
                clear A220
                by_cases c23 : t108 = a2
                ·rw [if_pos c23] at H
                 have c23b0 : (t108 == a2) = true := beq_iff_eq.mpr c23
                 have c23b1 : (t108 != a2) = false := bne_eq_false_iff_eq.mpr c23
                 clear c23
                 obtain rfl := Option.some.inj H
                 have hcz24_0 : wr.cell? ⟨gb101, 0, none⟩ = some (.int .i64 a0_0) := (blk_cell BK101.out 0).trans rfl
                 have hcz24_1 : wr.cell? ⟨gb101, 1, none⟩ = some (.string a0_1) := (blk_cell BK101.out 1).trans rfl
                 have hfz24_0 := blk_frozen BK101.out 0
                 have hfz24_1 := blk_frozen BK101.out 1
                 go_wp2_with (first | (go_at_call 67; (with_reducible refine (spec_l6Has.calls a1 x7_1 true _ A16.out).mono ?_); rintro e w' ⟨rfl, ⟨nd, rfl⟩⟩) | (go_at_call 67; (with_reducible refine (spec_l6Has.calls a1 x8_2 true _ A18.out).mono ?_); rintro e w' ⟨rfl, ⟨nd, rfl⟩⟩) | (go_at_call 67; (with_reducible refine (spec_l6Has.calls a1 x9_3 true _ A20.out).mono ?_); rintro e w' ⟨rfl, ⟨nd, rfl⟩⟩) | ((with_reducible refine gate_dst (N := 66) rfl ?_); (try (refine gate_guard (by rfl) ?_; dsimp only)); refine Kd.R_lit (Kd.int .i64) _ 3 ?hg (N := 66) ?hd (xs := ([a2, x7_1, x8_2, x9_3] : List Int)) (inner := [.int .i64 a2, .int .i64 x7_1, .int .i64 x8_2, .int .i64 x9_3]) (ok := fun _ => True) (okp := fun _ => True) ?hr ?hp (fun _ hk => hk) trivial (Below.refl _ _) (Nat.le_refl _) (by simp) ?_; (case hd => rfl); (case hg => rfl); (case hr => first | (go_simp; done) | (go_simp; rfl)); (case hp => exact (Reps.one (show Kd.M (Kd.int .i64) _ _ _ a2 [.int .i64 a2] from rfl) (Reps.one (show Kd.M (Kd.int .i64) _ _ _ x7_1 [.int .i64 x7_1] from rfl) (Reps.one (show Kd.M (Kd.int .i64) _ _ _ x8_2 [.int .i64 x8_2] from rfl) (Reps.one (show Kd.M (Kd.int .i64) _ _ _ x9_3 [.int .i64 x9_3] from rfl) (Reps.none _ _)))))); intro v106 w25 ho26 hb hg_ hnew_; clear hg_ hnew_; (first | rw [← Ny105.out] at ho26 | (simp only [Int.reduceToNat] at ho26; rw [← Ny105.out] at ho26)); have n0_ := Aside0.mk (Kd.R_lower ho26 (below_size (by repeat (first | (with_reducible first | exact HB.out | apply below_alloc | apply pw_below_drewN | apply below_drew1 | refine below_set ?_ GE101.out) | exact HB.out)))); have n1_ := Aside0.mk (blk_below (g := gb101) (o := .cells #[.int .i64 a0_0, .string a0_1] 35 (0, 0)) (by (with_reducible repeat (first | refine blk_drewN ?_ _ | refine blk_drew ?_ | refine blk_alloc ?_ _)); exact BK101.out) hb); have n2_ := Aside0.mk (below_step (by repeat (first | (with_reducible first | exact HB.out | apply below_alloc | apply pw_below_drewN | apply below_drew1 | refine below_set ?_ GE101.out) | exact HB.out)) hb); clear BK101; clear HB; have HO107 := n0_; have BK101 := n1_; have HB := n2_; clear n0_ n1_ n2_; clear hb ho26; obtain ⟨Ao27, co27, eo27⟩ := Kd.R_slice HO107.out; subst eo27) | (go_at_call 83; (with_reducible refine (spec_l5Inner.calls k3 a0_0 a0_1 _ _ y105 t108 _ ?side1 ?side2 A22.out).mono ?_); (case side1 => repeat (first | exact (Kd.R_reads' HO107.out).2.2 | (with_reducible refine Kd.C_alloc ?_ _) | (with_reducible refine Kd.C_drewN ?_ _) | (with_reducible refine Kd.C_drew ?_))); (case side2 => exact (Kd.R_reads' HO107.out).2.1); rintro e w28 ⟨rfl, hb⟩; have n0_ := Aside0.mk (Kd.R_below (by (with_reducible repeat (first | apply Kd.R_alloc | apply Kd.R_drewN | apply Kd.R_drew)); exact HO107.out) hb); have n1_ := Aside0.mk (blk_below (g := gb101) (o := .cells #[.int .i64 a0_0, .string a0_1] 35 (0, 0)) (by (with_reducible repeat (first | refine blk_drewN ?_ _ | refine blk_drew ?_ | refine blk_alloc ?_ _)); exact BK101.out) hb); have n2_ := Aside0.mk (below_step (by repeat (first | (with_reducible first | exact HB.out | apply below_alloc | apply pw_below_drewN | apply below_drew1 | refine below_set ?_ GE101.out) | exact HB.out)) hb); clear HO107; clear BK101; clear HB; have HO107 := n0_; have BK101 := n1_; have HB := n2_; clear n0_ n1_ n2_; (try clear hb); (try clear hb2); (try clear hk); (try clear hi)))
                 go_ret
                 exact ⟨by first | rfl | (simp [errW_none, errW_some] <;> rfl) | (simp [*, errW_none, errW_some] <;> rfl), by repeat (first | (with_reducible first | exact HB.out | apply below_alloc | apply pw_below_drewN | apply below_drew1 | refine below_set ?_ GE101.out) | exact HB.out)⟩
                ·rw [if_neg c23] at H
                 have c23b0 : (t108 == a2) = false := beq_eq_false_iff_ne.mpr c23
                 have c23b1 : (t108 != a2) = true := bne_iff_ne.mpr c23
                 have H' := Aside0.mk H
                 clear H
                 have hcz29_0 : wr.cell? ⟨gb101, 0, none⟩ = some (.int .i64 a0_0) := (blk_cell BK101.out 0).trans rfl
                 have hcz29_1 : wr.cell? ⟨gb101, 1, none⟩ = some (.string a0_1) := (blk_cell BK101.out 1).trans rfl
                 have hfz29_0 := blk_frozen BK101.out 0
                 have hfz29_1 := blk_frozen BK101.out 1
                 go_wp2_with (first | (go_at_call 67; (with_reducible refine (spec_l6Has.calls a1 x7_1 true _ A16.out).mono ?_); rintro e w' ⟨rfl, ⟨nd, rfl⟩⟩) | (go_at_call 67; (with_reducible refine (spec_l6Has.calls a1 x8_2 true _ A18.out).mono ?_); rintro e w' ⟨rfl, ⟨nd, rfl⟩⟩) | (go_at_call 67; (with_reducible refine (spec_l6Has.calls a1 x9_3 true _ A20.out).mono ?_); rintro e w' ⟨rfl, ⟨nd, rfl⟩⟩) | ((with_reducible refine gate_dst (N := 66) rfl ?_); (try (refine gate_guard (by rfl) ?_; dsimp only)); refine Kd.R_lit (Kd.int .i64) _ 3 ?hg (N := 66) ?hd (xs := ([a2, x7_1, x8_2, x9_3] : List Int)) (inner := [.int .i64 a2, .int .i64 x7_1, .int .i64 x8_2, .int .i64 x9_3]) (ok := fun _ => True) (okp := fun _ => True) ?hr ?hp (fun _ hk => hk) trivial (Below.refl _ _) (Nat.le_refl _) (by simp) ?_; (case hd => rfl); (case hg => rfl); (case hr => first | (go_simp; done) | (go_simp; rfl)); (case hp => exact (Reps.one (show Kd.M (Kd.int .i64) _ _ _ a2 [.int .i64 a2] from rfl) (Reps.one (show Kd.M (Kd.int .i64) _ _ _ x7_1 [.int .i64 x7_1] from rfl) (Reps.one (show Kd.M (Kd.int .i64) _ _ _ x8_2 [.int .i64 x8_2] from rfl) (Reps.one (show Kd.M (Kd.int .i64) _ _ _ x9_3 [.int .i64 x9_3] from rfl) (Reps.none _ _)))))); intro v106 w30 ho31 hb hg_ hnew_; clear hg_ hnew_; (first | rw [← Ny105.out] at ho31 | (simp only [Int.reduceToNat] at ho31; rw [← Ny105.out] at ho31)); have n0_ := Aside0.mk (Kd.R_lower ho31 (below_size (by repeat (first | (with_reducible first | exact HB.out | apply below_alloc | apply pw_below_drewN | apply below_drew1 | refine below_set ?_ GE101.out) | exact HB.out)))); have n1_ := Aside0.mk (blk_below (g := gb101) (o := .cells #[.int .i64 a0_0, .string a0_1] 35 (0, 0)) (by (with_reducible repeat (first | refine blk_drewN ?_ _ | refine blk_drew ?_ | refine blk_alloc ?_ _)); exact BK101.out) hb); have n2_ := Aside0.mk (below_step (by repeat (first | (with_reducible first | exact HB.out | apply below_alloc | apply pw_below_drewN | apply below_drew1 | refine below_set ?_ GE101.out) | exact HB.out)) hb); clear BK101; clear HB; have HO107 := n0_; have BK101 := n1_; have HB := n2_; clear n0_ n1_ n2_; clear hb ho31; obtain ⟨Ao32, co32, eo32⟩ := Kd.R_slice HO107.out; subst eo32) | (go_at_call 83; (with_reducible refine (spec_l5Inner.calls k3 a0_0 a0_1 _ _ y105 t108 _ ?side1 ?side2 A22.out).mono ?_); (case side1 => repeat (first | exact (Kd.R_reads' HO107.out).2.2 | (with_reducible refine Kd.C_alloc ?_ _) | (with_reducible refine Kd.C_drewN ?_ _) | (with_reducible refine Kd.C_drew ?_))); (case side2 => exact (Kd.R_reads' HO107.out).2.1); rintro e w33 ⟨rfl, hb⟩; have n0_ := Aside0.mk (Kd.R_below (by (with_reducible repeat (first | apply Kd.R_alloc | apply Kd.R_drewN | apply Kd.R_drew)); exact HO107.out) hb); have n1_ := Aside0.mk (blk_below (g := gb101) (o := .cells #[.int .i64 a0_0, .string a0_1] 35 (0, 0)) (by (with_reducible repeat (first | refine blk_drewN ?_ _ | refine blk_drew ?_ | refine blk_alloc ?_ _)); exact BK101.out) hb); have n2_ := Aside0.mk (below_step (by repeat (first | (with_reducible first | exact HB.out | apply below_alloc | apply pw_below_drewN | apply below_drew1 | refine below_set ?_ GE101.out) | exact HB.out)) hb); clear HO107; clear BK101; clear HB; have HO107 := n0_; have BK101 := n1_; have HB := n2_; clear n0_ n1_ n2_; (try clear hb); (try clear hb2); (try clear hk); (try clear hi)))
                 go_roundg k3
                 case measure => have := HK1.out; have := HK2.out; have := HK3.out; omega
                 case rel => exact ⟨(wrap64 (x9_3 + 1)), (by first | rfl | (simp; done) | (simp [*]; done)), H', ⟨by have := HK1.out; have := HK2.out; have := HK3.out; omega⟩, ⟨by (with_reducible repeat (first | refine blk_drewN ?_ _ | refine blk_drew ?_ | refine blk_alloc ?_ _)); exact BK101.out⟩, ⟨by repeat (first | (with_reducible first | exact HB.out | apply below_alloc | apply pw_below_drewN | apply below_drew1 | refine below_set ?_ GE101.out) | exact HB.out)⟩⟩
               ·replace c21 := Bool.eq_false_iff.mpr c21
                subst c21
                have H1 : (spec_l6In.l2 k3 a1 a2 x7_1 x8_2 (wrap64 (x9_3 + 1)) a0_0 a0_1) = some r := by rw [if_neg (show ¬ (false = true) by decide)] at H; exact H
                clear H
                have H := H1
                clear H1
                have H' := Aside0.mk H
                clear H
                have hcz34_0 : wr.cell? ⟨gb101, 0, none⟩ = some (.int .i64 a0_0) := (blk_cell BK101.out 0).trans rfl
                have hcz34_1 : wr.cell? ⟨gb101, 1, none⟩ = some (.string a0_1) := (blk_cell BK101.out 1).trans rfl
                have hfz34_0 := blk_frozen BK101.out 0
                have hfz34_1 := blk_frozen BK101.out 1
                go_wp2_with (first | (go_at_call 67; (with_reducible refine (spec_l6Has.calls a1 x7_1 true _ A16.out).mono ?_); rintro e w' ⟨rfl, ⟨nd, rfl⟩⟩) | (go_at_call 67; (with_reducible refine (spec_l6Has.calls a1 x8_2 true _ A18.out).mono ?_); rintro e w' ⟨rfl, ⟨nd, rfl⟩⟩) | (go_at_call 67; (with_reducible refine (spec_l6Has.calls a1 x9_3 false _ A20.out).mono ?_); rintro e w' ⟨rfl, ⟨nd, rfl⟩⟩))
                go_roundg k3
                case measure => have := HK1.out; have := HK2.out; have := HK3.out; omega
                case rel => exact ⟨(wrap64 (x9_3 + 1)), (by first | rfl | (simp; done) | (simp [*]; done)), H', ⟨by have := HK1.out; have := HK2.out; have := HK3.out; omega⟩, ⟨by (with_reducible repeat (first | refine blk_drewN ?_ _ | refine blk_drew ?_ | refine blk_alloc ?_ _)); exact BK101.out⟩, ⟨by repeat (first | (with_reducible first | exact HB.out | apply below_alloc | apply pw_below_drewN | apply below_drew1 | refine below_set ?_ GE101.out) | exact HB.out)⟩⟩
              ·replace c19 := Bool.eq_false_iff.mpr c19
               subst c19
               have H1 : (spec_l6In.l2 k3 a1 a2 x7_1 x8_2 (wrap64 (x9_3 + 1)) a0_0 a0_1) = some r := by rw [if_neg (show ¬ (false = true) by decide)] at H; exact H
               clear H
               have H := H1
               clear H1
               have H' := Aside0.mk H
               clear H
               have hcz35_0 : wr.cell? ⟨gb101, 0, none⟩ = some (.int .i64 a0_0) := (blk_cell BK101.out 0).trans rfl
               have hcz35_1 : wr.cell? ⟨gb101, 1, none⟩ = some (.string a0_1) := (blk_cell BK101.out 1).trans rfl
               have hfz35_0 := blk_frozen BK101.out 0
               have hfz35_1 := blk_frozen BK101.out 1
               go_wp2_with (first | (go_at_call 67; (with_reducible refine (spec_l6Has.calls a1 x7_1 true _ A16.out).mono ?_); rintro e w' ⟨rfl, ⟨nd, rfl⟩⟩) | (go_at_call 67; (with_reducible refine (spec_l6Has.calls a1 x8_2 false _ A18.out).mono ?_); rintro e w' ⟨rfl, ⟨nd, rfl⟩⟩))
               go_roundg k3
               case measure => have := HK1.out; have := HK2.out; have := HK3.out; omega
               case rel => exact ⟨(wrap64 (x9_3 + 1)), (by first | rfl | (simp; done) | (simp [*]; done)), H', ⟨by have := HK1.out; have := HK2.out; have := HK3.out; omega⟩, ⟨by (with_reducible repeat (first | refine blk_drewN ?_ _ | refine blk_drew ?_ | refine blk_alloc ?_ _)); exact BK101.out⟩, ⟨by repeat (first | (with_reducible first | exact HB.out | apply below_alloc | apply pw_below_drewN | apply below_drew1 | refine below_set ?_ GE101.out) | exact HB.out)⟩⟩
             ·replace c17 := Bool.eq_false_iff.mpr c17
              subst c17
              have H1 : (spec_l6In.l2 k3 a1 a2 x7_1 x8_2 (wrap64 (x9_3 + 1)) a0_0 a0_1) = some r := by rw [if_neg (show ¬ (false = true) by decide)] at H; exact H
              clear H
              have H := H1
              clear H1
              have H' := Aside0.mk H
              clear H
              have hcz36_0 : wr.cell? ⟨gb101, 0, none⟩ = some (.int .i64 a0_0) := (blk_cell BK101.out 0).trans rfl
              have hcz36_1 : wr.cell? ⟨gb101, 1, none⟩ = some (.string a0_1) := (blk_cell BK101.out 1).trans rfl
              have hfz36_0 := blk_frozen BK101.out 0
              have hfz36_1 := blk_frozen BK101.out 1
              go_wp2_with (first | (go_at_call 67; (with_reducible refine (spec_l6Has.calls a1 x7_1 false _ A16.out).mono ?_); rintro e w' ⟨rfl, ⟨nd, rfl⟩⟩))
              go_roundg k3
              case measure => have := HK1.out; have := HK2.out; have := HK3.out; omega
              case rel => exact ⟨(wrap64 (x9_3 + 1)), (by first | rfl | (simp; done) | (simp [*]; done)), H', ⟨by have := HK1.out; have := HK2.out; have := HK3.out; omega⟩, ⟨by (with_reducible repeat (first | refine blk_drewN ?_ _ | refine blk_drew ?_ | refine blk_alloc ?_ _)); exact BK101.out⟩, ⟨by repeat (first | (with_reducible first | exact HB.out | apply below_alloc | apply pw_below_drewN | apply below_drew1 | refine below_set ?_ GE101.out) | exact HB.out)⟩⟩
         ·rw [if_neg c9] at H
          have c9b0 : decide (x9_3 < a0_0) = false := decide_eq_false c9
          clear c9
          have H' := Aside0.mk H
          clear H
          have hcz37_0 : wr.cell? ⟨gb101, 0, none⟩ = some (.int .i64 a0_0) := (blk_cell BK101.out 0).trans rfl
          have hcz37_1 : wr.cell? ⟨gb101, 1, none⟩ = some (.string a0_1) := (blk_cell BK101.out 1).trans rfl
          have hfz37_0 := blk_frozen BK101.out 0
          have hfz37_1 := blk_frozen BK101.out 1
          go_wp2
          go_roundg k3
          case measure => have := HK1.out; have := HK2.out; have := HK3.out; omega
          case rel => exact ⟨(wrap64 (x8_2 + 1)), (by first | rfl | (simp; done) | (simp [*]; done)), H', ⟨by have := HK1.out; have := HK2.out; have := HK3.out; omega⟩, ⟨by (with_reducible repeat (first | refine blk_drewN ?_ _ | refine blk_drew ?_ | refine blk_alloc ?_ _)); exact BK101.out⟩, ⟨by repeat (first | (with_reducible first | exact HB.out | apply below_alloc | apply pw_below_drewN | apply below_drew1 | refine below_set ?_ GE101.out) | exact HB.out)⟩⟩
      ·rw [if_neg c7] at H
       have c7b0 : decide (x8_2 < a0_0) = false := decide_eq_false c7
       clear c7
       have H' := Aside0.mk H
       clear H
       have hcz38_0 : wr.cell? ⟨gb101, 0, none⟩ = some (.int .i64 a0_0) := (blk_cell BK101.out 0).trans rfl
       have hcz38_1 : wr.cell? ⟨gb101, 1, none⟩ = some (.string a0_1) := (blk_cell BK101.out 1).trans rfl
       have hfz38_0 := blk_frozen BK101.out 0
       have hfz38_1 := blk_frozen BK101.out 1
       go_wp2
       go_roundg k2
       case measure => have := HK1.out; have := HK2.out; omega
       case rel => exact ⟨(wrap64 (x7_1 + 1)), (by first | rfl | (simp; done) | (simp [*]; done)), H', ⟨by have := HK1.out; have := HK2.out; omega⟩, ⟨by (with_reducible repeat (first | refine blk_drewN ?_ _ | refine blk_drew ?_ | refine blk_alloc ?_ _)); exact BK101.out⟩, ⟨by repeat (first | (with_reducible first | exact HB.out | apply below_alloc | apply pw_below_drewN | apply below_drew1 | refine below_set ?_ GE101.out) | exact HB.out)⟩⟩
   ·rw [if_neg c5] at H
    have c5b0 : decide (x7_1 < a0_0) = false := decide_eq_false c5
    clear c5
    obtain rfl := Option.some.inj H
    have hcz39_0 : wr.cell? ⟨gb101, 0, none⟩ = some (.int .i64 a0_0) := (blk_cell BK101.out 0).trans rfl
    have hcz39_1 : wr.cell? ⟨gb101, 1, none⟩ = some (.string a0_1) := (blk_cell BK101.out 1).trans rfl
    have hfz39_0 := blk_frozen BK101.out 0
    have hfz39_1 := blk_frozen BK101.out 1
    go_wp2
    go_ret
    exact ⟨by first | rfl | (simp [errW_none, errW_some] <;> rfl) | (simp [*, errW_none, errW_some] <;> rfl), by repeat (first | (with_reducible first | exact HB.out | apply below_alloc | apply pw_below_drewN | apply below_drew1 | refine below_set ?_ GE101.out) | exact HB.out)⟩
end Go.Proofs.YtobbhjcohkndeaaGreatDoor.P

namespace Go.Proofs.YtobbhjcohkndeaaGreatDoor.P
open Go.RowKit Go.Proofs.YtobbhjcohkndeaaGreatDoorW.PrintWords Go.Proofs.YtobbhjcohkndeaaGreatDoorW.PrintLast Go.Proofs.YtobbhjcohkndeaaGreatDoorW.PrintMore
attribute [local go_sem] max2_int min2_int max_two min_two max_three min_three max_four min_four   -- for this text's walks alone
set_option linter.unusedVariables false
set_option linter.unusedSimpArgs false
/-! ### spec_l6Extreme: function 55 -/
def spec_l6Extreme.l0 : Nat → Int → Int → Int → Int → ByteArray → Option (Int)
 | 0, _, _, _, _, _ => none
 | k + 1, x1, x5, x6, x102000, x102001 => if x6 < x102000 then ((spec_l6Has.f x1 x6).bind fun t102 => (if t102 = true then ((spec_l6In.f k x102000 x102001 x1 x6).bind fun t103 => (if t103 = true then (spec_l6Extreme.l0 k x1 x5 (wrap64 (x6 + 1)) x102000 x102001) else (if 0 ≤ (IntKind.u64.wrap (x6)) then (spec_l6Extreme.l0 k x1 (wrap64 (x5 + (shl .i64 1 (IntKind.u64.wrap (x6))))) (wrap64 (x6 + 1)) x102000 x102001) else (none)))) else (spec_l6Extreme.l0 k x1 x5 (wrap64 (x6 + 1)) x102000 x102001))) else (some x5)
def spec_l6Extreme.f (k : Nat) (a0_0 : Int) (a0_1 : ByteArray) (a1 : Int) : Option (Int) := spec_l6Extreme.l0 k a1 0 0 a0_0 a0_1
theorem spec_l6Extreme.mono_l : ∀ k, (∀ y0 y1 y2 y3 y4, LeO (spec_l6Extreme.l0 k y0 y1 y2 y3 y4) (spec_l6Extreme.l0 (k + 1) y0 y1 y2 y3 y4))
 | 0 => fun _ _ _ _ _ r h => by simp [spec_l6Extreme.l0] at h
 | k + 1 => by
  have ih0 := spec_l6Extreme.mono_l k
  ·intro y0 y1 y2 y3 y4
   unfold spec_l6Extreme.l0
   repeat' first
   | (with_reducible exact ih0 _ _ _ _ _)
   | (with_reducible exact spec_l6In.mono _ _ _ _ _)
   | (with_reducible exact LeO.refl _)
   | (with_reducible exact LeO.none _)
   | (with_reducible refine LeO.ite ?_ ?_)
   | (with_reducible refine LeO.bind ?_ (fun _ => ?_))
theorem spec_l6Extreme.mono : ∀ a0 a1 a2 k, LeO (spec_l6Extreme.f k a0 a1 a2) (spec_l6Extreme.f (k + 1) a0 a1 a2) := by
 intro a0 a1 a2 k
 have ih0 := spec_l6Extreme.mono_l k
 unfold spec_l6Extreme.f
 repeat' first
   | (with_reducible exact ih0 _ _ _ _ _)
   | (with_reducible exact spec_l6In.mono _ _ _ _ _)
   | (with_reducible exact LeO.refl _)
   | (with_reducible exact LeO.none _)
   | (with_reducible refine LeO.ite ?_ ?_)
   | (with_reducible refine LeO.bind ?_ (fun _ => ?_))
set_option maxHeartbeats 8000000 in
set_option maxRecDepth 100000 in
theorem spec_l6Extreme.calls (k : Nat) (a0_0 : Int) (a0_1 : ByteArray) (a1 : Int) (r : Int) (w : World) (h : spec_l6Extreme.f k a0_0 a0_1 a1 = some r) :
  Calls Tryz.prog 55 #[.agg #[.int .i64 a0_0, .string a0_1], .int .i64 a1] w fun e w' => e = .returned (.int .i64 r) ∧ Below w.heap.size w w' := by
 have hu35 := Tryz.underlying35
 have HB := Aside0.mk (Below.refl w.heap.size w)
 have H : (spec_l6Extreme.l0 k a1 0 0 a0_0 a0_1) = some r := h
 clear h
 have H' := Aside0.mk H
 clear H
 go_enter Tryz.func55, Tryz.ntmps55
 go_wp2_with (first | ((with_reducible refine gate_dst (N := 2) rfl ?_); refine box_event ?hg (N := 2) ?hd (cs := #[.int .i64 a0_0, .string a0_1]) (t := 35) ?hr ?_; (case hd => rfl); (case hg => rfl); (case hr => first | (go_simp; done) | (go_simp; rfl)); intro gb101 hg w3 hbox hb; have n0_ := Aside0.mk (below_step (by repeat (first | (with_reducible first | exact HB.out | apply below_alloc | apply pw_below_drewN | apply below_drew1) | exact HB.out)) hb); have n1_ := Aside0.mk (hbox); have n2_ := Aside0.mk ((by rw [hg]; exact (below_size (by repeat (first | (with_reducible first | exact HB.out | apply below_alloc | apply pw_below_drewN | apply below_drew1) | exact HB.out))) : w.heap.size ≤ gb101)); have n3_ := Aside0.mk ((by rw [hg]; exact (below_size (by repeat (first | (with_reducible first | exact HB.out | apply below_alloc | apply pw_below_drewN | apply below_drew1) | exact HB.out))) : w.heap.size ≤ gb101)); clear HB; have HB := n0_; have BK101 := n1_; have GW101 := n2_; have GE101 := n3_; clear n0_ n1_ n2_ n3_; clear hb hbox hg))
 go_loopg [5, 6] k (fun kq v5 v6 w' => ∃ (x5_1 : Int) (x6_1 : Int), v5 = .int .i64 x5_1 ∧ v6 = .int .i64 x6_1 ∧ Aside0 (spec_l6Extreme.l0 kq a1 x5_1 x6_1 a0_0 a0_1 = some r) ∧ Aside0 (kq ≤ k) ∧ Aside0 (w'.heap[gb101]? = some (.cells #[.int .i64 a0_0, .string a0_1] 35 (0, 0))) ∧ Aside0 (Below w.heap.size w w'))
 case atStart => exact ⟨(0), (0), (by first | rfl | (simp; done) | (simp [*]; done)), (by first | rfl | (simp; done) | (simp [*]; done)), H', ⟨Nat.le_refl _⟩, ⟨by (with_reducible repeat (first | refine blk_drewN ?_ _ | refine blk_drew ?_ | refine blk_alloc ?_ _)); exact BK101.out⟩, ⟨by repeat (first | (with_reducible first | exact HB.out | apply below_alloc | apply pw_below_drewN | apply below_drew1 | refine below_set ?_ GE101.out) | exact HB.out)⟩⟩
 case round =>
  clear H'
  obtain ⟨x5_1, x6_1, rfl, rfl, HA, HK1, BK101, HB⟩ := hrel
  cases gk with
  | zero => exact absurd HA.out (by simp [spec_l6Extreme.l0])
  | succ k1 =>
   have H := HA.out
   clear HA
   simp only [spec_l6Extreme.l0] at H
   by_cases c4 : x6_1 < a0_0
   ·rw [if_pos c4] at H
    have c4b0 : decide (x6_1 < a0_0) = true := decide_eq_true c4
    clear c4
    replace H := Option.bind_eq_some_iff.mp H
    obtain ⟨t102, A50, H⟩ := H
    replace H : (if t102 = true then ((spec_l6In.f k1 a0_0 a0_1 a1 x6_1).bind fun t103 => (if t103 = true then (spec_l6Extreme.l0 k1 a1 x5_1 (wrap64 (x6_1 + 1)) a0_0 a0_1) else (if 0 ≤ (IntKind.u64.wrap (x6_1)) then (spec_l6Extreme.l0 k1 a1 (wrap64 (x5_1 + (shl .i64 1 (IntKind.u64.wrap (x6_1))))) (wrap64 (x6_1 + 1)) a0_0 a0_1) else (none)))) else (spec_l6Extreme.l0 k1 a1 x5_1 (wrap64 (x6_1 + 1)) a0_0 a0_1)) = some r := H
    have A5 := Aside0.mk A50
    clear A50
    by_cases c6 : t102 = true
    ·subst c6
     have H1 : ((spec_l6In.f k1 a0_0 a0_1 a1 x6_1).bind fun t103 => (if t103 = true then (spec_l6Extreme.l0 k1 a1 x5_1 (wrap64 (x6_1 + 1)) a0_0 a0_1) else (if 0 ≤ (IntKind.u64.wrap (x6_1)) then (spec_l6Extreme.l0 k1 a1 (wrap64 (x5_1 + (shl .i64 1 (IntKind.u64.wrap (x6_1))))) (wrap64 (x6_1 + 1)) a0_0 a0_1) else (none)))) = some r := by rw [if_pos rfl] at H; exact H
     clear H
     have H := H1
     clear H1
     replace H := Option.bind_eq_some_iff.mp H
     obtain ⟨t103, A70, H⟩ := H
     replace H : (if t103 = true then (spec_l6Extreme.l0 k1 a1 x5_1 (wrap64 (x6_1 + 1)) a0_0 a0_1) else (if 0 ≤ (IntKind.u64.wrap (x6_1)) then (spec_l6Extreme.l0 k1 a1 (wrap64 (x5_1 + (shl .i64 1 (IntKind.u64.wrap (x6_1))))) (wrap64 (x6_1 + 1)) a0_0 a0_1) else (none))) = some r := H
     have A7 := Aside0.mk A70
     clear A70
     by_cases c8 : t103 = true
     ·subst c8
      have H1 : (spec_l6Extreme.l0 k1 a1 x5_1 (wrap64 (x6_1 + 1)) a0_0 a0_1) = some r := by rw [if_pos rfl] at H; exact H
      clear H
      have H := H1
      clear H1
      have H' := Aside0.mk H
      clear H
      have hcz9_0 : wr.cell? ⟨gb101, 0, none⟩ = some (.int .i64 a0_0) := (blk_cell BK101.out 0).trans rfl
      have hcz9_1 : wr.cell? ⟨gb101, 1, none⟩ = some (.string a0_1) := (blk_cell BK101.out 1).trans rfl
      have hfz9_0 := blk_frozen BK101.out 0
      have hfz9_1 := blk_frozen BK101.out 1
      go_wp2_with (first | ((with_reducible refine gate_callee (f := 67) rfl ?_); refine goesL_ (some 15) rfl rfl Tryz.func67 (by kernel_rfl) rfl #[.int .i64 a1, .int .i64 x6_1] rfl (by (try simp only [List.map_toArray, List.map_cons, List.map_nil]); first | done | rfl | (simp only [List.length_drop, List.length_take]; rfl)) ?_; (with_reducible refine (spec_l6Has.calls a1 x6_1 true _ A5.out).mono ?_); rintro e w' ⟨rfl, ⟨nd, rfl⟩⟩; refine ⟨_, rfl, ?_⟩) | (go_at_call 68; (with_reducible refine (spec_l6In.calls k1 a0_0 a0_1 a1 x6_1 true _ A7.out).mono ?_); rintro e w10 ⟨rfl, hb⟩; have n0_ := Aside0.mk (blk_below (g := gb101) (o := .cells #[.int .i64 a0_0, .string a0_1] 35 (0, 0)) (by (with_reducible repeat (first | refine blk_drewN ?_ _ | refine blk_drew ?_ | refine blk_alloc ?_ _)); exact BK101.out) hb); have n1_ := Aside0.mk (below_step (by repeat (first | (with_reducible first | exact HB.out | apply below_alloc | apply pw_below_drewN | apply below_drew1 | refine below_set ?_ GE101.out) | exact HB.out)) hb); clear BK101; clear HB; have BK101 := n0_; have HB := n1_; clear n0_ n1_; (try clear hb); (try clear hb2); (try clear hk); (try clear hi)))
      go_roundg k1
      case measure => have := HK1.out; omega
      case rel => exact ⟨(x5_1), (wrap64 (x6_1 + 1)), (by first | rfl | (simp; done) | (simp [*]; done)), (by first | rfl | (simp; done) | (simp [*]; done)), H', ⟨by have := HK1.out; omega⟩, ⟨by (with_reducible repeat (first | refine blk_drewN ?_ _ | refine blk_drew ?_ | refine blk_alloc ?_ _)); exact BK101.out⟩, ⟨by repeat (first | (with_reducible first | exact HB.out | apply below_alloc | apply pw_below_drewN | apply below_drew1 | refine below_set ?_ GE101.out) | exact HB.out)⟩⟩
     ·replace c8 := Bool.eq_false_iff.mpr c8
      subst c8
      have H1 : (if 0 ≤ (IntKind.u64.wrap (x6_1)) then (spec_l6Extreme.l0 k1 a1 (wrap64 (x5_1 + (shl .i64 1 (IntKind.u64.wrap (x6_1))))) (wrap64 (x6_1 + 1)) a0_0 a0_1) else (none)) = some r := by rw [if_neg (show ¬ (false = true) by decide)] at H; exact H
      clear H
      have H := H1
      clear H1
      obtain ⟨ji11, hji11⟩ : ∃ j_ : Int, (IntKind.u64.wrap (x6_1)) = j_ := ⟨_, rfl⟩
      replace H : (if 0 ≤ (ji11) then (spec_l6Extreme.l0 k1 a1 (wrap64 (x5_1 + (shl .i64 1 (ji11)))) (wrap64 (x6_1 + 1)) a0_0 a0_1) else (none)) = some r := by first | (rw [hji11] at H; exact H) | (simp only [hji11] at H ⊢; exact H)
      (try rw [hji11] at A5)
      (try rw [hji11] at A7)
      by_cases c12 : 0 ≤ (ji11)
      ·rw [if_pos c12] at H
       have c12b0 := eq_true c12
       have c12b1 : decide (0 ≤ (ji11)) = true := decide_eq_true c12
       clear c12
       obtain ⟨ji13, hji13⟩ : ∃ j_ : Int, (shl .i64 1 (ji11)) = j_ := ⟨_, rfl⟩
       replace H : (spec_l6Extreme.l0 k1 a1 (wrap64 (x5_1 + (ji13))) (wrap64 (x6_1 + 1)) a0_0 a0_1) = some r := by first | (rw [hji13] at H; exact H) | (simp only [hji13] at H ⊢; exact H)
       (try rw [hji13] at A5)
       (try rw [hji13] at A7)
       have hji13_ : (IntKind.i64.wrap (1 * 2 ^ min (ji11).toNat 64)) = ji13 := hji13
       have hji13z : (ji11) ≤ 64 → (IntKind.i64.wrap (1 * 2 ^ (ji11).toNat)) = ji13 := shl_small hji13
       have hji13u : (IntKind.i64.wrap (2 ^ min (ji11).toNat 64)) = ji13 := by have h_ := hji13_; rw [Int.one_mul] at h_; exact h_
       have hji13v : (ji11) ≤ 64 → (IntKind.i64.wrap (2 ^ (ji11).toNat)) = ji13 := fun hle_ => by have h_ := hji13z hle_; rw [Int.one_mul] at h_; exact h_
       have hji13y : (wrap64 (1 * 2 ^ min (ji11).toNat 64)) = ji13 := (i64_w _).symm.trans hji13_
       have hji13x : (ji11) ≤ 64 → (wrap64 (1 * 2 ^ (ji11).toNat)) = ji13 := fun h_ => (i64_w _).symm.trans (hji13z h_)
       have H' := Aside0.mk H
       clear H
       have hcz14_0 : wr.cell? ⟨gb101, 0, none⟩ = some (.int .i64 a0_0) := (blk_cell BK101.out 0).trans rfl
       have hcz14_1 : wr.cell? ⟨gb101, 1, none⟩ = some (.string a0_1) := (blk_cell BK101.out 1).trans rfl
       have hfz14_0 := blk_frozen BK101.out 0
       have hfz14_1 := blk_frozen BK101.out 1
       go_wp2_with (first | ((with_reducible refine gate_callee (f := 67) rfl ?_); refine goesL_ (some 15) rfl rfl Tryz.func67 (by kernel_rfl) rfl #[.int .i64 a1, .int .i64 x6_1] rfl (by (try simp only [List.map_toArray, List.map_cons, List.map_nil]); first | done | rfl | (simp only [List.length_drop, List.length_take]; rfl)) ?_; (with_reducible refine (spec_l6Has.calls a1 x6_1 true _ A5.out).mono ?_); rintro e w' ⟨rfl, ⟨nd, rfl⟩⟩; refine ⟨_, rfl, ?_⟩) | (go_at_call 68; (with_reducible refine (spec_l6In.calls k1 a0_0 a0_1 a1 x6_1 false _ A7.out).mono ?_); rintro e w15 ⟨rfl, hb⟩; have n0_ := Aside0.mk (blk_below (g := gb101) (o := .cells #[.int .i64 a0_0, .string a0_1] 35 (0, 0)) (by (with_reducible repeat (first | refine blk_drewN ?_ _ | refine blk_drew ?_ | refine blk_alloc ?_ _)); exact BK101.out) hb); have n1_ := Aside0.mk (below_step (by repeat (first | (with_reducible first | exact HB.out | apply below_alloc | apply pw_below_drewN | apply below_drew1 | refine below_set ?_ GE101.out) | exact HB.out)) hb); clear BK101; clear HB; have BK101 := n0_; have HB := n1_; clear n0_ n1_; (try clear hb); (try clear hb2); (try clear hk); (try clear hi)))
       go_roundg k1
       case measure => have := HK1.out; omega
       case rel => exact ⟨(wrap64 (x5_1 + (ji13))), (wrap64 (x6_1 + 1)), (by first | rfl | (simp; done) | (simp only [← hji13] <;> (first | rfl | simp)) | (simp [*]; done)), (by first | rfl | (simp; done) | (simp [*]; done)), H', ⟨by have := HK1.out; omega⟩, ⟨by (with_reducible repeat (first | refine blk_drewN ?_ _ | refine blk_drew ?_ | refine blk_alloc ?_ _)); exact BK101.out⟩, ⟨by repeat (first | (with_reducible first | exact HB.out | apply below_alloc | apply pw_below_drewN | apply below_drew1 | refine below_set ?_ GE101.out) | exact HB.out)⟩⟩
      ·rw [if_neg c12] at H
       exact absurd H (by simp)
    ·replace c6 := Bool.eq_false_iff.mpr c6
     subst c6
     have H1 : (spec_l6Extreme.l0 k1 a1 x5_1 (wrap64 (x6_1 + 1)) a0_0 a0_1) = some r := by rw [if_neg (show ¬ (false = true) by decide)] at H; exact H
     clear H
     have H := H1
     clear H1
     have H' := Aside0.mk H
     clear H
     have hcz16_0 : wr.cell? ⟨gb101, 0, none⟩ = some (.int .i64 a0_0) := (blk_cell BK101.out 0).trans rfl
     have hcz16_1 : wr.cell? ⟨gb101, 1, none⟩ = some (.string a0_1) := (blk_cell BK101.out 1).trans rfl
     have hfz16_0 := blk_frozen BK101.out 0
     have hfz16_1 := blk_frozen BK101.out 1
     go_wp2_with (first | ((with_reducible refine gate_callee (f := 67) rfl ?_); refine goesL_ (some 15) rfl rfl Tryz.func67 (by kernel_rfl) rfl #[.int .i64 a1, .int .i64 x6_1] rfl (by (try simp only [List.map_toArray, List.map_cons, List.map_nil]); first | done | rfl | (simp only [List.length_drop, List.length_take]; rfl)) ?_; (with_reducible refine (spec_l6Has.calls a1 x6_1 false _ A5.out).mono ?_); rintro e w' ⟨rfl, ⟨nd, rfl⟩⟩; refine ⟨_, rfl, ?_⟩))
     go_roundg k1
     case measure => have := HK1.out; omega
     case rel => exact ⟨(x5_1), (wrap64 (x6_1 + 1)), (by first | rfl | (simp; done) | (simp [*]; done)), (by first | rfl | (simp; done) | (simp [*]; done)), H', ⟨by have := HK1.out; omega⟩, ⟨by (with_reducible repeat (first | refine blk_drewN ?_ _ | refine blk_drew ?_ | refine blk_alloc ?_ _)); exact BK101.out⟩, ⟨by repeat (first | (with_reducible first | exact HB.out | apply below_alloc | apply pw_below_drewN | apply below_drew1 | refine below_set ?_ GE101.out) | exact HB.out)⟩⟩
   ·rw [if_neg c4] at H
    have c4b0 : decide (x6_1 < a0_0) = false := decide_eq_false c4
    clear c4
    obtain rfl := Option.some.inj H
    have hcz17_0 : wr.cell? ⟨gb101, 0, none⟩ = some (.int .i64 a0_0) := (blk_cell BK101.out 0).trans rfl
    have hcz17_1 : wr.cell? ⟨gb101, 1, none⟩ = some (.string a0_1) := (blk_cell BK101.out 1).trans rfl
    have hfz17_0 := blk_frozen BK101.out 0
    have hfz17_1 := blk_frozen BK101.out 1
    go_wp2
    go_ret
    exact ⟨by first | rfl | (simp [errW_none, errW_some] <;> rfl) | (simp [*, errW_none, errW_some] <;> rfl), by repeat (first | (with_reducible first | exact HB.out | apply below_alloc | apply pw_below_drewN | apply below_drew1 | refine below_set ?_ GE101.out) | exact HB.out)⟩
end Go.Proofs.YtobbhjcohkndeaaGreatDoor.P

namespace Go.Proofs.YtobbhjcohkndeaaGreatDoor.P
open Go.RowKit Go.Proofs.YtobbhjcohkndeaaGreatDoorW.PrintWords Go.Proofs.YtobbhjcohkndeaaGreatDoorW.PrintLast Go.Proofs.YtobbhjcohkndeaaGreatDoorW.PrintMore
attribute [local go_sem] max2_int min2_int max_two min_two max_three min_three max_four min_four   -- for this text's walks alone
set_option linter.unusedVariables false
set_option linter.unusedSimpArgs false
/-! ### spec_HullSize: function 40 -/
def spec_HullSize.f (k : Nat) (a0_0 : Int) (a0_1 : ByteArray) : Option (Int) := (spec_IsAcyclic.f k a0_0 a0_1).bind fun t102 => (if t102 = true then (if 0 ≤ (IntKind.u64.wrap (a0_0)) then ((spec_l6Extreme.f k a0_0 a0_1 (wrap64 ((shl .i64 1 (IntKind.u64.wrap (a0_0))) - 1))).bind fun t103 => ((spec_l6List.f k t103).bind fun t104 => (some (t104.length : Int)))) else (none)) else (some (-1)))
theorem spec_HullSize.mono : ∀ a0 a1 k, LeO (spec_HullSize.f k a0 a1) (spec_HullSize.f (k + 1) a0 a1) := by
 intro a0 a1 k
 unfold spec_HullSize.f
 repeat' first
   | (with_reducible exact spec_IsAcyclic.mono _ _ _)
   | (with_reducible exact spec_l6Extreme.mono _ _ _ _)
   | (with_reducible exact spec_l6List.mono _ _)
   | (with_reducible exact LeO.refl _)
   | (with_reducible exact LeO.none _)
   | (with_reducible refine LeO.ite ?_ ?_)
   | (with_reducible refine LeO.bind ?_ (fun _ => ?_))
set_option maxHeartbeats 8000000 in
set_option maxRecDepth 100000 in
theorem spec_HullSize.calls (k : Nat) (a0_0 : Int) (a0_1 : ByteArray) (r : Int) (w : World) (h : spec_HullSize.f k a0_0 a0_1 = some r) :
  Calls Tryz.prog 40 #[.agg #[.int .i64 a0_0, .string a0_1]] w fun e w' => e = .returned (.int .i64 r) ∧ Below w.heap.size w w' := by
 have hu35 := Tryz.underlying35
 have HB := Aside0.mk (Below.refl w.heap.size w)
 have H : ((spec_IsAcyclic.f k a0_0 a0_1).bind fun t102 => (if t102 = true then (if 0 ≤ (IntKind.u64.wrap (a0_0)) then ((spec_l6Extreme.f k a0_0 a0_1 (wrap64 ((shl .i64 1 (IntKind.u64.wrap (a0_0))) - 1))).bind fun t103 => ((spec_l6List.f k t103).bind fun t104 => (some (t104.length : Int)))) else (none)) else (some (-1)))) = some r := h
 clear h
 replace H := Option.bind_eq_some_iff.mp H
 obtain ⟨t102, A20, H⟩ := H
 replace H : (if t102 = true then (if 0 ≤ (IntKind.u64.wrap (a0_0)) then ((spec_l6Extreme.f k a0_0 a0_1 (wrap64 ((shl .i64 1 (IntKind.u64.wrap (a0_0))) - 1))).bind fun t103 => ((spec_l6List.f k t103).bind fun t104 => (some (t104.length : Int)))) else (none)) else (some (-1))) = some r := H
 have A2 := Aside0.mk A20
 clear A20
 by_cases c3 : t102 = true
 ·subst c3
  have H1 : (if 0 ≤ (IntKind.u64.wrap (a0_0)) then ((spec_l6Extreme.f k a0_0 a0_1 (wrap64 ((shl .i64 1 (IntKind.u64.wrap (a0_0))) - 1))).bind fun t103 => ((spec_l6List.f k t103).bind fun t104 => (some (t104.length : Int)))) else (none)) = some r := by rw [if_pos rfl] at H; exact H
  clear H
  have H := H1
  clear H1
  obtain ⟨ji4, hji4⟩ : ∃ j_ : Int, (IntKind.u64.wrap (a0_0)) = j_ := ⟨_, rfl⟩
  replace H : (if 0 ≤ (ji4) then ((spec_l6Extreme.f k a0_0 a0_1 (wrap64 ((shl .i64 1 (ji4)) - 1))).bind fun t103 => ((spec_l6List.f k t103).bind fun t104 => (some (t104.length : Int)))) else (none)) = some r := by first | (rw [hji4] at H; exact H) | (simp only [hji4] at H ⊢; exact H)
  (try rw [hji4] at A2)
  by_cases c5 : 0 ≤ (ji4)
  ·rw [if_pos c5] at H
   have c5b0 := eq_true c5
   have c5b1 : decide (0 ≤ (ji4)) = true := decide_eq_true c5
   clear c5
   obtain ⟨ji6, hji6⟩ : ∃ j_ : Int, (shl .i64 1 (ji4)) = j_ := ⟨_, rfl⟩
   replace H : ((spec_l6Extreme.f k a0_0 a0_1 (wrap64 ((ji6) - 1))).bind fun t103 => ((spec_l6List.f k t103).bind fun t104 => (some (t104.length : Int)))) = some r := by first | (rw [hji6] at H; exact H) | (simp only [hji6] at H ⊢; exact H)
   (try rw [hji6] at A2)
   have hji6_ : (IntKind.i64.wrap (1 * 2 ^ min (ji4).toNat 64)) = ji6 := hji6
   have hji6z : (ji4) ≤ 64 → (IntKind.i64.wrap (1 * 2 ^ (ji4).toNat)) = ji6 := shl_small hji6
   have hji6u : (IntKind.i64.wrap (2 ^ min (ji4).toNat 64)) = ji6 := by have h_ := hji6_; rw [Int.one_mul] at h_; exact h_
   have hji6v : (ji4) ≤ 64 → (IntKind.i64.wrap (2 ^ (ji4).toNat)) = ji6 := fun hle_ => by have h_ := hji6z hle_; rw [Int.one_mul] at h_; exact h_
   have hji6y : (wrap64 (1 * 2 ^ min (ji4).toNat 64)) = ji6 := (i64_w _).symm.trans hji6_
   have hji6x : (ji4) ≤ 64 → (wrap64 (1 * 2 ^ (ji4).toNat)) = ji6 := fun h_ => (i64_w _).symm.trans (hji6z h_)
   replace H := Option.bind_eq_some_iff.mp H
   obtain ⟨t103, A70, H⟩ := H
   replace H : ((spec_l6List.f k t103).bind fun t104 => (some (t104.length : Int))) = some r := H
   have A7 := Aside0.mk A70
   clear A70
   replace H := Option.bind_eq_some_iff.mp H
   obtain ⟨t104, A80, H⟩ := H
   replace H : (some (t104.length : Int)) = some r := H
   have A8 := Aside0.mk A80
   clear A80
   obtain rfl := Option.some.inj H
   go_enter Tryz.func40, Tryz.ntmps40
   go_wp2_with (first | ((with_reducible refine gate_dst (N := 1) rfl ?_); refine box_event ?hg (N := 1) ?hd (cs := #[.int .i64 a0_0, .string a0_1]) (t := 35) ?hr ?_; (case hd => rfl); (case hg => rfl); (case hr => first | (go_simp; done) | (go_simp; rfl)); intro gb101 hg w9 hbox hb; have n0_ := Aside0.mk (below_step (by repeat (first | (with_reducible first | exact HB.out | apply below_alloc | apply pw_below_drewN | apply below_drew1) | exact HB.out)) hb); have n1_ := Aside0.mk (hbox); have n2_ := Aside0.mk ((by rw [hg]; exact (below_size (by repeat (first | (with_reducible first | exact HB.out | apply below_alloc | apply pw_below_drewN | apply below_drew1) | exact HB.out))) : w.heap.size ≤ gb101)); have n3_ := Aside0.mk ((by rw [hg]; exact (below_size (by repeat (first | (with_reducible first | exact HB.out | apply below_alloc | apply pw_below_drewN | apply below_drew1) | exact HB.out))) : w.heap.size ≤ gb101)); clear HB; have HB := n0_; have BK101 := n1_; have GW101 := n2_; have GE101 := n3_; clear n0_ n1_ n2_ n3_; clear hb hbox hg; have hcz10_0 : w9.cell? ⟨gb101, 0, none⟩ = some (.int .i64 a0_0) := (blk_cell BK101.out 0).trans rfl; have hcz10_1 : w9.cell? ⟨gb101, 1, none⟩ = some (.string a0_1) := (blk_cell BK101.out 1).trans rfl; have hfz10_0 := blk_frozen BK101.out 0; have hfz10_1 := blk_frozen BK101.out 1) | ((with_reducible refine gate_callee (f := 39) rfl ?_); refine goesL_ (some 4) rfl rfl Tryz.func39 (by kernel_rfl) rfl #[.agg #[.int .i64 a0_0, .string a0_1]] rfl (by (try simp only [List.map_toArray, List.map_cons, List.map_nil]); first | done | rfl | (simp only [List.length_drop, List.length_take]; rfl)) ?_; (with_reducible refine (spec_IsAcyclic.calls k a0_0 a0_1 true _ A2.out).mono ?_); rintro e w11 ⟨rfl, hb⟩; refine ⟨_, rfl, ?_⟩; have n0_ := Aside0.mk (blk_below (g := gb101) (o := .cells #[.int .i64 a0_0, .string a0_1] 35 (0, 0)) (by (with_reducible repeat (first | refine blk_drewN ?_ _ | refine blk_drew ?_ | refine blk_alloc ?_ _)); exact BK101.out) hb); have n1_ := Aside0.mk (below_step (by repeat (first | (with_reducible first | exact HB.out | apply below_alloc | apply pw_below_drewN | apply below_drew1 | refine below_set ?_ GE101.out) | exact HB.out)) hb); clear BK101; clear HB; have BK101 := n0_; have HB := n1_; clear n0_ n1_; (try clear hb); (try clear hb2); (try clear hk); (try clear hi); have hcz12_0 : w11.cell? ⟨gb101, 0, none⟩ = some (.int .i64 a0_0) := (blk_cell BK101.out 0).trans rfl; have hcz12_1 : w11.cell? ⟨gb101, 1, none⟩ = some (.string a0_1) := (blk_cell BK101.out 1).trans rfl; have hfz12_0 := blk_frozen BK101.out 0; have hfz12_1 := blk_frozen BK101.out 1) | ((with_reducible refine gate_callee (f := 55) rfl ?_); refine goesL_ (some 12) rfl rfl Tryz.func55 (by kernel_rfl) rfl #[.agg #[.int .i64 a0_0, .string a0_1], .int .i64 (wrap64 ((ji6) - 1))] rfl (by (try simp only [List.map_toArray, List.map_cons, List.map_nil]); first | done | (simp only [hji6]; rfl) | rfl | (simp only [List.length_drop, List.length_take]; rfl)) ?_; (with_reducible refine (spec_l6Extreme.calls k a0_0 a0_1 (wrap64 ((ji6) - 1)) t103 _ A7.out).mono ?_); rintro e w13 ⟨rfl, hb⟩; refine ⟨_, rfl, ?_⟩; have n0_ := Aside0.mk (blk_below (g := gb101) (o := .cells #[.int .i64 a0_0, .string a0_1] 35 (0, 0)) (by (with_reducible repeat (first | refine blk_drewN ?_ _ | refine blk_drew ?_ | refine blk_alloc ?_ _)); exact BK101.out) hb); have n1_ := Aside0.mk (below_step (by repeat (first | (with_reducible first | exact HB.out | apply below_alloc | apply pw_below_drewN | apply below_drew1 | refine below_set ?_ GE101.out) | exact HB.out)) hb); clear BK101; clear HB; have BK101 := n0_; have HB := n1_; clear n0_ n1_; (try clear hb); (try clear hb2); (try clear hk); (try clear hi)) | ((with_reducible refine gate_callee (f := 54) rfl ?_); refine goesL_ (some 13) rfl rfl Tryz.func54 (by kernel_rfl) rfl #[.int .i64 t103] rfl (by (try simp only [List.map_toArray, List.map_cons, List.map_nil]); first | done | rfl | (simp only [List.length_drop, List.length_take]; rfl)) ?_; (with_reducible refine (spec_l6List.calls k t103 t104 _ A8.out).mono ?_); rintro e w14 ⟨v105, rfl, ho0, hb⟩; refine ⟨_, rfl, ?_⟩; have n0_ := Aside0.mk (Kd.R_lower ho0 (below_size (by repeat (first | (with_reducible first | exact HB.out | apply below_alloc | apply pw_below_drewN | apply below_drew1 | refine below_set ?_ GE101.out) | exact HB.out)))); have n1_ := Aside0.mk (blk_below (g := gb101) (o := .cells #[.int .i64 a0_0, .string a0_1] 35 (0, 0)) (by (with_reducible repeat (first | refine blk_drewN ?_ _ | refine blk_drew ?_ | refine blk_alloc ?_ _)); exact BK101.out) hb); have n2_ := Aside0.mk (below_step (by repeat (first | (with_reducible first | exact HB.out | apply below_alloc | apply pw_below_drewN | apply below_drew1 | refine below_set ?_ GE101.out) | exact HB.out)) hb); clear BK101; clear HB; have HO106 := n0_; have BK101 := n1_; have HB := n2_; clear n0_ n1_ n2_; (try clear hb); (try clear hb2); (try clear hk); (try clear hi); (try clear ho0); obtain ⟨Ao15, co15, eo15⟩ := Kd.R_slice HO106.out; subst eo15))
   go_ret
   exact ⟨by first | rfl | (simp [errW_none, errW_some] <;> rfl) | (simp only [← hji4, ← hji6]; first | rfl | (simp [errW_none, errW_some] <;> rfl)) | (simp [*, errW_none, errW_some] <;> rfl), by repeat (first | (with_reducible first | exact HB.out | apply below_alloc | apply pw_below_drewN | apply below_drew1 | refine below_set ?_ GE101.out) | exact HB.out)⟩
  ·rw [if_neg c5] at H
   exact absurd H (by simp)
 ·replace c3 := Bool.eq_false_iff.mpr c3
  subst c3
  have H1 : (some (-1)) = some r := by rw [if_neg (show ¬ (false = true) by decide)] at H; exact H
  clear H
  have H := H1
  clear H1
  obtain rfl := Option.some.inj H
  go_enter Tryz.func40, Tryz.ntmps40
  go_wp2_with (first | ((with_reducible refine gate_dst (N := 1) rfl ?_); refine box_event ?hg (N := 1) ?hd (cs := #[.int .i64 a0_0, .string a0_1]) (t := 35) ?hr ?_; (case hd => rfl); (case hg => rfl); (case hr => first | (go_simp; done) | (go_simp; rfl)); intro gb101 hg w16 hbox hb; have n0_ := Aside0.mk (below_step (by repeat (first | (with_reducible first | exact HB.out | apply below_alloc | apply pw_below_drewN | apply below_drew1) | exact HB.out)) hb); have n1_ := Aside0.mk (hbox); have n2_ := Aside0.mk ((by rw [hg]; exact (below_size (by repeat (first | (with_reducible first | exact HB.out | apply below_alloc | apply pw_below_drewN | apply below_drew1) | exact HB.out))) : w.heap.size ≤ gb101)); have n3_ := Aside0.mk ((by rw [hg]; exact (below_size (by repeat (first | (with_reducible first | exact HB.out | apply below_alloc | apply pw_below_drewN | apply below_drew1) | exact HB.out))) : w.heap.size ≤ gb101)); clear HB; have HB := n0_; have BK101 := n1_; have GW101 := n2_; have GE101 := n3_; clear n0_ n1_ n2_ n3_; clear hb hbox hg; have hcz17_0 : w16.cell? ⟨gb101, 0, none⟩ = some (.int .i64 a0_0) := (blk_cell BK101.out 0).trans rfl; have hcz17_1 : w16.cell? ⟨gb101, 1, none⟩ = some (.string a0_1) := (blk_cell BK101.out 1).trans rfl; have hfz17_0 := blk_frozen BK101.out 0; have hfz17_1 := blk_frozen BK101.out 1) | ((with_reducible refine gate_callee (f := 39) rfl ?_); refine goesL_ (some 4) rfl rfl Tryz.func39 (by kernel_rfl) rfl #[.agg #[.int .i64 a0_0, .string a0_1]] rfl (by (try simp only [List.map_toArray, List.map_cons, List.map_nil]); first | done | rfl | (simp only [List.length_drop, List.length_take]; rfl)) ?_; (with_reducible refine (spec_IsAcyclic.calls k a0_0 a0_1 false _ A2.out).mono ?_); rintro e w18 ⟨rfl, hb⟩; refine ⟨_, rfl, ?_⟩; have n0_ := Aside0.mk (blk_below (g := gb101) (o := .cells #[.int .i64 a0_0, .string a0_1] 35 (0, 0)) (by (with_reducible repeat (first | refine blk_drewN ?_ _ | refine blk_drew ?_ | refine blk_alloc ?_ _)); exact BK101.out) hb); have n1_ := Aside0.mk (below_step (by repeat (first | (with_reducible first | exact HB.out | apply below_alloc | apply pw_below_drewN | apply below_drew1 | refine below_set ?_ GE101.out) | exact HB.out)) hb); clear BK101; clear HB; have BK101 := n0_; have HB := n1_; clear n0_ n1_; (try clear hb); (try clear hb2); (try clear hk); (try clear hi)))
  go_ret
  exact ⟨by first | rfl | (simp [errW_none, errW_some] <;> rfl) | (simp [*, errW_none, errW_some] <;> rfl), by repeat (first | (with_reducible first | exact HB.out | apply below_alloc | apply pw_below_drewN | apply below_drew1 | refine below_set ?_ GE101.out) | exact HB.out)⟩
end Go.Proofs.YtobbhjcohkndeaaGreatDoor.P

namespace Go.Proofs.YtobbhjcohkndeaaGreatDoor.P
open Go.RowKit Go.Proofs.YtobbhjcohkndeaaGreatDoorW.PrintWords Go.Proofs.YtobbhjcohkndeaaGreatDoorW.PrintLast Go.Proofs.YtobbhjcohkndeaaGreatDoorW.PrintMore
attribute [local go_sem] max2_int min2_int max_two min_two max_three min_three max_four min_four   -- for this text's walks alone
set_option linter.unusedVariables false
set_option linter.unusedSimpArgs false
/-! ### spec_IsConvex: function 23 -/
def spec_IsConvex.f (k : Nat) (a0_0 : Int) (a0_1 : ByteArray) : Option (Bool) := (spec_IsAcyclic.f k a0_0 a0_1).bind fun t102 => (if t102 = true then ((spec_HullSize.f k a0_0 a0_1).bind fun t103 => (some (t103 == a0_0))) else (some false))
theorem spec_IsConvex.mono : ∀ a0 a1 k, LeO (spec_IsConvex.f k a0 a1) (spec_IsConvex.f (k + 1) a0 a1) := by
 intro a0 a1 k
 unfold spec_IsConvex.f
 repeat' first
   | (with_reducible exact spec_HullSize.mono _ _ _)
   | (with_reducible exact spec_IsAcyclic.mono _ _ _)
   | (with_reducible exact LeO.refl _)
   | (with_reducible exact LeO.none _)
   | (with_reducible refine LeO.ite ?_ ?_)
   | (with_reducible refine LeO.bind ?_ (fun _ => ?_))
def spec_IsConvex.T1 : Bool × List (List Nat × List Nat) := (true, [([], []), ([0], [0]), ([1, 1], [1]), ([2], [2]), ([3, 2, 2], [2, 3]), ([2], [2]), ([5, 2], [2, 5]), ([4, 6, 2], [2, 4, 6]), ([2, 7], [2, 7]), ([8, 4, 0, 1, 2, 3, 4, 5, 6, 7, 8], [8])])
def spec_IsConvex.B1 : List Nat := [0, 1, 3, 7, 15, 7, 39, 127, 255, 511]
theorem spec_IsConvex.tab1 : rtab .any (opsOf Tryz.f23 1) = spec_IsConvex.T1 := by kernel_rfl
theorem spec_IsConvex.bits1 : waitsOk spec_IsConvex.T1.2 spec_IsConvex.B1 = true := by kernel_rfl
set_option maxHeartbeats 8000000 in
set_option maxRecDepth 100000 in
theorem spec_IsConvex.calls (k : Nat) (a0_0 : Int) (a0_1 : ByteArray) (r : Bool) (w : World) (h : spec_IsConvex.f k a0_0 a0_1 = some r) :
  Calls Tryz.prog 23 #[.agg #[.int .i64 a0_0, .string a0_1]] w fun e w' => e = .returned (.bool r) ∧ Below w.heap.size w w' := by
 have hu35 := Tryz.underlying35
 have HB := Aside0.mk (Below.refl w.heap.size w)
 have H : ((spec_IsAcyclic.f k a0_0 a0_1).bind fun t102 => (if t102 = true then ((spec_HullSize.f k a0_0 a0_1).bind fun t103 => (some (t103 == a0_0))) else (some false))) = some r := h
 clear h
 replace H := Option.bind_eq_some_iff.mp H
 obtain ⟨t102, A20, H⟩ := H
 replace H : (if t102 = true then ((spec_HullSize.f k a0_0 a0_1).bind fun t103 => (some (t103 == a0_0))) else (some false)) = some r := H
 have A2 := Aside0.mk A20
 clear A20
 by_cases c3 : t102 = true
 ·subst c3
  have H1 : ((spec_HullSize.f k a0_0 a0_1).bind fun t103 => (some (t103 == a0_0))) = some r := by rw [if_pos rfl] at H; exact H
  clear H
  have H := H1
  clear H1
  replace H := Option.bind_eq_some_iff.mp H
  obtain ⟨t103, A40, H⟩ := H
  replace H : (some (t103 == a0_0)) = some r := H
  have A4 := Aside0.mk A40
  clear A40
  obtain rfl := Option.some.inj H
  go_enter Tryz.func23, Tryz.ntmps23
  try go_wp2_with (first | ((with_reducible refine gate_dst (N := 1) rfl ?_); refine box_event ?hg (N := 1) ?hd (cs := #[.int .i64 a0_0, .string a0_1]) (t := 35) ?hr ?_; (case hd => rfl); (case hg => rfl); (case hr => first | (go_simp; done) | (go_simp; rfl)); intro gb101 hg w5 hbox hb; have n0_ := Aside0.mk (below_step (by repeat (first | (with_reducible first | exact HB.out | apply below_alloc | apply pw_below_drewN | apply below_drew1) | exact HB.out)) hb); have n1_ := Aside0.mk (hbox); have n2_ := Aside0.mk ((by rw [hg]; exact (below_size (by repeat (first | (with_reducible first | exact HB.out | apply below_alloc | apply pw_below_drewN | apply below_drew1) | exact HB.out))) : w.heap.size ≤ gb101)); have n3_ := Aside0.mk ((by rw [hg]; exact (below_size (by repeat (first | (with_reducible first | exact HB.out | apply below_alloc | apply pw_below_drewN | apply below_drew1) | exact HB.out))) : w.heap.size ≤ gb101)); clear HB; have HB := n0_; have BK101 := n1_; have GW101 := n2_; have GE101 := n3_; clear n0_ n1_ n2_ n3_; clear hb hbox hg))
  have n0_ := Aside0.mk (blk_drew BK101.out)
  have n1_ := Aside0.mk (below_drew1 HB.out)
  clear BK101
  clear HB
  have BK101 := n0_
  have HB := n1_
  clear n0_ n1_
  refine start_ (n := 10) (S := fun w' => w'.cell? ⟨gb101, 0, none⟩ = some (.int .i64 a0_0) ∧ w'.cell? ⟨gb101, 1, none⟩ = some (.string a0_1)) (ds := []) (bm 10 0) (by kernel_rfl) rfl rfl ⟨(blk_cell BK101.out 0).trans rfl, (blk_cell BK101.out 1).trans rfl⟩ (fun hHeld => ?_); refine with_tabW spec_IsConvex.tab1 spec_IsConvex.bits1 (fun HT_ HW_ => ?_)
  generalize w5.drew = w6 at BK101 HB hHeld ⊢
  refine plan_ ((2, 0, 3, 1) :: []) ?_
  iterate 1 (first | (refine planT_ ?_ ?_ rfl rfl (take_ofW HT_.out HW_.out (by kernel_rfl)) (fun _ _ _ h => h) (Or.inl ⟨by rfl, ?_⟩) hHeld ?_ ?_; rotate_left 2; (· rintro w' ⟨s0, s1⟩; go_simp; with_reducible rfl); (· simp only [Act.put, List.setIfInBounds_toArray, List.set_cons_zero, List.set_cons_succ, i64_w, i32_w]; rfl)))
  refine planEnd_ ?_
  refine one_ (i := 1) (N := some 4) (bm 10 3) rfl rfl (one_of HT_.out (by kernel_rfl)) (by decide) (fun K hK => ?_)
  refine goes_ Tryz.func39 (by kernel_rfl) rfl #[.agg #[.int .i64 a0_0, .string a0_1]] (by rfl) rfl rfl (by (try simp only [List.map_toArray, List.map_cons, List.map_nil]); first | done | rfl | (simp only [List.length_drop, List.length_take]; rfl)) ?_
  with_reducible refine (spec_IsAcyclic.calls k a0_0 a0_1 true _ A2.out).mono ?_
  rintro e w7 ⟨rfl, hb⟩
  refine ⟨_, rfl, ?_⟩
  have n0_ := Aside0.mk (blk_below (g := gb101) (o := .cells #[.int .i64 a0_0, .string a0_1] 35 (0, 0)) (by (with_reducible repeat (first | refine blk_drewN ?_ _ | refine blk_drew ?_ | refine blk_alloc ?_ _)); exact BK101.out) hb)
  have n1_ := Aside0.mk (below_step (by repeat (first | (with_reducible first | exact HB.out | apply below_alloc | apply pw_below_drewN | apply below_drew1 | refine below_set ?_ GE101.out) | exact HB.out)) hb)
  clear BK101
  clear HB
  have BK101 := n0_
  have HB := n1_
  clear n0_ n1_
  (try clear hb)
  (try clear hb2)
  (try clear hk)
  (try clear hi)
  refine hK.out _ _ ⟨(blk_cell BK101.out 0).trans rfl, (blk_cell BK101.out 1).trans rfl⟩ (fun hHeld => ?_)
  clear hK K
  refine norm_ (a' := ?_) ?_ ?_
  rotate_left
  ·show Act.put _ (some 4) _ = _
   simp only [Act.put, List.setIfInBounds_toArray, List.set_cons_zero, List.set_cons_succ, i64_w, i32_w]
   rfl
  refine plan_ ((0, 2, 5, 7) :: (0, 5, 8, 39) :: (2, 3, 6, 47) :: (2, 6, 9, 111) :: []) ?_
  iterate 4 (first | (refine planV_ ?_ ?_ rfl rfl (any_of HT_.out (by kernel_rfl)) (fun _ _ _ h => h) (Or.inl ⟨by rfl, ?_⟩) ?_ ?_; rotate_left 2; (· intro w'; go_simp; with_reducible rfl); (· simp only [Act.put, List.setIfInBounds_toArray, List.set_cons_zero, List.set_cons_succ, i64_w, i32_w]; rfl)) | (refine planT_ ?_ ?_ rfl rfl (take_ofW HT_.out HW_.out (by kernel_rfl)) (fun _ _ _ h => h) (Or.inl ⟨by rfl, ?_⟩) hHeld ?_ ?_; rotate_left 2; (· rintro w' ⟨s0, s1⟩; go_simp; with_reducible rfl); (· simp only [Act.put, List.setIfInBounds_toArray, List.set_cons_zero, List.set_cons_succ, i64_w, i32_w]; rfl)))
  refine planEnd_ ?_
  refine one_ (i := 4) (N := some 7) (bm 10 127) rfl rfl (one_of HT_.out (by kernel_rfl)) (by decide) (fun K hK => ?_)
  refine goes_ Tryz.func40 (by kernel_rfl) rfl #[.agg #[.int .i64 a0_0, .string a0_1]] (by rfl) rfl rfl (by (try simp only [List.map_toArray, List.map_cons, List.map_nil]); first | done | rfl | (simp only [List.length_drop, List.length_take]; rfl)) ?_
  with_reducible refine (spec_HullSize.calls k a0_0 a0_1 t103 _ A4.out).mono ?_
  rintro e w8 ⟨rfl, hb⟩
  refine ⟨_, rfl, ?_⟩
  have n0_ := Aside0.mk (blk_below (g := gb101) (o := .cells #[.int .i64 a0_0, .string a0_1] 35 (0, 0)) (by (with_reducible repeat (first | refine blk_drewN ?_ _ | refine blk_drew ?_ | refine blk_alloc ?_ _)); exact BK101.out) hb)
  have n1_ := Aside0.mk (below_step (by repeat (first | (with_reducible first | exact HB.out | apply below_alloc | apply pw_below_drewN | apply below_drew1 | refine below_set ?_ GE101.out) | exact HB.out)) hb)
  clear BK101
  clear HB
  have BK101 := n0_
  have HB := n1_
  clear n0_ n1_
  (try clear hb)
  (try clear hb2)
  (try clear hk)
  (try clear hi)
  refine hK.out _ _ ⟨(blk_cell BK101.out 0).trans rfl, (blk_cell BK101.out 1).trans rfl⟩ (fun hHeld => ?_)
  clear hK K
  refine norm_ (a' := ?_) ?_ ?_
  rotate_left
  ·show Act.put _ (some 7) _ = _
   simp only [Act.put, List.setIfInBounds_toArray, List.set_cons_zero, List.set_cons_succ, i64_w, i32_w]
   rfl
  refine plan_ ((0, 7, 10, 255) :: (0, 8, 11, 511) :: (0, 9, 2, 1023) :: []) ?_
  iterate 3 (first | (refine planV_ ?_ ?_ rfl rfl (any_of HT_.out (by kernel_rfl)) (fun _ _ _ h => h) (Or.inl ⟨by rfl, ?_⟩) ?_ ?_; rotate_left 2; (· intro w'; go_simp; with_reducible rfl); (· simp only [Act.put, List.setIfInBounds_toArray, List.set_cons_zero, List.set_cons_succ, i64_w, i32_w]; rfl)))
  refine planEnd_ ?_
  refine done_ (done_of HT_.out (by kernel_rfl)) ?_
  try go_wp2
  go_ret
  exact ⟨by first | rfl | (simp [errW_none, errW_some] <;> rfl) | (simp [*, errW_none, errW_some] <;> rfl), by repeat (first | (with_reducible first | exact HB.out | apply below_alloc | apply pw_below_drewN | apply below_drew1 | refine below_set ?_ GE101.out) | exact HB.out)⟩
 ·replace c3 := Bool.eq_false_iff.mpr c3
  subst c3
  have H1 : (some false) = some r := by rw [if_neg (show ¬ (false = true) by decide)] at H; exact H
  clear H
  have H := H1
  clear H1
  obtain rfl := Option.some.inj H
  go_enter Tryz.func23, Tryz.ntmps23
  try go_wp2_with (first | ((with_reducible refine gate_dst (N := 1) rfl ?_); refine box_event ?hg (N := 1) ?hd (cs := #[.int .i64 a0_0, .string a0_1]) (t := 35) ?hr ?_; (case hd => rfl); (case hg => rfl); (case hr => first | (go_simp; done) | (go_simp; rfl)); intro gb101 hg w9 hbox hb; have n0_ := Aside0.mk (below_step (by repeat (first | (with_reducible first | exact HB.out | apply below_alloc | apply pw_below_drewN | apply below_drew1) | exact HB.out)) hb); have n1_ := Aside0.mk (hbox); have n2_ := Aside0.mk ((by rw [hg]; exact (below_size (by repeat (first | (with_reducible first | exact HB.out | apply below_alloc | apply pw_below_drewN | apply below_drew1) | exact HB.out))) : w.heap.size ≤ gb101)); have n3_ := Aside0.mk ((by rw [hg]; exact (below_size (by repeat (first | (with_reducible first | exact HB.out | apply below_alloc | apply pw_below_drewN | apply below_drew1) | exact HB.out))) : w.heap.size ≤ gb101)); clear HB; have HB := n0_; have BK101 := n1_; have GW101 := n2_; have GE101 := n3_; clear n0_ n1_ n2_ n3_; clear hb hbox hg))
  have n0_ := Aside0.mk (blk_drew BK101.out)
  have n1_ := Aside0.mk (below_drew1 HB.out)
  clear BK101
  clear HB
  have BK101 := n0_
  have HB := n1_
  clear n0_ n1_
  refine start_ (n := 10) (S := fun w' => w'.cell? ⟨gb101, 0, none⟩ = some (.int .i64 a0_0) ∧ w'.cell? ⟨gb101, 1, none⟩ = some (.string a0_1)) (ds := []) (bm 10 0) (by kernel_rfl) rfl rfl ⟨(blk_cell BK101.out 0).trans rfl, (blk_cell BK101.out 1).trans rfl⟩ (fun hHeld => ?_); refine with_tabW spec_IsConvex.tab1 spec_IsConvex.bits1 (fun HT_ HW_ => ?_)
  generalize w9.drew = w10 at BK101 HB hHeld ⊢
  refine plan_ ((2, 0, 3, 1) :: []) ?_
  iterate 1 (first | (refine planT_ ?_ ?_ rfl rfl (take_ofW HT_.out HW_.out (by kernel_rfl)) (fun _ _ _ h => h) (Or.inl ⟨by rfl, ?_⟩) hHeld ?_ ?_; rotate_left 2; (· rintro w' ⟨s0, s1⟩; go_simp; with_reducible rfl); (· simp only [Act.put, List.setIfInBounds_toArray, List.set_cons_zero, List.set_cons_succ, i64_w, i32_w]; rfl)))
  refine planEnd_ ?_
  refine one_ (i := 1) (N := some 4) (bm 10 3) rfl rfl (one_of HT_.out (by kernel_rfl)) (by decide) (fun K hK => ?_)
  refine goes_ Tryz.func39 (by kernel_rfl) rfl #[.agg #[.int .i64 a0_0, .string a0_1]] (by rfl) rfl rfl (by (try simp only [List.map_toArray, List.map_cons, List.map_nil]); first | done | rfl | (simp only [List.length_drop, List.length_take]; rfl)) ?_
  with_reducible refine (spec_IsAcyclic.calls k a0_0 a0_1 false _ A2.out).mono ?_
  rintro e w11 ⟨rfl, hb⟩
  refine ⟨_, rfl, ?_⟩
  have n0_ := Aside0.mk (blk_below (g := gb101) (o := .cells #[.int .i64 a0_0, .string a0_1] 35 (0, 0)) (by (with_reducible repeat (first | refine blk_drewN ?_ _ | refine blk_drew ?_ | refine blk_alloc ?_ _)); exact BK101.out) hb)
  have n1_ := Aside0.mk (below_step (by repeat (first | (with_reducible first | exact HB.out | apply below_alloc | apply pw_below_drewN | apply below_drew1 | refine below_set ?_ GE101.out) | exact HB.out)) hb)
  clear BK101
  clear HB
  have BK101 := n0_
  have HB := n1_
  clear n0_ n1_
  (try clear hb)
  (try clear hb2)
  (try clear hk)
  (try clear hi)
  refine hK.out _ _ ⟨(blk_cell BK101.out 0).trans rfl, (blk_cell BK101.out 1).trans rfl⟩ (fun hHeld => ?_)
  clear hK K
  refine norm_ (a' := ?_) ?_ ?_
  rotate_left
  ·show Act.put _ (some 4) _ = _
   simp only [Act.put, List.setIfInBounds_toArray, List.set_cons_zero, List.set_cons_succ, i64_w, i32_w]
   rfl
  refine plan_ ((0, 2, 5, 7) :: (1, 3, 6, 15) :: (1, 4, 7, 31) :: (1, 5, 8, 63) :: (1, 6, 9, 127) :: (1, 7, 10, 255) :: (0, 8, 11, 511) :: (0, 9, 2, 1023) :: []) ?_
  iterate 8 (first | (refine planV_ ?_ ?_ rfl rfl (any_of HT_.out (by kernel_rfl)) (fun _ _ _ h => h) (Or.inl ⟨by rfl, ?_⟩) ?_ ?_; rotate_left 2; (· intro w'; go_simp; with_reducible rfl); (· simp only [Act.put, List.setIfInBounds_toArray, List.set_cons_zero, List.set_cons_succ, i64_w, i32_w]; rfl)) | (refine planU_ undef ?_ rfl rfl (any_of HT_.out (by kernel_rfl)) (fun _ _ _ h => h) (Or.inr ⟨by rfl, rfl⟩) ?_ ?_; rotate_left 1; (· simp only [Act.put, List.setIfInBounds_toArray, List.set_cons_zero, List.set_cons_succ, i64_w, i32_w]; rfl)))
  refine planEnd_ ?_
  refine done_ (done_of HT_.out (by kernel_rfl)) ?_
  try go_wp2
  go_ret
  exact ⟨by first | rfl | (simp [errW_none, errW_some] <;> rfl) | (simp [*, errW_none, errW_some] <;> rfl), by repeat (first | (with_reducible first | exact HB.out | apply below_alloc | apply pw_below_drewN | apply below_drew1 | refine below_set ?_ GE101.out) | exact HB.out)⟩
end Go.Proofs.YtobbhjcohkndeaaGreatDoor.P

namespace Go.Proofs.YtobbhjcohkndeaaGreatDoor.P
open Go.RowKit Go.Proofs.YtobbhjcohkndeaaGreatDoorW.PrintWords Go.Proofs.YtobbhjcohkndeaaGreatDoorW.PrintLast Go.Proofs.YtobbhjcohkndeaaGreatDoorW.PrintMore
attribute [local go_sem] max2_int min2_int max_two min_two max_three min_three max_four min_four   -- for this text's walks alone
set_option linter.unusedVariables false
set_option linter.unusedSimpArgs false
attribute [local go_sem high] eqA35
/-! ### laws_FnExamples: function 3 -/
def laws_FnExamples.j0 : Nat → Int → List (S64) → Bool → Int → Int → List Int → Bool → Int → List (S52) → Bool → Int → Bool → Bool → Int → ByteArray → Option (Bool)
 | 0, _, _, _, _, _, _, _, _, _, _, _, _, _, _, _ => none
 | k + 1, x3, x4, x5, x8, x9, x10, x11, x15, x16, x17, x20, x22, x122, x136000, x136001 => if x122 = true then (some false) else (if x3 ≥ 1 then (if (x5 == (decide (x3 ≤ 5))) = true then (if x8 ≥ 1 then (if (x11 == (decide (x8 ≤ 5))) = true then (if x15 ≥ 1 then (if (x17 == (decide (x15 ≤ 3))) = true then (if x20 ≥ 3 then (if (x22 == (decide (x20 ≤ 7))) = true then ((spec_ArePoints.f k x4).bind fun t143 => (if (x5 == t143) = true then ((spec_IsWiring.f k x9 x10).bind fun t144 => (if (x11 == t144) = true then ((spec_AreLines.f k x16).bind fun t145 => (if (x17 == t145) = true then ((spec_IsConvex.f k x136000 x136001).bind fun t146 => (some (x22 == t146))) else (some false))) else (some false))) else (some false))) else (some false)) else (if (x22 == false) = true then ((spec_ArePoints.f k x4).bind fun t147 => (if (x5 == t147) = true then ((spec_IsWiring.f k x9 x10).bind fun t148 => (if (x11 == t148) = true then ((spec_AreLines.f k x16).bind fun t149 => (if (x17 == t149) = true then ((spec_IsConvex.f k x136000 x136001).bind fun t150 => (some (x22 == t150))) else (some false))) else (some false))) else (some false))) else (some false))) else (some false)) else (if (x17 == false) = true then (if x20 ≥ 3 then (if (x22 == (decide (x20 ≤ 7))) = true then ((spec_ArePoints.f k x4).bind fun t151 => (if (x5 == t151) = true then ((spec_IsWiring.f k x9 x10).bind fun t152 => (if (x11 == t152) = true then ((spec_AreLines.f k x16).bind fun t153 => (if (x17 == t153) = true then ((spec_IsConvex.f k x136000 x136001).bind fun t154 => (some (x22 == t154))) else (some false))) else (some false))) else (some false))) else (some false)) else (if (x22 == false) = true then ((spec_ArePoints.f k x4).bind fun t155 => (if (x5 == t155) = true then ((spec_IsWiring.f k x9 x10).bind fun t156 => (if (x11 == t156) = true then ((spec_AreLines.f k x16).bind fun t157 => (if (x17 == t157) = true then ((spec_IsConvex.f k x136000 x136001).bind fun t158 => (some (x22 == t158))) else (some false))) else (some false))) else (some false))) else (some false))) else (some false))) else (some false)) else (if (x11 == false) = true then (if x15 ≥ 1 then (if (x17 == (decide (x15 ≤ 3))) = true then (if x20 ≥ 3 then (if (x22 == (decide (x20 ≤ 7))) = true then ((spec_ArePoints.f k x4).bind fun t159 => (if (x5 == t159) = true then ((spec_IsWiring.f k x9 x10).bind fun t160 => (if (x11 == t160) = true then ((spec_AreLines.f k x16).bind fun t161 => (if (x17 == t161) = true then ((spec_IsConvex.f k x136000 x136001).bind fun t162 => (some (x22 == t162))) else (some false))) else (some false))) else (some false))) else (some false)) else (if (x22 == false) = true then ((spec_ArePoints.f k x4).bind fun t163 => (if (x5 == t163) = true then ((spec_IsWiring.f k x9 x10).bind fun t164 => (if (x11 == t164) = true then ((spec_AreLines.f k x16).bind fun t165 => (if (x17 == t165) = true then ((spec_IsConvex.f k x136000 x136001).bind fun t166 => (some (x22 == t166))) else (some false))) else (some false))) else (some false))) else (some false))) else (some false)) else (if (x17 == false) = true then (if x20 ≥ 3 then (if (x22 == (decide (x20 ≤ 7))) = true then ((spec_ArePoints.f k x4).bind fun t167 => (if (x5 == t167) = true then ((spec_IsWiring.f k x9 x10).bind fun t168 => (if (x11 == t168) = true then ((spec_AreLines.f k x16).bind fun t169 => (if (x17 == t169) = true then ((spec_IsConvex.f k x136000 x136001).bind fun t170 => (some (x22 == t170))) else (some false))) else (some false))) else (some false))) else (some false)) else (if (x22 == false) = true then ((spec_ArePoints.f k x4).bind fun t171 => (if (x5 == t171) = true then ((spec_IsWiring.f k x9 x10).bind fun t172 => (if (x11 == t172) = true then ((spec_AreLines.f k x16).bind fun t173 => (if (x17 == t173) = true then ((spec_IsConvex.f k x136000 x136001).bind fun t174 => (some (x22 == t174))) else (some false))) else (some false))) else (some false))) else (some false))) else (some false))) else (some false))) else (some false)) else (if (x5 == false) = true then (if x8 ≥ 1 then (if (x11 == (decide (x8 ≤ 5))) = true then (if x15 ≥ 1 then (if (x17 == (decide (x15 ≤ 3))) = true then (if x20 ≥ 3 then (if (x22 == (decide (x20 ≤ 7))) = true then ((spec_ArePoints.f k x4).bind fun t175 => (if (x5 == t175) = true then ((spec_IsWiring.f k x9 x10).bind fun t176 => (if (x11 == t176) = true then ((spec_AreLines.f k x16).bind fun t177 => (if (x17 == t177) = true then ((spec_IsConvex.f k x136000 x136001).bind fun t178 => (some (x22 == t178))) else (some false))) else (some false))) else (some false))) else (some false)) else (if (x22 == false) = true then ((spec_ArePoints.f k x4).bind fun t179 => (if (x5 == t179) = true then ((spec_IsWiring.f k x9 x10).bind fun t180 => (if (x11 == t180) = true then ((spec_AreLines.f k x16).bind fun t181 => (if (x17 == t181) = true then ((spec_IsConvex.f k x136000 x136001).bind fun t182 => (some (x22 == t182))) else (some false))) else (some false))) else (some false))) else (some false))) else (some false)) else (if (x17 == false) = true then (if x20 ≥ 3 then (if (x22 == (decide (x20 ≤ 7))) = true then ((spec_ArePoints.f k x4).bind fun t183 => (if (x5 == t183) = true then ((spec_IsWiring.f k x9 x10).bind fun t184 => (if (x11 == t184) = true then ((spec_AreLines.f k x16).bind fun t185 => (if (x17 == t185) = true then ((spec_IsConvex.f k x136000 x136001).bind fun t186 => (some (x22 == t186))) else (some false))) else (some false))) else (some false))) else (some false)) else (if (x22 == false) = true then ((spec_ArePoints.f k x4).bind fun t187 => (if (x5 == t187) = true then ((spec_IsWiring.f k x9 x10).bind fun t188 => (if (x11 == t188) = true then ((spec_AreLines.f k x16).bind fun t189 => (if (x17 == t189) = true then ((spec_IsConvex.f k x136000 x136001).bind fun t190 => (some (x22 == t190))) else (some false))) else (some false))) else (some false))) else (some false))) else (some false))) else (some false)) else (if (x11 == false) = true then (if x15 ≥ 1 then (if (x17 == (decide (x15 ≤ 3))) = true then (if x20 ≥ 3 then (if (x22 == (decide (x20 ≤ 7))) = true then ((spec_ArePoints.f k x4).bind fun t191 => (if (x5 == t191) = true then ((spec_IsWiring.f k x9 x10).bind fun t192 => (if (x11 == t192) = true then ((spec_AreLines.f k x16).bind fun t193 => (if (x17 == t193) = true then ((spec_IsConvex.f k x136000 x136001).bind fun t194 => (some (x22 == t194))) else (some false))) else (some false))) else (some false))) else (some false)) else (if (x22 == false) = true then ((spec_ArePoints.f k x4).bind fun t195 => (if (x5 == t195) = true then ((spec_IsWiring.f k x9 x10).bind fun t196 => (if (x11 == t196) = true then ((spec_AreLines.f k x16).bind fun t197 => (if (x17 == t197) = true then ((spec_IsConvex.f k x136000 x136001).bind fun t198 => (some (x22 == t198))) else (some false))) else (some false))) else (some false))) else (some false))) else (some false)) else (if (x17 == false) = true then (if x20 ≥ 3 then (if (x22 == (decide (x20 ≤ 7))) = true then ((spec_ArePoints.f k x4).bind fun t199 => (if (x5 == t199) = true then ((spec_IsWiring.f k x9 x10).bind fun t200 => (if (x11 == t200) = true then ((spec_AreLines.f k x16).bind fun t201 => (if (x17 == t201) = true then ((spec_IsConvex.f k x136000 x136001).bind fun t202 => (some (x22 == t202))) else (some false))) else (some false))) else (some false))) else (some false)) else (if (x22 == false) = true then ((spec_ArePoints.f k x4).bind fun t203 => (if (x5 == t203) = true then ((spec_IsWiring.f k x9 x10).bind fun t204 => (if (x11 == t204) = true then ((spec_AreLines.f k x16).bind fun t205 => (if (x17 == t205) = true then ((spec_IsConvex.f k x136000 x136001).bind fun t206 => (some (x22 == t206))) else (some false))) else (some false))) else (some false))) else (some false))) else (some false))) else (some false))) else (some false)))
def laws_FnExamples.f (k : Nat) (l0 : List Int) : Option (Bool) := (laws_big.f l0).bind fun t101 => (if t101 = true then (some true) else ((spec_DrawExamplePoints.f k l0).bind fun t102 => ((impl_ExamplePoints.f k t102).bind fun bt103 => ((spec_ExamplePoints.f k t102).bind fun bt107 => ((spec_DrawExampleWiring.f k l0).bind fun t111 => ((impl_ExampleWiring.f k t111).bind fun bt112 => ((spec_ExampleWiring.f k t111).bind fun bt117 => ((spec_DrawExampleLines.f k l0).bind fun t122 => ((impl_ExampleLines.f t122).bind fun bt123 => ((spec_ExampleLines.f t122).bind fun bt127 => ((spec_DrawConvexSigns.f k l0).bind fun t131 => ((impl_ConvexSigns.f t131).bind fun bt132 => ((spec_ConvexSigns.f k t131).bind fun bt136 => (if (bt103.2 != bt107.2) = true then (laws_FnExamples.j0 k t102 bt103.1 bt103.2 t111 bt112.1 bt112.2.1 bt112.2.2 t122 bt123.1 bt123.2 t131 bt132.2.2 true bt132.1 bt132.2.1) else ((laws_samePoints.f k bt103.1 bt107.1).bind fun t140 => (if t140 = true then (if (bt112.2.2 != bt117.2.2) = true then (laws_FnExamples.j0 k t102 bt103.1 bt103.2 t111 bt112.1 bt112.2.1 bt112.2.2 t122 bt123.1 bt123.2 t131 bt132.2.2 true bt132.1 bt132.2.1) else (if bt112.1 = bt117.1 then ((laws_sameInts.f k bt112.2.1 bt117.2.1).bind fun t141 => (if t141 = true then (if (bt123.2 != bt127.2) = true then (laws_FnExamples.j0 k t102 bt103.1 bt103.2 t111 bt112.1 bt112.2.1 bt112.2.2 t122 bt123.1 bt123.2 t131 bt132.2.2 true bt132.1 bt132.2.1) else ((laws_sameLines.f k bt123.1 bt127.1).bind fun t142 => (if t142 = true then (if (bt132.2.2 != bt136.2.2) = true then (laws_FnExamples.j0 k t102 bt103.1 bt103.2 t111 bt112.1 bt112.2.1 bt112.2.2 t122 bt123.1 bt123.2 t131 bt132.2.2 true bt132.1 bt132.2.1) else (laws_FnExamples.j0 k t102 bt103.1 bt103.2 t111 bt112.1 bt112.2.1 bt112.2.2 t122 bt123.1 bt123.2 t131 bt132.2.2 (!(bt132.1 == bt136.1) || (!(bt132.2.1.toList == bt136.2.1.toList))) bt132.1 bt132.2.1)) else (laws_FnExamples.j0 k t102 bt103.1 bt103.2 t111 bt112.1 bt112.2.1 bt112.2.2 t122 bt123.1 bt123.2 t131 bt132.2.2 true bt132.1 bt132.2.1)))) else (laws_FnExamples.j0 k t102 bt103.1 bt103.2 t111 bt112.1 bt112.2.1 bt112.2.2 t122 bt123.1 bt123.2 t131 bt132.2.2 true bt132.1 bt132.2.1))) else (laws_FnExamples.j0 k t102 bt103.1 bt103.2 t111 bt112.1 bt112.2.1 bt112.2.2 t122 bt123.1 bt123.2 t131 bt132.2.2 true bt132.1 bt132.2.1))) else (laws_FnExamples.j0 k t102 bt103.1 bt103.2 t111 bt112.1 bt112.2.1 bt112.2.2 t122 bt123.1 bt123.2 t131 bt132.2.2 true bt132.1 bt132.2.1)))))))))))))))))
theorem laws_FnExamples.j0_no : ∀ k y0 y1 y2 y3 y4 y5 y6 y7 y8 y9 y10 y11 y13 y14, laws_FnExamples.j0 k y0 y1 y2 y3 y4 y5 y6 y7 y8 y9 y10 y11 true y13 y14 ≠ some true := by
 intro k
 intros
 cases k <;> simp [laws_FnExamples.j0]
set_option maxHeartbeats 8000000 in
set_option maxRecDepth 100000 in
theorem laws_FnExamples.calls (k : Nat) (A0 : Option Addr) (c0 : Nat) (l0 : List Int) (r : Bool) (w : World) (hr0 : Kd.C (Kd.int .u8) w A0 l0.length l0) (hc0 : l0.length ≤ c0) (h : laws_FnExamples.f k l0 = some true) (htab_ : Tab w) :
  Calls Tryz.prog 3 #[.slice A0 l0.length c0] w fun e w' => e = .returned (.bool true) ∧ Below w.heap.size w w' := by
 have HTAB := Aside0.mk htab_
 clear htab_
 have hu35 := Tryz.underlying35
 have HR0 := Aside0.mk hr0
 have HC0 := Aside0.mk hc0
 clear hr0 hc0
 have HB := Aside0.mk (Below.refl w.heap.size w)
 have H : ((laws_big.f l0).bind fun t101 => (if t101 = true then (some true) else ((spec_DrawExamplePoints.f k l0).bind fun t102 => ((impl_ExamplePoints.f k t102).bind fun bt103 => ((spec_ExamplePoints.f k t102).bind fun bt107 => ((spec_DrawExampleWiring.f k l0).bind fun t111 => ((impl_ExampleWiring.f k t111).bind fun bt112 => ((spec_ExampleWiring.f k t111).bind fun bt117 => ((spec_DrawExampleLines.f k l0).bind fun t122 => ((impl_ExampleLines.f t122).bind fun bt123 => ((spec_ExampleLines.f t122).bind fun bt127 => ((spec_DrawConvexSigns.f k l0).bind fun t131 => ((impl_ConvexSigns.f t131).bind fun bt132 => ((spec_ConvexSigns.f k t131).bind fun bt136 => (if (bt103.2 != bt107.2) = true then (laws_FnExamples.j0 k t102 bt103.1 bt103.2 t111 bt112.1 bt112.2.1 bt112.2.2 t122 bt123.1 bt123.2 t131 bt132.2.2 true bt132.1 bt132.2.1) else ((laws_samePoints.f k bt103.1 bt107.1).bind fun t140 => (if t140 = true then (if (bt112.2.2 != bt117.2.2) = true then (laws_FnExamples.j0 k t102 bt103.1 bt103.2 t111 bt112.1 bt112.2.1 bt112.2.2 t122 bt123.1 bt123.2 t131 bt132.2.2 true bt132.1 bt132.2.1) else (if bt112.1 = bt117.1 then ((laws_sameInts.f k bt112.2.1 bt117.2.1).bind fun t141 => (if t141 = true then (if (bt123.2 != bt127.2) = true then (laws_FnExamples.j0 k t102 bt103.1 bt103.2 t111 bt112.1 bt112.2.1 bt112.2.2 t122 bt123.1 bt123.2 t131 bt132.2.2 true bt132.1 bt132.2.1) else ((laws_sameLines.f k bt123.1 bt127.1).bind fun t142 => (if t142 = true then (if (bt132.2.2 != bt136.2.2) = true then (laws_FnExamples.j0 k t102 bt103.1 bt103.2 t111 bt112.1 bt112.2.1 bt112.2.2 t122 bt123.1 bt123.2 t131 bt132.2.2 true bt132.1 bt132.2.1) else (laws_FnExamples.j0 k t102 bt103.1 bt103.2 t111 bt112.1 bt112.2.1 bt112.2.2 t122 bt123.1 bt123.2 t131 bt132.2.2 (!(bt132.1 == bt136.1) || (!(bt132.2.1.toList == bt136.2.1.toList))) bt132.1 bt132.2.1)) else (laws_FnExamples.j0 k t102 bt103.1 bt103.2 t111 bt112.1 bt112.2.1 bt112.2.2 t122 bt123.1 bt123.2 t131 bt132.2.2 true bt132.1 bt132.2.1)))) else (laws_FnExamples.j0 k t102 bt103.1 bt103.2 t111 bt112.1 bt112.2.1 bt112.2.2 t122 bt123.1 bt123.2 t131 bt132.2.2 true bt132.1 bt132.2.1))) else (laws_FnExamples.j0 k t102 bt103.1 bt103.2 t111 bt112.1 bt112.2.1 bt112.2.2 t122 bt123.1 bt123.2 t131 bt132.2.2 true bt132.1 bt132.2.1))) else (laws_FnExamples.j0 k t102 bt103.1 bt103.2 t111 bt112.1 bt112.2.1 bt112.2.2 t122 bt123.1 bt123.2 t131 bt132.2.2 true bt132.1 bt132.2.1)))))))))))))))))) = some true := h
 clear h
 replace H := Option.bind_eq_some_iff.mp H
 obtain ⟨t101, A20, H⟩ := H
 replace H : (if t101 = true then (some true) else ((spec_DrawExamplePoints.f k l0).bind fun t102 => ((impl_ExamplePoints.f k t102).bind fun bt103 => ((spec_ExamplePoints.f k t102).bind fun bt107 => ((spec_DrawExampleWiring.f k l0).bind fun t111 => ((impl_ExampleWiring.f k t111).bind fun bt112 => ((spec_ExampleWiring.f k t111).bind fun bt117 => ((spec_DrawExampleLines.f k l0).bind fun t122 => ((impl_ExampleLines.f t122).bind fun bt123 => ((spec_ExampleLines.f t122).bind fun bt127 => ((spec_DrawConvexSigns.f k l0).bind fun t131 => ((impl_ConvexSigns.f t131).bind fun bt132 => ((spec_ConvexSigns.f k t131).bind fun bt136 => (if (bt103.2 != bt107.2) = true then (laws_FnExamples.j0 k t102 bt103.1 bt103.2 t111 bt112.1 bt112.2.1 bt112.2.2 t122 bt123.1 bt123.2 t131 bt132.2.2 true bt132.1 bt132.2.1) else ((laws_samePoints.f k bt103.1 bt107.1).bind fun t140 => (if t140 = true then (if (bt112.2.2 != bt117.2.2) = true then (laws_FnExamples.j0 k t102 bt103.1 bt103.2 t111 bt112.1 bt112.2.1 bt112.2.2 t122 bt123.1 bt123.2 t131 bt132.2.2 true bt132.1 bt132.2.1) else (if bt112.1 = bt117.1 then ((laws_sameInts.f k bt112.2.1 bt117.2.1).bind fun t141 => (if t141 = true then (if (bt123.2 != bt127.2) = true then (laws_FnExamples.j0 k t102 bt103.1 bt103.2 t111 bt112.1 bt112.2.1 bt112.2.2 t122 bt123.1 bt123.2 t131 bt132.2.2 true bt132.1 bt132.2.1) else ((laws_sameLines.f k bt123.1 bt127.1).bind fun t142 => (if t142 = true then (if (bt132.2.2 != bt136.2.2) = true then (laws_FnExamples.j0 k t102 bt103.1 bt103.2 t111 bt112.1 bt112.2.1 bt112.2.2 t122 bt123.1 bt123.2 t131 bt132.2.2 true bt132.1 bt132.2.1) else (laws_FnExamples.j0 k t102 bt103.1 bt103.2 t111 bt112.1 bt112.2.1 bt112.2.2 t122 bt123.1 bt123.2 t131 bt132.2.2 (!(bt132.1 == bt136.1) || (!(bt132.2.1.toList == bt136.2.1.toList))) bt132.1 bt132.2.1)) else (laws_FnExamples.j0 k t102 bt103.1 bt103.2 t111 bt112.1 bt112.2.1 bt112.2.2 t122 bt123.1 bt123.2 t131 bt132.2.2 true bt132.1 bt132.2.1)))) else (laws_FnExamples.j0 k t102 bt103.1 bt103.2 t111 bt112.1 bt112.2.1 bt112.2.2 t122 bt123.1 bt123.2 t131 bt132.2.2 true bt132.1 bt132.2.1))) else (laws_FnExamples.j0 k t102 bt103.1 bt103.2 t111 bt112.1 bt112.2.1 bt112.2.2 t122 bt123.1 bt123.2 t131 bt132.2.2 true bt132.1 bt132.2.1))) else (laws_FnExamples.j0 k t102 bt103.1 bt103.2 t111 bt112.1 bt112.2.1 bt112.2.2 t122 bt123.1 bt123.2 t131 bt132.2.2 true bt132.1 bt132.2.1))))))))))))))))) = some true := H
 have A2 := Aside0.mk A20
 clear A20
 by_cases c3 : t101 = true
 ·subst c3
  have H1 : (some true : Option Bool) = some true := rfl
  clear H
  have H := H1
  clear H1
  clear H
  go_enter Tryz.func3, Tryz.ntmps3
  go_wp2_with (first | ((with_reducible refine gate_callee (f := 4) rfl ?_); refine goesL_ (some 26) rfl rfl Tryz.func4 (by kernel_rfl) rfl #[.slice A0 l0.length c0] rfl (by (try simp only [List.map_toArray, List.map_cons, List.map_nil]); first | done | rfl | (simp only [List.length_drop, List.length_take]; rfl)) ?_; (with_reducible refine (laws_big.calls _ _ l0 true _ ?side1 ?side2 A2.out).mono ?_); (case side1 => repeat (first | exact HR0.out | (with_reducible refine Kd.C_alloc ?_ _) | (with_reducible refine Kd.C_drewN ?_ _) | (with_reducible refine Kd.C_drew ?_))); (case side2 => exact HC0.out); rintro e w' ⟨rfl, ⟨nd, rfl⟩⟩; refine ⟨_, rfl, ?_⟩))
  go_ret
  exact ⟨by first | rfl | (simp [errW_none, errW_some] <;> rfl) | (simp [*, errW_none, errW_some] <;> rfl), by repeat (first | (with_reducible first | exact HB.out | apply below_alloc | apply pw_below_drewN | apply below_drew1) | exact HB.out)⟩
 ·replace c3 := Bool.eq_false_iff.mpr c3
  subst c3
  have H1 : ((spec_DrawExamplePoints.f k l0).bind fun t102 => ((impl_ExamplePoints.f k t102).bind fun bt103 => ((spec_ExamplePoints.f k t102).bind fun bt107 => ((spec_DrawExampleWiring.f k l0).bind fun t111 => ((impl_ExampleWiring.f k t111).bind fun bt112 => ((spec_ExampleWiring.f k t111).bind fun bt117 => ((spec_DrawExampleLines.f k l0).bind fun t122 => ((impl_ExampleLines.f t122).bind fun bt123 => ((spec_ExampleLines.f t122).bind fun bt127 => ((spec_DrawConvexSigns.f k l0).bind fun t131 => ((impl_ConvexSigns.f t131).bind fun bt132 => ((spec_ConvexSigns.f k t131).bind fun bt136 => (if (bt103.2 != bt107.2) = true then (laws_FnExamples.j0 k t102 bt103.1 bt103.2 t111 bt112.1 bt112.2.1 bt112.2.2 t122 bt123.1 bt123.2 t131 bt132.2.2 true bt132.1 bt132.2.1) else ((laws_samePoints.f k bt103.1 bt107.1).bind fun t140 => (if t140 = true then (if (bt112.2.2 != bt117.2.2) = true then (laws_FnExamples.j0 k t102 bt103.1 bt103.2 t111 bt112.1 bt112.2.1 bt112.2.2 t122 bt123.1 bt123.2 t131 bt132.2.2 true bt132.1 bt132.2.1) else (if bt112.1 = bt117.1 then ((laws_sameInts.f k bt112.2.1 bt117.2.1).bind fun t141 => (if t141 = true then (if (bt123.2 != bt127.2) = true then (laws_FnExamples.j0 k t102 bt103.1 bt103.2 t111 bt112.1 bt112.2.1 bt112.2.2 t122 bt123.1 bt123.2 t131 bt132.2.2 true bt132.1 bt132.2.1) else ((laws_sameLines.f k bt123.1 bt127.1).bind fun t142 => (if t142 = true then (if (bt132.2.2 != bt136.2.2) = true then (laws_FnExamples.j0 k t102 bt103.1 bt103.2 t111 bt112.1 bt112.2.1 bt112.2.2 t122 bt123.1 bt123.2 t131 bt132.2.2 true bt132.1 bt132.2.1) else (laws_FnExamples.j0 k t102 bt103.1 bt103.2 t111 bt112.1 bt112.2.1 bt112.2.2 t122 bt123.1 bt123.2 t131 bt132.2.2 (!(bt132.1 == bt136.1) || (!(bt132.2.1.toList == bt136.2.1.toList))) bt132.1 bt132.2.1)) else (laws_FnExamples.j0 k t102 bt103.1 bt103.2 t111 bt112.1 bt112.2.1 bt112.2.2 t122 bt123.1 bt123.2 t131 bt132.2.2 true bt132.1 bt132.2.1)))) else (laws_FnExamples.j0 k t102 bt103.1 bt103.2 t111 bt112.1 bt112.2.1 bt112.2.2 t122 bt123.1 bt123.2 t131 bt132.2.2 true bt132.1 bt132.2.1))) else (laws_FnExamples.j0 k t102 bt103.1 bt103.2 t111 bt112.1 bt112.2.1 bt112.2.2 t122 bt123.1 bt123.2 t131 bt132.2.2 true bt132.1 bt132.2.1))) else (laws_FnExamples.j0 k t102 bt103.1 bt103.2 t111 bt112.1 bt112.2.1 bt112.2.2 t122 bt123.1 bt123.2 t131 bt132.2.2 true bt132.1 bt132.2.1)))))))))))))))) = some true := by rw [if_neg (show ¬ (false = true) by decide)] at H; exact H
  clear H
  have H := H1
  clear H1
  replace H := Option.bind_eq_some_iff.mp H
  obtain ⟨t102, A40, H⟩ := H
  replace H : ((impl_ExamplePoints.f k t102).bind fun bt103 => ((spec_ExamplePoints.f k t102).bind fun bt107 => ((spec_DrawExampleWiring.f k l0).bind fun t111 => ((impl_ExampleWiring.f k t111).bind fun bt112 => ((spec_ExampleWiring.f k t111).bind fun bt117 => ((spec_DrawExampleLines.f k l0).bind fun t122 => ((impl_ExampleLines.f t122).bind fun bt123 => ((spec_ExampleLines.f t122).bind fun bt127 => ((spec_DrawConvexSigns.f k l0).bind fun t131 => ((impl_ConvexSigns.f t131).bind fun bt132 => ((spec_ConvexSigns.f k t131).bind fun bt136 => (if (bt103.2 != bt107.2) = true then (laws_FnExamples.j0 k t102 bt103.1 bt103.2 t111 bt112.1 bt112.2.1 bt112.2.2 t122 bt123.1 bt123.2 t131 bt132.2.2 true bt132.1 bt132.2.1) else ((laws_samePoints.f k bt103.1 bt107.1).bind fun t140 => (if t140 = true then (if (bt112.2.2 != bt117.2.2) = true then (laws_FnExamples.j0 k t102 bt103.1 bt103.2 t111 bt112.1 bt112.2.1 bt112.2.2 t122 bt123.1 bt123.2 t131 bt132.2.2 true bt132.1 bt132.2.1) else (if bt112.1 = bt117.1 then ((laws_sameInts.f k bt112.2.1 bt117.2.1).bind fun t141 => (if t141 = true then (if (bt123.2 != bt127.2) = true then (laws_FnExamples.j0 k t102 bt103.1 bt103.2 t111 bt112.1 bt112.2.1 bt112.2.2 t122 bt123.1 bt123.2 t131 bt132.2.2 true bt132.1 bt132.2.1) else ((laws_sameLines.f k bt123.1 bt127.1).bind fun t142 => (if t142 = true then (if (bt132.2.2 != bt136.2.2) = true then (laws_FnExamples.j0 k t102 bt103.1 bt103.2 t111 bt112.1 bt112.2.1 bt112.2.2 t122 bt123.1 bt123.2 t131 bt132.2.2 true bt132.1 bt132.2.1) else (laws_FnExamples.j0 k t102 bt103.1 bt103.2 t111 bt112.1 bt112.2.1 bt112.2.2 t122 bt123.1 bt123.2 t131 bt132.2.2 (!(bt132.1 == bt136.1) || (!(bt132.2.1.toList == bt136.2.1.toList))) bt132.1 bt132.2.1)) else (laws_FnExamples.j0 k t102 bt103.1 bt103.2 t111 bt112.1 bt112.2.1 bt112.2.2 t122 bt123.1 bt123.2 t131 bt132.2.2 true bt132.1 bt132.2.1)))) else (laws_FnExamples.j0 k t102 bt103.1 bt103.2 t111 bt112.1 bt112.2.1 bt112.2.2 t122 bt123.1 bt123.2 t131 bt132.2.2 true bt132.1 bt132.2.1))) else (laws_FnExamples.j0 k t102 bt103.1 bt103.2 t111 bt112.1 bt112.2.1 bt112.2.2 t122 bt123.1 bt123.2 t131 bt132.2.2 true bt132.1 bt132.2.1))) else (laws_FnExamples.j0 k t102 bt103.1 bt103.2 t111 bt112.1 bt112.2.1 bt112.2.2 t122 bt123.1 bt123.2 t131 bt132.2.2 true bt132.1 bt132.2.1))))))))))))))) = some true := H
  have A4 := Aside0.mk A40
  clear A40
  replace H := Option.bind_eq_some_iff.mp H
  obtain ⟨⟨t103, t104⟩, A50, H⟩ := H
  replace H : ((spec_ExamplePoints.f k t102).bind fun bt107 => ((spec_DrawExampleWiring.f k l0).bind fun t111 => ((impl_ExampleWiring.f k t111).bind fun bt112 => ((spec_ExampleWiring.f k t111).bind fun bt117 => ((spec_DrawExampleLines.f k l0).bind fun t122 => ((impl_ExampleLines.f t122).bind fun bt123 => ((spec_ExampleLines.f t122).bind fun bt127 => ((spec_DrawConvexSigns.f k l0).bind fun t131 => ((impl_ConvexSigns.f t131).bind fun bt132 => ((spec_ConvexSigns.f k t131).bind fun bt136 => (if (t104 != bt107.2) = true then (laws_FnExamples.j0 k t102 t103 t104 t111 bt112.1 bt112.2.1 bt112.2.2 t122 bt123.1 bt123.2 t131 bt132.2.2 true bt132.1 bt132.2.1) else ((laws_samePoints.f k t103 bt107.1).bind fun t140 => (if t140 = true then (if (bt112.2.2 != bt117.2.2) = true then (laws_FnExamples.j0 k t102 t103 t104 t111 bt112.1 bt112.2.1 bt112.2.2 t122 bt123.1 bt123.2 t131 bt132.2.2 true bt132.1 bt132.2.1) else (if bt112.1 = bt117.1 then ((laws_sameInts.f k bt112.2.1 bt117.2.1).bind fun t141 => (if t141 = true then (if (bt123.2 != bt127.2) = true then (laws_FnExamples.j0 k t102 t103 t104 t111 bt112.1 bt112.2.1 bt112.2.2 t122 bt123.1 bt123.2 t131 bt132.2.2 true bt132.1 bt132.2.1) else ((laws_sameLines.f k bt123.1 bt127.1).bind fun t142 => (if t142 = true then (if (bt132.2.2 != bt136.2.2) = true then (laws_FnExamples.j0 k t102 t103 t104 t111 bt112.1 bt112.2.1 bt112.2.2 t122 bt123.1 bt123.2 t131 bt132.2.2 true bt132.1 bt132.2.1) else (laws_FnExamples.j0 k t102 t103 t104 t111 bt112.1 bt112.2.1 bt112.2.2 t122 bt123.1 bt123.2 t131 bt132.2.2 (!(bt132.1 == bt136.1) || (!(bt132.2.1.toList == bt136.2.1.toList))) bt132.1 bt132.2.1)) else (laws_FnExamples.j0 k t102 t103 t104 t111 bt112.1 bt112.2.1 bt112.2.2 t122 bt123.1 bt123.2 t131 bt132.2.2 true bt132.1 bt132.2.1)))) else (laws_FnExamples.j0 k t102 t103 t104 t111 bt112.1 bt112.2.1 bt112.2.2 t122 bt123.1 bt123.2 t131 bt132.2.2 true bt132.1 bt132.2.1))) else (laws_FnExamples.j0 k t102 t103 t104 t111 bt112.1 bt112.2.1 bt112.2.2 t122 bt123.1 bt123.2 t131 bt132.2.2 true bt132.1 bt132.2.1))) else (laws_FnExamples.j0 k t102 t103 t104 t111 bt112.1 bt112.2.1 bt112.2.2 t122 bt123.1 bt123.2 t131 bt132.2.2 true bt132.1 bt132.2.1)))))))))))))) = some true := H
  have A5 := Aside0.mk A50
  clear A50
  replace H := Option.bind_eq_some_iff.mp H
  obtain ⟨⟨t107, t108⟩, A60, H⟩ := H
  replace H : ((spec_DrawExampleWiring.f k l0).bind fun t111 => ((impl_ExampleWiring.f k t111).bind fun bt112 => ((spec_ExampleWiring.f k t111).bind fun bt117 => ((spec_DrawExampleLines.f k l0).bind fun t122 => ((impl_ExampleLines.f t122).bind fun bt123 => ((spec_ExampleLines.f t122).bind fun bt127 => ((spec_DrawConvexSigns.f k l0).bind fun t131 => ((impl_ConvexSigns.f t131).bind fun bt132 => ((spec_ConvexSigns.f k t131).bind fun bt136 => (if (t104 != t108) = true then (laws_FnExamples.j0 k t102 t103 t104 t111 bt112.1 bt112.2.1 bt112.2.2 t122 bt123.1 bt123.2 t131 bt132.2.2 true bt132.1 bt132.2.1) else ((laws_samePoints.f k t103 t107).bind fun t140 => (if t140 = true then (if (bt112.2.2 != bt117.2.2) = true then (laws_FnExamples.j0 k t102 t103 t104 t111 bt112.1 bt112.2.1 bt112.2.2 t122 bt123.1 bt123.2 t131 bt132.2.2 true bt132.1 bt132.2.1) else (if bt112.1 = bt117.1 then ((laws_sameInts.f k bt112.2.1 bt117.2.1).bind fun t141 => (if t141 = true then (if (bt123.2 != bt127.2) = true then (laws_FnExamples.j0 k t102 t103 t104 t111 bt112.1 bt112.2.1 bt112.2.2 t122 bt123.1 bt123.2 t131 bt132.2.2 true bt132.1 bt132.2.1) else ((laws_sameLines.f k bt123.1 bt127.1).bind fun t142 => (if t142 = true then (if (bt132.2.2 != bt136.2.2) = true then (laws_FnExamples.j0 k t102 t103 t104 t111 bt112.1 bt112.2.1 bt112.2.2 t122 bt123.1 bt123.2 t131 bt132.2.2 true bt132.1 bt132.2.1) else (laws_FnExamples.j0 k t102 t103 t104 t111 bt112.1 bt112.2.1 bt112.2.2 t122 bt123.1 bt123.2 t131 bt132.2.2 (!(bt132.1 == bt136.1) || (!(bt132.2.1.toList == bt136.2.1.toList))) bt132.1 bt132.2.1)) else (laws_FnExamples.j0 k t102 t103 t104 t111 bt112.1 bt112.2.1 bt112.2.2 t122 bt123.1 bt123.2 t131 bt132.2.2 true bt132.1 bt132.2.1)))) else (laws_FnExamples.j0 k t102 t103 t104 t111 bt112.1 bt112.2.1 bt112.2.2 t122 bt123.1 bt123.2 t131 bt132.2.2 true bt132.1 bt132.2.1))) else (laws_FnExamples.j0 k t102 t103 t104 t111 bt112.1 bt112.2.1 bt112.2.2 t122 bt123.1 bt123.2 t131 bt132.2.2 true bt132.1 bt132.2.1))) else (laws_FnExamples.j0 k t102 t103 t104 t111 bt112.1 bt112.2.1 bt112.2.2 t122 bt123.1 bt123.2 t131 bt132.2.2 true bt132.1 bt132.2.1))))))))))))) = some true := H
  have A6 := Aside0.mk A60
  clear A60
  replace H := Option.bind_eq_some_iff.mp H
  obtain ⟨t111, A70, H⟩ := H
  replace H : ((impl_ExampleWiring.f k t111).bind fun bt112 => ((spec_ExampleWiring.f k t111).bind fun bt117 => ((spec_DrawExampleLines.f k l0).bind fun t122 => ((impl_ExampleLines.f t122).bind fun bt123 => ((spec_ExampleLines.f t122).bind fun bt127 => ((spec_DrawConvexSigns.f k l0).bind fun t131 => ((impl_ConvexSigns.f t131).bind fun bt132 => ((spec_ConvexSigns.f k t131).bind fun bt136 => (if (t104 != t108) = true then (laws_FnExamples.j0 k t102 t103 t104 t111 bt112.1 bt112.2.1 bt112.2.2 t122 bt123.1 bt123.2 t131 bt132.2.2 true bt132.1 bt132.2.1) else ((laws_samePoints.f k t103 t107).bind fun t140 => (if t140 = true then (if (bt112.2.2 != bt117.2.2) = true then (laws_FnExamples.j0 k t102 t103 t104 t111 bt112.1 bt112.2.1 bt112.2.2 t122 bt123.1 bt123.2 t131 bt132.2.2 true bt132.1 bt132.2.1) else (if bt112.1 = bt117.1 then ((laws_sameInts.f k bt112.2.1 bt117.2.1).bind fun t141 => (if t141 = true then (if (bt123.2 != bt127.2) = true then (laws_FnExamples.j0 k t102 t103 t104 t111 bt112.1 bt112.2.1 bt112.2.2 t122 bt123.1 bt123.2 t131 bt132.2.2 true bt132.1 bt132.2.1) else ((laws_sameLines.f k bt123.1 bt127.1).bind fun t142 => (if t142 = true then (if (bt132.2.2 != bt136.2.2) = true then (laws_FnExamples.j0 k t102 t103 t104 t111 bt112.1 bt112.2.1 bt112.2.2 t122 bt123.1 bt123.2 t131 bt132.2.2 true bt132.1 bt132.2.1) else (laws_FnExamples.j0 k t102 t103 t104 t111 bt112.1 bt112.2.1 bt112.2.2 t122 bt123.1 bt123.2 t131 bt132.2.2 (!(bt132.1 == bt136.1) || (!(bt132.2.1.toList == bt136.2.1.toList))) bt132.1 bt132.2.1)) else (laws_FnExamples.j0 k t102 t103 t104 t111 bt112.1 bt112.2.1 bt112.2.2 t122 bt123.1 bt123.2 t131 bt132.2.2 true bt132.1 bt132.2.1)))) else (laws_FnExamples.j0 k t102 t103 t104 t111 bt112.1 bt112.2.1 bt112.2.2 t122 bt123.1 bt123.2 t131 bt132.2.2 true bt132.1 bt132.2.1))) else (laws_FnExamples.j0 k t102 t103 t104 t111 bt112.1 bt112.2.1 bt112.2.2 t122 bt123.1 bt123.2 t131 bt132.2.2 true bt132.1 bt132.2.1))) else (laws_FnExamples.j0 k t102 t103 t104 t111 bt112.1 bt112.2.1 bt112.2.2 t122 bt123.1 bt123.2 t131 bt132.2.2 true bt132.1 bt132.2.1)))))))))))) = some true := H
  have A7 := Aside0.mk A70
  clear A70
  replace H := Option.bind_eq_some_iff.mp H
  obtain ⟨⟨t112, t113, t114⟩, A80, H⟩ := H
  replace H : ((spec_ExampleWiring.f k t111).bind fun bt117 => ((spec_DrawExampleLines.f k l0).bind fun t122 => ((impl_ExampleLines.f t122).bind fun bt123 => ((spec_ExampleLines.f t122).bind fun bt127 => ((spec_DrawConvexSigns.f k l0).bind fun t131 => ((impl_ConvexSigns.f t131).bind fun bt132 => ((spec_ConvexSigns.f k t131).bind fun bt136 => (if (t104 != t108) = true then (laws_FnExamples.j0 k t102 t103 t104 t111 t112 t113 t114 t122 bt123.1 bt123.2 t131 bt132.2.2 true bt132.1 bt132.2.1) else ((laws_samePoints.f k t103 t107).bind fun t140 => (if t140 = true then (if (t114 != bt117.2.2) = true then (laws_FnExamples.j0 k t102 t103 t104 t111 t112 t113 t114 t122 bt123.1 bt123.2 t131 bt132.2.2 true bt132.1 bt132.2.1) else (if t112 = bt117.1 then ((laws_sameInts.f k t113 bt117.2.1).bind fun t141 => (if t141 = true then (if (bt123.2 != bt127.2) = true then (laws_FnExamples.j0 k t102 t103 t104 t111 t112 t113 t114 t122 bt123.1 bt123.2 t131 bt132.2.2 true bt132.1 bt132.2.1) else ((laws_sameLines.f k bt123.1 bt127.1).bind fun t142 => (if t142 = true then (if (bt132.2.2 != bt136.2.2) = true then (laws_FnExamples.j0 k t102 t103 t104 t111 t112 t113 t114 t122 bt123.1 bt123.2 t131 bt132.2.2 true bt132.1 bt132.2.1) else (laws_FnExamples.j0 k t102 t103 t104 t111 t112 t113 t114 t122 bt123.1 bt123.2 t131 bt132.2.2 (!(bt132.1 == bt136.1) || (!(bt132.2.1.toList == bt136.2.1.toList))) bt132.1 bt132.2.1)) else (laws_FnExamples.j0 k t102 t103 t104 t111 t112 t113 t114 t122 bt123.1 bt123.2 t131 bt132.2.2 true bt132.1 bt132.2.1)))) else (laws_FnExamples.j0 k t102 t103 t104 t111 t112 t113 t114 t122 bt123.1 bt123.2 t131 bt132.2.2 true bt132.1 bt132.2.1))) else (laws_FnExamples.j0 k t102 t103 t104 t111 t112 t113 t114 t122 bt123.1 bt123.2 t131 bt132.2.2 true bt132.1 bt132.2.1))) else (laws_FnExamples.j0 k t102 t103 t104 t111 t112 t113 t114 t122 bt123.1 bt123.2 t131 bt132.2.2 true bt132.1 bt132.2.1))))))))))) = some true := H
  have A8 := Aside0.mk A80
  clear A80
  replace H := Option.bind_eq_some_iff.mp H
  obtain ⟨⟨t117, t118, t119⟩, A90, H⟩ := H
  replace H : ((spec_DrawExampleLines.f k l0).bind fun t122 => ((impl_ExampleLines.f t122).bind fun bt123 => ((spec_ExampleLines.f t122).bind fun bt127 => ((spec_DrawConvexSigns.f k l0).bind fun t131 => ((impl_ConvexSigns.f t131).bind fun bt132 => ((spec_ConvexSigns.f k t131).bind fun bt136 => (if (t104 != t108) = true then (laws_FnExamples.j0 k t102 t103 t104 t111 t112 t113 t114 t122 bt123.1 bt123.2 t131 bt132.2.2 true bt132.1 bt132.2.1) else ((laws_samePoints.f k t103 t107).bind fun t140 => (if t140 = true then (if (t114 != t119) = true then (laws_FnExamples.j0 k t102 t103 t104 t111 t112 t113 t114 t122 bt123.1 bt123.2 t131 bt132.2.2 true bt132.1 bt132.2.1) else (if t112 = t117 then ((laws_sameInts.f k t113 t118).bind fun t141 => (if t141 = true then (if (bt123.2 != bt127.2) = true then (laws_FnExamples.j0 k t102 t103 t104 t111 t112 t113 t114 t122 bt123.1 bt123.2 t131 bt132.2.2 true bt132.1 bt132.2.1) else ((laws_sameLines.f k bt123.1 bt127.1).bind fun t142 => (if t142 = true then (if (bt132.2.2 != bt136.2.2) = true then (laws_FnExamples.j0 k t102 t103 t104 t111 t112 t113 t114 t122 bt123.1 bt123.2 t131 bt132.2.2 true bt132.1 bt132.2.1) else (laws_FnExamples.j0 k t102 t103 t104 t111 t112 t113 t114 t122 bt123.1 bt123.2 t131 bt132.2.2 (!(bt132.1 == bt136.1) || (!(bt132.2.1.toList == bt136.2.1.toList))) bt132.1 bt132.2.1)) else (laws_FnExamples.j0 k t102 t103 t104 t111 t112 t113 t114 t122 bt123.1 bt123.2 t131 bt132.2.2 true bt132.1 bt132.2.1)))) else (laws_FnExamples.j0 k t102 t103 t104 t111 t112 t113 t114 t122 bt123.1 bt123.2 t131 bt132.2.2 true bt132.1 bt132.2.1))) else (laws_FnExamples.j0 k t102 t103 t104 t111 t112 t113 t114 t122 bt123.1 bt123.2 t131 bt132.2.2 true bt132.1 bt132.2.1))) else (laws_FnExamples.j0 k t102 t103 t104 t111 t112 t113 t114 t122 bt123.1 bt123.2 t131 bt132.2.2 true bt132.1 bt132.2.1)))))))))) = some true := H
  have A9 := Aside0.mk A90
  clear A90
  replace H := Option.bind_eq_some_iff.mp H
  obtain ⟨t122, A100, H⟩ := H
  replace H : ((impl_ExampleLines.f t122).bind fun bt123 => ((spec_ExampleLines.f t122).bind fun bt127 => ((spec_DrawConvexSigns.f k l0).bind fun t131 => ((impl_ConvexSigns.f t131).bind fun bt132 => ((spec_ConvexSigns.f k t131).bind fun bt136 => (if (t104 != t108) = true then (laws_FnExamples.j0 k t102 t103 t104 t111 t112 t113 t114 t122 bt123.1 bt123.2 t131 bt132.2.2 true bt132.1 bt132.2.1) else ((laws_samePoints.f k t103 t107).bind fun t140 => (if t140 = true then (if (t114 != t119) = true then (laws_FnExamples.j0 k t102 t103 t104 t111 t112 t113 t114 t122 bt123.1 bt123.2 t131 bt132.2.2 true bt132.1 bt132.2.1) else (if t112 = t117 then ((laws_sameInts.f k t113 t118).bind fun t141 => (if t141 = true then (if (bt123.2 != bt127.2) = true then (laws_FnExamples.j0 k t102 t103 t104 t111 t112 t113 t114 t122 bt123.1 bt123.2 t131 bt132.2.2 true bt132.1 bt132.2.1) else ((laws_sameLines.f k bt123.1 bt127.1).bind fun t142 => (if t142 = true then (if (bt132.2.2 != bt136.2.2) = true then (laws_FnExamples.j0 k t102 t103 t104 t111 t112 t113 t114 t122 bt123.1 bt123.2 t131 bt132.2.2 true bt132.1 bt132.2.1) else (laws_FnExamples.j0 k t102 t103 t104 t111 t112 t113 t114 t122 bt123.1 bt123.2 t131 bt132.2.2 (!(bt132.1 == bt136.1) || (!(bt132.2.1.toList == bt136.2.1.toList))) bt132.1 bt132.2.1)) else (laws_FnExamples.j0 k t102 t103 t104 t111 t112 t113 t114 t122 bt123.1 bt123.2 t131 bt132.2.2 true bt132.1 bt132.2.1)))) else (laws_FnExamples.j0 k t102 t103 t104 t111 t112 t113 t114 t122 bt123.1 bt123.2 t131 bt132.2.2 true bt132.1 bt132.2.1))) else (laws_FnExamples.j0 k t102 t103 t104 t111 t112 t113 t114 t122 bt123.1 bt123.2 t131 bt132.2.2 true bt132.1 bt132.2.1))) else (laws_FnExamples.j0 k t102 t103 t104 t111 t112 t113 t114 t122 bt123.1 bt123.2 t131 bt132.2.2 true bt132.1 bt132.2.1))))))))) = some true := H
  have A10 := Aside0.mk A100
  clear A100
  replace H := Option.bind_eq_some_iff.mp H
  obtain ⟨⟨t123, t124⟩, A110, H⟩ := H
  replace H : ((spec_ExampleLines.f t122).bind fun bt127 => ((spec_DrawConvexSigns.f k l0).bind fun t131 => ((impl_ConvexSigns.f t131).bind fun bt132 => ((spec_ConvexSigns.f k t131).bind fun bt136 => (if (t104 != t108) = true then (laws_FnExamples.j0 k t102 t103 t104 t111 t112 t113 t114 t122 t123 t124 t131 bt132.2.2 true bt132.1 bt132.2.1) else ((laws_samePoints.f k t103 t107).bind fun t140 => (if t140 = true then (if (t114 != t119) = true then (laws_FnExamples.j0 k t102 t103 t104 t111 t112 t113 t114 t122 t123 t124 t131 bt132.2.2 true bt132.1 bt132.2.1) else (if t112 = t117 then ((laws_sameInts.f k t113 t118).bind fun t141 => (if t141 = true then (if (t124 != bt127.2) = true then (laws_FnExamples.j0 k t102 t103 t104 t111 t112 t113 t114 t122 t123 t124 t131 bt132.2.2 true bt132.1 bt132.2.1) else ((laws_sameLines.f k t123 bt127.1).bind fun t142 => (if t142 = true then (if (bt132.2.2 != bt136.2.2) = true then (laws_FnExamples.j0 k t102 t103 t104 t111 t112 t113 t114 t122 t123 t124 t131 bt132.2.2 true bt132.1 bt132.2.1) else (laws_FnExamples.j0 k t102 t103 t104 t111 t112 t113 t114 t122 t123 t124 t131 bt132.2.2 (!(bt132.1 == bt136.1) || (!(bt132.2.1.toList == bt136.2.1.toList))) bt132.1 bt132.2.1)) else (laws_FnExamples.j0 k t102 t103 t104 t111 t112 t113 t114 t122 t123 t124 t131 bt132.2.2 true bt132.1 bt132.2.1)))) else (laws_FnExamples.j0 k t102 t103 t104 t111 t112 t113 t114 t122 t123 t124 t131 bt132.2.2 true bt132.1 bt132.2.1))) else (laws_FnExamples.j0 k t102 t103 t104 t111 t112 t113 t114 t122 t123 t124 t131 bt132.2.2 true bt132.1 bt132.2.1))) else (laws_FnExamples.j0 k t102 t103 t104 t111 t112 t113 t114 t122 t123 t124 t131 bt132.2.2 true bt132.1 bt132.2.1)))))))) = some true := H
  have A11 := Aside0.mk A110
  clear A110
  replace H := Option.bind_eq_some_iff.mp H
  obtain ⟨⟨t127, t128⟩, A120, H⟩ := H
  replace H : ((spec_DrawConvexSigns.f k l0).bind fun t131 => ((impl_ConvexSigns.f t131).bind fun bt132 => ((spec_ConvexSigns.f k t131).bind fun bt136 => (if (t104 != t108) = true then (laws_FnExamples.j0 k t102 t103 t104 t111 t112 t113 t114 t122 t123 t124 t131 bt132.2.2 true bt132.1 bt132.2.1) else ((laws_samePoints.f k t103 t107).bind fun t140 => (if t140 = true then (if (t114 != t119) = true then (laws_FnExamples.j0 k t102 t103 t104 t111 t112 t113 t114 t122 t123 t124 t131 bt132.2.2 true bt132.1 bt132.2.1) else (if t112 = t117 then ((laws_sameInts.f k t113 t118).bind fun t141 => (if t141 = true then (if (t124 != t128) = true then (laws_FnExamples.j0 k t102 t103 t104 t111 t112 t113 t114 t122 t123 t124 t131 bt132.2.2 true bt132.1 bt132.2.1) else ((laws_sameLines.f k t123 t127).bind fun t142 => (if t142 = true then (if (bt132.2.2 != bt136.2.2) = true then (laws_FnExamples.j0 k t102 t103 t104 t111 t112 t113 t114 t122 t123 t124 t131 bt132.2.2 true bt132.1 bt132.2.1) else (laws_FnExamples.j0 k t102 t103 t104 t111 t112 t113 t114 t122 t123 t124 t131 bt132.2.2 (!(bt132.1 == bt136.1) || (!(bt132.2.1.toList == bt136.2.1.toList))) bt132.1 bt132.2.1)) else (laws_FnExamples.j0 k t102 t103 t104 t111 t112 t113 t114 t122 t123 t124 t131 bt132.2.2 true bt132.1 bt132.2.1)))) else (laws_FnExamples.j0 k t102 t103 t104 t111 t112 t113 t114 t122 t123 t124 t131 bt132.2.2 true bt132.1 bt132.2.1))) else (laws_FnExamples.j0 k t102 t103 t104 t111 t112 t113 t114 t122 t123 t124 t131 bt132.2.2 true bt132.1 bt132.2.1))) else (laws_FnExamples.j0 k t102 t103 t104 t111 t112 t113 t114 t122 t123 t124 t131 bt132.2.2 true bt132.1 bt132.2.1))))))) = some true := H
  have A12 := Aside0.mk A120
  clear A120
  replace H := Option.bind_eq_some_iff.mp H
  obtain ⟨t131, A130, H⟩ := H
  replace H : ((impl_ConvexSigns.f t131).bind fun bt132 => ((spec_ConvexSigns.f k t131).bind fun bt136 => (if (t104 != t108) = true then (laws_FnExamples.j0 k t102 t103 t104 t111 t112 t113 t114 t122 t123 t124 t131 bt132.2.2 true bt132.1 bt132.2.1) else ((laws_samePoints.f k t103 t107).bind fun t140 => (if t140 = true then (if (t114 != t119) = true then (laws_FnExamples.j0 k t102 t103 t104 t111 t112 t113 t114 t122 t123 t124 t131 bt132.2.2 true bt132.1 bt132.2.1) else (if t112 = t117 then ((laws_sameInts.f k t113 t118).bind fun t141 => (if t141 = true then (if (t124 != t128) = true then (laws_FnExamples.j0 k t102 t103 t104 t111 t112 t113 t114 t122 t123 t124 t131 bt132.2.2 true bt132.1 bt132.2.1) else ((laws_sameLines.f k t123 t127).bind fun t142 => (if t142 = true then (if (bt132.2.2 != bt136.2.2) = true then (laws_FnExamples.j0 k t102 t103 t104 t111 t112 t113 t114 t122 t123 t124 t131 bt132.2.2 true bt132.1 bt132.2.1) else (laws_FnExamples.j0 k t102 t103 t104 t111 t112 t113 t114 t122 t123 t124 t131 bt132.2.2 (!(bt132.1 == bt136.1) || (!(bt132.2.1.toList == bt136.2.1.toList))) bt132.1 bt132.2.1)) else (laws_FnExamples.j0 k t102 t103 t104 t111 t112 t113 t114 t122 t123 t124 t131 bt132.2.2 true bt132.1 bt132.2.1)))) else (laws_FnExamples.j0 k t102 t103 t104 t111 t112 t113 t114 t122 t123 t124 t131 bt132.2.2 true bt132.1 bt132.2.1))) else (laws_FnExamples.j0 k t102 t103 t104 t111 t112 t113 t114 t122 t123 t124 t131 bt132.2.2 true bt132.1 bt132.2.1))) else (laws_FnExamples.j0 k t102 t103 t104 t111 t112 t113 t114 t122 t123 t124 t131 bt132.2.2 true bt132.1 bt132.2.1)))))) = some true := H
  have A13 := Aside0.mk A130
  clear A130
  replace H := Option.bind_eq_some_iff.mp H
  obtain ⟨⟨t132, t133, t134⟩, A140, H⟩ := H
  replace H : ((spec_ConvexSigns.f k t131).bind fun bt136 => (if (t104 != t108) = true then (laws_FnExamples.j0 k t102 t103 t104 t111 t112 t113 t114 t122 t123 t124 t131 t134 true t132 t133) else ((laws_samePoints.f k t103 t107).bind fun t140 => (if t140 = true then (if (t114 != t119) = true then (laws_FnExamples.j0 k t102 t103 t104 t111 t112 t113 t114 t122 t123 t124 t131 t134 true t132 t133) else (if t112 = t117 then ((laws_sameInts.f k t113 t118).bind fun t141 => (if t141 = true then (if (t124 != t128) = true then (laws_FnExamples.j0 k t102 t103 t104 t111 t112 t113 t114 t122 t123 t124 t131 t134 true t132 t133) else ((laws_sameLines.f k t123 t127).bind fun t142 => (if t142 = true then (if (t134 != bt136.2.2) = true then (laws_FnExamples.j0 k t102 t103 t104 t111 t112 t113 t114 t122 t123 t124 t131 t134 true t132 t133) else (laws_FnExamples.j0 k t102 t103 t104 t111 t112 t113 t114 t122 t123 t124 t131 t134 (!(t132 == bt136.1) || (!(t133.toList == bt136.2.1.toList))) t132 t133)) else (laws_FnExamples.j0 k t102 t103 t104 t111 t112 t113 t114 t122 t123 t124 t131 t134 true t132 t133)))) else (laws_FnExamples.j0 k t102 t103 t104 t111 t112 t113 t114 t122 t123 t124 t131 t134 true t132 t133))) else (laws_FnExamples.j0 k t102 t103 t104 t111 t112 t113 t114 t122 t123 t124 t131 t134 true t132 t133))) else (laws_FnExamples.j0 k t102 t103 t104 t111 t112 t113 t114 t122 t123 t124 t131 t134 true t132 t133))))) = some true := H
  have A14 := Aside0.mk A140
  clear A140
  replace H := Option.bind_eq_some_iff.mp H
  obtain ⟨⟨t136, t137, t138⟩, A150, H⟩ := H
  replace H : (if (t104 != t108) = true then (laws_FnExamples.j0 k t102 t103 t104 t111 t112 t113 t114 t122 t123 t124 t131 t134 true t132 t133) else ((laws_samePoints.f k t103 t107).bind fun t140 => (if t140 = true then (if (t114 != t119) = true then (laws_FnExamples.j0 k t102 t103 t104 t111 t112 t113 t114 t122 t123 t124 t131 t134 true t132 t133) else (if t112 = t117 then ((laws_sameInts.f k t113 t118).bind fun t141 => (if t141 = true then (if (t124 != t128) = true then (laws_FnExamples.j0 k t102 t103 t104 t111 t112 t113 t114 t122 t123 t124 t131 t134 true t132 t133) else ((laws_sameLines.f k t123 t127).bind fun t142 => (if t142 = true then (if (t134 != t138) = true then (laws_FnExamples.j0 k t102 t103 t104 t111 t112 t113 t114 t122 t123 t124 t131 t134 true t132 t133) else (laws_FnExamples.j0 k t102 t103 t104 t111 t112 t113 t114 t122 t123 t124 t131 t134 (!(t132 == t136) || (!(t133.toList == t137.toList))) t132 t133)) else (laws_FnExamples.j0 k t102 t103 t104 t111 t112 t113 t114 t122 t123 t124 t131 t134 true t132 t133)))) else (laws_FnExamples.j0 k t102 t103 t104 t111 t112 t113 t114 t122 t123 t124 t131 t134 true t132 t133))) else (laws_FnExamples.j0 k t102 t103 t104 t111 t112 t113 t114 t122 t123 t124 t131 t134 true t132 t133))) else (laws_FnExamples.j0 k t102 t103 t104 t111 t112 t113 t114 t122 t123 t124 t131 t134 true t132 t133)))) = some true := H
  have A15 := Aside0.mk A150
  clear A150
  have HC16 := Aside0.mk H
  clear H
  go_enter Tryz.func3, Tryz.ntmps3
  go_upto_region 15 with (first | ((with_reducible refine gate_callee (f := 4) rfl ?_); refine goesL_ (some 26) rfl rfl Tryz.func4 (by kernel_rfl) rfl #[.slice A0 l0.length c0] rfl (by (try simp only [List.map_toArray, List.map_cons, List.map_nil]); first | done | rfl | (simp only [List.length_drop, List.length_take]; rfl)) ?_; (with_reducible refine (laws_big.calls _ _ l0 false _ ?side1 ?side2 A2.out).mono ?_); (case side1 => repeat (first | exact HR0.out | (with_reducible refine Kd.C_alloc ?_ _) | (with_reducible refine Kd.C_drewN ?_ _) | (with_reducible refine Kd.C_drew ?_))); (case side2 => exact HC0.out); rintro e w' ⟨rfl, ⟨nd, rfl⟩⟩; refine ⟨_, rfl, ?_⟩) | ((with_reducible refine gate_callee (f := 5) rfl ?_); refine goesL_ (some 28) rfl rfl Tryz.func5 (by kernel_rfl) rfl #[.slice A0 l0.length c0] rfl (by (try simp only [List.map_toArray, List.map_cons, List.map_nil]); first | done | rfl | (simp only [List.length_drop, List.length_take]; rfl)) ?_; (with_reducible refine (spec_DrawExamplePoints.calls k _ _ l0 t102 _ ?side1 ?side2 A4.out).mono ?_); (case side1 => repeat (first | exact HR0.out | (with_reducible refine Kd.C_alloc ?_ _) | (with_reducible refine Kd.C_drewN ?_ _) | (with_reducible refine Kd.C_drew ?_))); (case side2 => exact HC0.out); rintro e w17 ⟨rfl, hb⟩; refine ⟨_, rfl, ?_⟩; have n0_ := Aside0.mk (below_step (by repeat (first | (with_reducible first | exact HB.out | apply below_alloc | apply pw_below_drewN | apply below_drew1) | exact HB.out)) hb); clear HB; have HB := n0_; clear n0_; (try clear hb); (try clear hb2); (try clear hk); (try clear hi)) | ((with_reducible refine gate_callee (f := 6) rfl ?_); refine goesL_ (some 31) rfl rfl Tryz.func6 (by kernel_rfl) rfl #[.int .i64 t102] rfl (by (try simp only [List.map_toArray, List.map_cons, List.map_nil]); first | done | rfl | (simp only [List.length_drop, List.length_take]; rfl)) ?_; (with_reducible refine (impl_ExamplePoints.calls k t102 t103 t104 _ A5.out (Tab.on HTAB.out (by repeat (first | (with_reducible first | exact HB.out | apply below_alloc | apply pw_below_drewN | apply below_drew1 | refine below_set ?_ GE135.out | refine below_set ?_ GE139.out) | exact HB.out)))).mono ?_); rintro e w18 ⟨v105, rfl, ho0, hb⟩; refine ⟨_, rfl, ?_⟩; have n0_ := Aside0.mk (Kd.R_lower ho0 (below_size (by repeat (first | (with_reducible first | exact HB.out | apply below_alloc | apply pw_below_drewN | apply below_drew1) | exact HB.out)))); have n1_ := Aside0.mk (below_step (by repeat (first | (with_reducible first | exact HB.out | apply below_alloc | apply pw_below_drewN | apply below_drew1) | exact HB.out)) hb); clear HB; have HO106 := n0_; have HB := n1_; clear n0_ n1_; (try clear hb); (try clear hb2); (try clear hk); (try clear hi); (try clear ho0)) | ((with_reducible refine gate_callee (f := 7) rfl ?_); refine goesL_ (some 36) rfl rfl Tryz.func7 (by kernel_rfl) rfl #[.int .i64 t102] rfl (by (try simp only [List.map_toArray, List.map_cons, List.map_nil]); first | done | rfl | (simp only [List.length_drop, List.length_take]; rfl)) ?_; (with_reducible refine (spec_ExamplePoints.calls k t102 t107 t108 _ A6.out).mono ?_); rintro e w19 ⟨v109, rfl, ho0, hb⟩; refine ⟨_, rfl, ?_⟩; have n0_ := Aside0.mk (Kd.R_elder' (by (with_reducible repeat (first | apply Kd.R_alloc | apply Kd.R_drewN | apply Kd.R_drew)); exact HO106.out) (Kd.R_base ho0) hb); have n1_ := Aside0.mk (Kd.R_lower (Kd.R_new' ho0 (Kd.R_lt (by (with_reducible repeat (first | apply Kd.R_alloc | apply Kd.R_drewN | apply Kd.R_drew)); exact HO106.out))) (below_size (by repeat (first | (with_reducible first | exact HB.out | apply below_alloc | apply pw_below_drewN | apply below_drew1) | exact HB.out)))); have n2_ := Aside0.mk (below_step (by repeat (first | (with_reducible first | exact HB.out | apply below_alloc | apply pw_below_drewN | apply below_drew1) | exact HB.out)) hb); clear HO106; clear HB; have HO106 := n0_; have HO110 := n1_; have HB := n2_; clear n0_ n1_ n2_; (try clear hb); (try clear hb2); (try clear hk); (try clear hi); (try clear ho0)) | ((with_reducible refine gate_callee (f := 8) rfl ?_); refine goesL_ (some 40) rfl rfl Tryz.func8 (by kernel_rfl) rfl #[.slice A0 l0.length c0] rfl (by (try simp only [List.map_toArray, List.map_cons, List.map_nil]); first | done | rfl | (simp only [List.length_drop, List.length_take]; rfl)) ?_; (with_reducible refine (spec_DrawExampleWiring.calls k _ _ l0 t111 _ ?side1 ?side2 A7.out).mono ?_); (case side1 => repeat (first | exact (Kd.C_below HR0.out HB.out) | (with_reducible refine Kd.C_alloc ?_ _) | (with_reducible refine Kd.C_drewN ?_ _) | (with_reducible refine Kd.C_drew ?_))); (case side2 => exact HC0.out); rintro e w20 ⟨rfl, hb⟩; refine ⟨_, rfl, ?_⟩; have n0_ := Aside0.mk (Kd.R_below (by (with_reducible repeat (first | apply Kd.R_alloc | apply Kd.R_drewN | apply Kd.R_drew)); exact HO106.out) hb); have n1_ := Aside0.mk (Kd.R_below (by (with_reducible repeat (first | apply Kd.R_alloc | apply Kd.R_drewN | apply Kd.R_drew)); exact HO110.out) hb); have n2_ := Aside0.mk (below_step (by repeat (first | (with_reducible first | exact HB.out | apply below_alloc | apply pw_below_drewN | apply below_drew1) | exact HB.out)) hb); clear HO106; clear HO110; clear HB; have HO106 := n0_; have HO110 := n1_; have HB := n2_; clear n0_ n1_ n2_; (try clear hb); (try clear hb2); (try clear hk); (try clear hi)) | ((with_reducible refine gate_callee (f := 9) rfl ?_); refine goesL_ (some 43) rfl rfl Tryz.func9 (by kernel_rfl) rfl #[.int .i64 t111] rfl (by (try simp only [List.map_toArray, List.map_cons, List.map_nil]); first | done | rfl | (simp only [List.length_drop, List.length_take]; rfl)) ?_; (with_reducible refine (impl_ExampleWiring.calls k t111 t112 t113 t114 _ A8.out (Tab.on HTAB.out (by repeat (first | (with_reducible first | exact HB.out | apply below_alloc | apply pw_below_drewN | apply below_drew1 | refine below_set ?_ GE135.out | refine below_set ?_ GE139.out) | exact HB.out)))).mono ?_); rintro e w21 ⟨v115, rfl, ho0, hb⟩; refine ⟨_, rfl, ?_⟩; have n0_ := Aside0.mk (Kd.R_below (by (with_reducible repeat (first | apply Kd.R_alloc | apply Kd.R_drewN | apply Kd.R_drew)); exact HO106.out) hb); have n1_ := Aside0.mk (Kd.R_below (by (with_reducible repeat (first | apply Kd.R_alloc | apply Kd.R_drewN | apply Kd.R_drew)); exact HO110.out) hb); have n2_ := Aside0.mk (Kd.R_lower ho0 (below_size (by repeat (first | (with_reducible first | exact HB.out | apply below_alloc | apply pw_below_drewN | apply below_drew1) | exact HB.out)))); have n3_ := Aside0.mk (below_step (by repeat (first | (with_reducible first | exact HB.out | apply below_alloc | apply pw_below_drewN | apply below_drew1) | exact HB.out)) hb); clear HO106; clear HO110; clear HB; have HO106 := n0_; have HO110 := n1_; have HO116 := n2_; have HB := n3_; clear n0_ n1_ n2_ n3_; (try clear hb); (try clear hb2); (try clear hk); (try clear hi); (try clear ho0)) | ((with_reducible refine gate_callee (f := 10) rfl ?_); refine goesL_ (some 49) rfl rfl Tryz.func10 (by kernel_rfl) rfl #[.int .i64 t111] rfl (by (try simp only [List.map_toArray, List.map_cons, List.map_nil]); first | done | rfl | (simp only [List.length_drop, List.length_take]; rfl)) ?_; (with_reducible refine (spec_ExampleWiring.calls k t111 t117 t118 t119 _ A9.out).mono ?_); rintro e w22 ⟨v120, rfl, ho0, hb⟩; refine ⟨_, rfl, ?_⟩; have n0_ := Aside0.mk (Kd.R_below (by (with_reducible repeat (first | apply Kd.R_alloc | apply Kd.R_drewN | apply Kd.R_drew)); exact HO106.out) hb); have n1_ := Aside0.mk (Kd.R_below (by (with_reducible repeat (first | apply Kd.R_alloc | apply Kd.R_drewN | apply Kd.R_drew)); exact HO110.out) hb); have n2_ := Aside0.mk (Kd.R_elder' (by (with_reducible repeat (first | apply Kd.R_alloc | apply Kd.R_drewN | apply Kd.R_drew)); exact HO116.out) (Kd.R_base ho0) hb); have n3_ := Aside0.mk (Kd.R_lower (Kd.R_new' ho0 (Kd.R_lt (by (with_reducible repeat (first | apply Kd.R_alloc | apply Kd.R_drewN | apply Kd.R_drew)); exact HO116.out))) (below_size (by repeat (first | (with_reducible first | exact HB.out | apply below_alloc | apply pw_below_drewN | apply below_drew1) | exact HB.out)))); have n4_ := Aside0.mk (below_step (by repeat (first | (with_reducible first | exact HB.out | apply below_alloc | apply pw_below_drewN | apply below_drew1) | exact HB.out)) hb); clear HO106; clear HO110; clear HO116; clear HB; have HO106 := n0_; have HO110 := n1_; have HO116 := n2_; have HO121 := n3_; have HB := n4_; clear n0_ n1_ n2_ n3_ n4_; (try clear hb); (try clear hb2); (try clear hk); (try clear hi); (try clear ho0)) | ((with_reducible refine gate_callee (f := 11) rfl ?_); refine goesL_ (some 54) rfl rfl Tryz.func11 (by kernel_rfl) rfl #[.slice A0 l0.length c0] rfl (by (try simp only [List.map_toArray, List.map_cons, List.map_nil]); first | done | rfl | (simp only [List.length_drop, List.length_take]; rfl)) ?_; (with_reducible refine (spec_DrawExampleLines.calls k _ _ l0 t122 _ ?side1 ?side2 A10.out).mono ?_); (case side1 => repeat (first | exact (Kd.C_below HR0.out HB.out) | (with_reducible refine Kd.C_alloc ?_ _) | (with_reducible refine Kd.C_drewN ?_ _) | (with_reducible refine Kd.C_drew ?_))); (case side2 => exact HC0.out); rintro e w23 ⟨rfl, hb⟩; refine ⟨_, rfl, ?_⟩; have n0_ := Aside0.mk (Kd.R_below (by (with_reducible repeat (first | apply Kd.R_alloc | apply Kd.R_drewN | apply Kd.R_drew)); exact HO106.out) hb); have n1_ := Aside0.mk (Kd.R_below (by (with_reducible repeat (first | apply Kd.R_alloc | apply Kd.R_drewN | apply Kd.R_drew)); exact HO110.out) hb); have n2_ := Aside0.mk (Kd.R_below (by (with_reducible repeat (first | apply Kd.R_alloc | apply Kd.R_drewN | apply Kd.R_drew)); exact HO116.out) hb); have n3_ := Aside0.mk (Kd.R_below (by (with_reducible repeat (first | apply Kd.R_alloc | apply Kd.R_drewN | apply Kd.R_drew)); exact HO121.out) hb); have n4_ := Aside0.mk (below_step (by repeat (first | (with_reducible first | exact HB.out | apply below_alloc | apply pw_below_drewN | apply below_drew1) | exact HB.out)) hb); clear HO106; clear HO110; clear HO116; clear HO121; clear HB; have HO106 := n0_; have HO110 := n1_; have HO116 := n2_; have HO121 := n3_; have HB := n4_; clear n0_ n1_ n2_ n3_ n4_; (try clear hb); (try clear hb2); (try clear hk); (try clear hi)) | ((with_reducible refine gate_callee (f := 12) rfl ?_); refine goesL_ (some 57) rfl rfl Tryz.func12 (by kernel_rfl) rfl #[.int .i64 t122] rfl (by (try simp only [List.map_toArray, List.map_cons, List.map_nil]); first | done | rfl | (simp only [List.length_drop, List.length_take]; rfl)) ?_; (with_reducible refine (impl_ExampleLines.calls t122 t123 t124 _ A11.out).mono ?_); rintro e w24 ⟨v125, rfl, ho0, hb⟩; refine ⟨_, rfl, ?_⟩; have n0_ := Aside0.mk (Kd.R_below (by (with_reducible repeat (first | apply Kd.R_alloc | apply Kd.R_drewN | apply Kd.R_drew)); exact HO106.out) hb); have n1_ := Aside0.mk (Kd.R_below (by (with_reducible repeat (first | apply Kd.R_alloc | apply Kd.R_drewN | apply Kd.R_drew)); exact HO110.out) hb); have n2_ := Aside0.mk (Kd.R_below (by (with_reducible repeat (first | apply Kd.R_alloc | apply Kd.R_drewN | apply Kd.R_drew)); exact HO116.out) hb); have n3_ := Aside0.mk (Kd.R_below (by (with_reducible repeat (first | apply Kd.R_alloc | apply Kd.R_drewN | apply Kd.R_drew)); exact HO121.out) hb); have n4_ := Aside0.mk (Kd.R_lower ho0 (below_size (by repeat (first | (with_reducible first | exact HB.out | apply below_alloc | apply pw_below_drewN | apply below_drew1) | exact HB.out)))); have n5_ := Aside0.mk (below_step (by repeat (first | (with_reducible first | exact HB.out | apply below_alloc | apply pw_below_drewN | apply below_drew1) | exact HB.out)) hb); clear HO106; clear HO110; clear HO116; clear HO121; clear HB; have HO106 := n0_; have HO110 := n1_; have HO116 := n2_; have HO121 := n3_; have HO126 := n4_; have HB := n5_; clear n0_ n1_ n2_ n3_ n4_ n5_; (try clear hb); (try clear hb2); (try clear hk); (try clear hi); (try clear ho0)) | ((with_reducible refine gate_callee (f := 13) rfl ?_); refine goesL_ (some 62) rfl rfl Tryz.func13 (by kernel_rfl) rfl #[.int .i64 t122] rfl (by (try simp only [List.map_toArray, List.map_cons, List.map_nil]); first | done | rfl | (simp only [List.length_drop, List.length_take]; rfl)) ?_; (with_reducible refine (spec_ExampleLines.calls t122 t127 t128 _ A12.out).mono ?_); rintro e w25 ⟨v129, rfl, ho0, hb⟩; refine ⟨_, rfl, ?_⟩; have n0_ := Aside0.mk (Kd.R_below (by (with_reducible repeat (first | apply Kd.R_alloc | apply Kd.R_drewN | apply Kd.R_drew)); exact HO106.out) hb); have n1_ := Aside0.mk (Kd.R_below (by (with_reducible repeat (first | apply Kd.R_alloc | apply Kd.R_drewN | apply Kd.R_drew)); exact HO110.out) hb); have n2_ := Aside0.mk (Kd.R_below (by (with_reducible repeat (first | apply Kd.R_alloc | apply Kd.R_drewN | apply Kd.R_drew)); exact HO116.out) hb); have n3_ := Aside0.mk (Kd.R_below (by (with_reducible repeat (first | apply Kd.R_alloc | apply Kd.R_drewN | apply Kd.R_drew)); exact HO121.out) hb); have n4_ := Aside0.mk (Kd.R_elder' (by (with_reducible repeat (first | apply Kd.R_alloc | apply Kd.R_drewN | apply Kd.R_drew)); exact HO126.out) (Kd.R_base ho0) hb); have n5_ := Aside0.mk (Kd.R_lower (Kd.R_new' ho0 (Kd.R_lt (by (with_reducible repeat (first | apply Kd.R_alloc | apply Kd.R_drewN | apply Kd.R_drew)); exact HO126.out))) (below_size (by repeat (first | (with_reducible first | exact HB.out | apply below_alloc | apply pw_below_drewN | apply below_drew1) | exact HB.out)))); have n6_ := Aside0.mk (below_step (by repeat (first | (with_reducible first | exact HB.out | apply below_alloc | apply pw_below_drewN | apply below_drew1) | exact HB.out)) hb); clear HO106; clear HO110; clear HO116; clear HO121; clear HO126; clear HB; have HO106 := n0_; have HO110 := n1_; have HO116 := n2_; have HO121 := n3_; have HO126 := n4_; have HO130 := n5_; have HB := n6_; clear n0_ n1_ n2_ n3_ n4_ n5_ n6_; (try clear hb); (try clear hb2); (try clear hk); (try clear hi); (try clear ho0)) | ((with_reducible refine gate_callee (f := 14) rfl ?_); refine goesL_ (some 66) rfl rfl Tryz.func14 (by kernel_rfl) rfl #[.slice A0 l0.length c0] rfl (by (try simp only [List.map_toArray, List.map_cons, List.map_nil]); first | done | rfl | (simp only [List.length_drop, List.length_take]; rfl)) ?_; (with_reducible refine (spec_DrawConvexSigns.calls k _ _ l0 t131 _ ?side1 ?side2 A13.out).mono ?_); (case side1 => repeat (first | exact (Kd.C_below HR0.out HB.out) | (with_reducible refine Kd.C_alloc ?_ _) | (with_reducible refine Kd.C_drewN ?_ _) | (with_reducible refine Kd.C_drew ?_))); (case side2 => exact HC0.out); rintro e w26 ⟨rfl, hb⟩; refine ⟨_, rfl, ?_⟩; have n0_ := Aside0.mk (Kd.R_below (by (with_reducible repeat (first | apply Kd.R_alloc | apply Kd.R_drewN | apply Kd.R_drew)); exact HO106.out) hb); have n1_ := Aside0.mk (Kd.R_below (by (with_reducible repeat (first | apply Kd.R_alloc | apply Kd.R_drewN | apply Kd.R_drew)); exact HO110.out) hb); have n2_ := Aside0.mk (Kd.R_below (by (with_reducible repeat (first | apply Kd.R_alloc | apply Kd.R_drewN | apply Kd.R_drew)); exact HO116.out) hb); have n3_ := Aside0.mk (Kd.R_below (by (with_reducible repeat (first | apply Kd.R_alloc | apply Kd.R_drewN | apply Kd.R_drew)); exact HO121.out) hb); have n4_ := Aside0.mk (Kd.R_below (by (with_reducible repeat (first | apply Kd.R_alloc | apply Kd.R_drewN | apply Kd.R_drew)); exact HO126.out) hb); have n5_ := Aside0.mk (Kd.R_below (by (with_reducible repeat (first | apply Kd.R_alloc | apply Kd.R_drewN | apply Kd.R_drew)); exact HO130.out) hb); have n6_ := Aside0.mk (below_step (by repeat (first | (with_reducible first | exact HB.out | apply below_alloc | apply pw_below_drewN | apply below_drew1) | exact HB.out)) hb); clear HO106; clear HO110; clear HO116; clear HO121; clear HO126; clear HO130; clear HB; have HO106 := n0_; have HO110 := n1_; have HO116 := n2_; have HO121 := n3_; have HO126 := n4_; have HO130 := n5_; have HB := n6_; clear n0_ n1_ n2_ n3_ n4_ n5_ n6_; (try clear hb); (try clear hb2); (try clear hk); (try clear hi)) | ((with_reducible refine gate_callee (f := 15) rfl ?_); refine goesL_ (some 69) rfl rfl Tryz.func15 (by kernel_rfl) rfl #[.int .i64 t131] rfl (by (try simp only [List.map_toArray, List.map_cons, List.map_nil]); first | done | rfl | (simp only [List.length_drop, List.length_take]; rfl)) ?_; (with_reducible refine (impl_ConvexSigns.calls t131 t132 t133 t134 _ A14.out).mono ?_); rintro e w27 ⟨rfl, hb⟩; refine ⟨_, rfl, ?_⟩; have n0_ := Aside0.mk (Kd.R_below (by (with_reducible repeat (first | apply Kd.R_alloc | apply Kd.R_drewN | apply Kd.R_drew)); exact HO106.out) hb); have n1_ := Aside0.mk (Kd.R_below (by (with_reducible repeat (first | apply Kd.R_alloc | apply Kd.R_drewN | apply Kd.R_drew)); exact HO110.out) hb); have n2_ := Aside0.mk (Kd.R_below (by (with_reducible repeat (first | apply Kd.R_alloc | apply Kd.R_drewN | apply Kd.R_drew)); exact HO116.out) hb); have n3_ := Aside0.mk (Kd.R_below (by (with_reducible repeat (first | apply Kd.R_alloc | apply Kd.R_drewN | apply Kd.R_drew)); exact HO121.out) hb); have n4_ := Aside0.mk (Kd.R_below (by (with_reducible repeat (first | apply Kd.R_alloc | apply Kd.R_drewN | apply Kd.R_drew)); exact HO126.out) hb); have n5_ := Aside0.mk (Kd.R_below (by (with_reducible repeat (first | apply Kd.R_alloc | apply Kd.R_drewN | apply Kd.R_drew)); exact HO130.out) hb); have n6_ := Aside0.mk (below_step (by repeat (first | (with_reducible first | exact HB.out | apply below_alloc | apply pw_below_drewN | apply below_drew1) | exact HB.out)) hb); clear HO106; clear HO110; clear HO116; clear HO121; clear HO126; clear HO130; clear HB; have HO106 := n0_; have HO110 := n1_; have HO116 := n2_; have HO121 := n3_; have HO126 := n4_; have HO130 := n5_; have HB := n6_; clear n0_ n1_ n2_ n3_ n4_ n5_ n6_; (try clear hb); (try clear hb2); (try clear hk); (try clear hi)) | ((with_reducible refine gate_dst (N := 21) rfl ?_); refine box_event ?hg (N := 21) ?hd (cs := #[.int .i64 0, .string (⟨#[]⟩ : ByteArray)]) (t := 35) ?hr ?_; (case hd => rfl); (case hg => rfl); (case hr => first | (go_simp; done) | (go_simp; rfl)); intro gb135 hg w28 hbox hb; have n0_ := Aside0.mk (Kd.R_below (by (with_reducible repeat (first | apply Kd.R_alloc | apply Kd.R_drewN | apply Kd.R_drew)); exact HO106.out) hb); have n1_ := Aside0.mk (Kd.R_below (by (with_reducible repeat (first | apply Kd.R_alloc | apply Kd.R_drewN | apply Kd.R_drew)); exact HO110.out) hb); have n2_ := Aside0.mk (Kd.R_below (by (with_reducible repeat (first | apply Kd.R_alloc | apply Kd.R_drewN | apply Kd.R_drew)); exact HO116.out) hb); have n3_ := Aside0.mk (Kd.R_below (by (with_reducible repeat (first | apply Kd.R_alloc | apply Kd.R_drewN | apply Kd.R_drew)); exact HO121.out) hb); have n4_ := Aside0.mk (Kd.R_below (by (with_reducible repeat (first | apply Kd.R_alloc | apply Kd.R_drewN | apply Kd.R_drew)); exact HO126.out) hb); have n5_ := Aside0.mk (Kd.R_below (by (with_reducible repeat (first | apply Kd.R_alloc | apply Kd.R_drewN | apply Kd.R_drew)); exact HO130.out) hb); have n6_ := Aside0.mk (below_step (by repeat (first | (with_reducible first | exact HB.out | apply below_alloc | apply pw_below_drewN | apply below_drew1) | exact HB.out)) hb); have n7_ := Aside0.mk (hbox); have n8_ := Aside0.mk ((by rw [hg]; exact (below_size (by repeat (first | (with_reducible first | exact HB.out | apply below_alloc | apply pw_below_drewN | apply below_drew1) | exact HB.out))) : w.heap.size ≤ gb135)); have n9_ := Aside0.mk ((by rw [hg]; exact (below_size (by repeat (first | (with_reducible first | exact HB.out | apply below_alloc | apply pw_below_drewN | apply below_drew1) | exact HB.out))) : w.heap.size ≤ gb135)); clear HO106; clear HO110; clear HO116; clear HO121; clear HO126; clear HO130; clear HB; have HO106 := n0_; have HO110 := n1_; have HO116 := n2_; have HO121 := n3_; have HO126 := n4_; have HO130 := n5_; have HB := n6_; have BK135 := n7_; have GW135 := n8_; have GE135 := n9_; clear n0_ n1_ n2_ n3_ n4_ n5_ n6_ n7_ n8_ n9_; clear hb hbox hg; have hcz29_0 : w28.cell? ⟨gb135, 0, none⟩ = some (.int .i64 0) := (blk_cell BK135.out 0).trans rfl; have hcz29_1 : w28.cell? ⟨gb135, 1, none⟩ = some (.string (⟨#[]⟩ : ByteArray)) := (blk_cell BK135.out 1).trans rfl; have hfz29_0 := blk_frozen BK135.out 0; have hfz29_1 := blk_frozen BK135.out 1) | ((with_reducible refine gate_callee (f := 16) rfl ?_); refine goesL_ (some 74) rfl rfl Tryz.func16 (by kernel_rfl) rfl #[.int .i64 t131] rfl (by (try simp only [List.map_toArray, List.map_cons, List.map_nil]); first | done | rfl | (simp only [List.length_drop, List.length_take]; rfl)) ?_; (with_reducible refine (spec_ConvexSigns.calls k t131 t136 t137 t138 _ A15.out).mono ?_); rintro e w30 ⟨rfl, hb⟩; refine ⟨_, rfl, ?_⟩; have n0_ := Aside0.mk (Kd.R_below (by (with_reducible repeat (first | apply Kd.R_alloc | apply Kd.R_drewN | apply Kd.R_drew)); exact (Kd.R_mono (Kd.R_far (p := ⟨gb135, 1, none⟩) (Kd.R_far (p := ⟨gb135, 0, none⟩) (Kd.R_types HO106.out BK135.out (by decide)) (fun _ hk => hk.2) (.int .i64 t132)) (fun _ hk => hk.2) (.string t133)) (fun _ h_ => h_.1))) hb); have n1_ := Aside0.mk (Kd.R_below (by (with_reducible repeat (first | apply Kd.R_alloc | apply Kd.R_drewN | apply Kd.R_drew)); exact (Kd.R_mono (Kd.R_far (p := ⟨gb135, 1, none⟩) (Kd.R_far (p := ⟨gb135, 0, none⟩) (Kd.R_types HO110.out BK135.out (by decide)) (fun _ hk => hk.2) (.int .i64 t132)) (fun _ hk => hk.2) (.string t133)) (fun _ h_ => h_.1))) hb); have n2_ := Aside0.mk (Kd.R_below (by (with_reducible repeat (first | apply Kd.R_alloc | apply Kd.R_drewN | apply Kd.R_drew)); exact (Kd.R_mono (Kd.R_far (p := ⟨gb135, 1, none⟩) (Kd.R_far (p := ⟨gb135, 0, none⟩) (Kd.R_types HO116.out BK135.out (by decide)) (fun _ hk => hk.2) (.int .i64 t132)) (fun _ hk => hk.2) (.string t133)) (fun _ h_ => h_.1))) hb); have n3_ := Aside0.mk (Kd.R_below (by (with_reducible repeat (first | apply Kd.R_alloc | apply Kd.R_drewN | apply Kd.R_drew)); exact (Kd.R_mono (Kd.R_far (p := ⟨gb135, 1, none⟩) (Kd.R_far (p := ⟨gb135, 0, none⟩) (Kd.R_types HO121.out BK135.out (by decide)) (fun _ hk => hk.2) (.int .i64 t132)) (fun _ hk => hk.2) (.string t133)) (fun _ h_ => h_.1))) hb); have n4_ := Aside0.mk (Kd.R_below (by (with_reducible repeat (first | apply Kd.R_alloc | apply Kd.R_drewN | apply Kd.R_drew)); exact (Kd.R_mono (Kd.R_far (p := ⟨gb135, 1, none⟩) (Kd.R_far (p := ⟨gb135, 0, none⟩) (Kd.R_types HO126.out BK135.out (by decide)) (fun _ hk => hk.2) (.int .i64 t132)) (fun _ hk => hk.2) (.string t133)) (fun _ h_ => h_.1))) hb); have n5_ := Aside0.mk (Kd.R_below (by (with_reducible repeat (first | apply Kd.R_alloc | apply Kd.R_drewN | apply Kd.R_drew)); exact (Kd.R_mono (Kd.R_far (p := ⟨gb135, 1, none⟩) (Kd.R_far (p := ⟨gb135, 0, none⟩) (Kd.R_types HO130.out BK135.out (by decide)) (fun _ hk => hk.2) (.int .i64 t132)) (fun _ hk => hk.2) (.string t133)) (fun _ h_ => h_.1))) hb); have n6_ := Aside0.mk (blk_below (g := gb135) (o := .cells #[.int .i64 t132, .string t133] 35 (0, 0)) (by (with_reducible repeat (first | refine blk_drewN ?_ _ | refine blk_drew ?_ | refine blk_alloc ?_ _)); refine blk_put (cs := #[.int .i64 t132, .string (⟨#[]⟩ : ByteArray)]) ?_ 1 _ rfl; (with_reducible repeat (first | refine blk_drewN ?_ _ | refine blk_drew ?_ | refine blk_alloc ?_ _)); refine blk_put (cs := #[.int .i64 0, .string (⟨#[]⟩ : ByteArray)]) ?_ 0 _ rfl; (with_reducible repeat (first | refine blk_drewN ?_ _ | refine blk_drew ?_ | refine blk_alloc ?_ _)); exact BK135.out) hb); have n7_ := Aside0.mk (below_step (by repeat (first | (with_reducible first | exact HB.out | apply below_alloc | apply pw_below_drewN | apply below_drew1 | refine below_set ?_ GE135.out) | exact HB.out)) hb); clear HO106; clear HO110; clear HO116; clear HO121; clear HO126; clear HO130; clear BK135; clear HB; have HO106 := n0_; have HO110 := n1_; have HO116 := n2_; have HO121 := n3_; have HO126 := n4_; have HO130 := n5_; have BK135 := n6_; have HB := n7_; clear n0_ n1_ n2_ n3_ n4_ n5_ n6_ n7_; (try clear hb); (try clear hb2); (try clear hk); (try clear hi)) | ((with_reducible refine gate_dst (N := 23) rfl ?_); refine box_event ?hg (N := 23) ?hd (cs := #[.int .i64 0, .string (⟨#[]⟩ : ByteArray)]) (t := 35) ?hr ?_; (case hd => rfl); (case hg => rfl); (case hr => first | (go_simp; done) | (go_simp; rfl)); intro gb139 hg w31 hbox hb; have n0_ := Aside0.mk (Kd.R_below (by (with_reducible repeat (first | apply Kd.R_alloc | apply Kd.R_drewN | apply Kd.R_drew)); exact HO106.out) hb); have n1_ := Aside0.mk (Kd.R_below (by (with_reducible repeat (first | apply Kd.R_alloc | apply Kd.R_drewN | apply Kd.R_drew)); exact HO110.out) hb); have n2_ := Aside0.mk (Kd.R_below (by (with_reducible repeat (first | apply Kd.R_alloc | apply Kd.R_drewN | apply Kd.R_drew)); exact HO116.out) hb); have n3_ := Aside0.mk (Kd.R_below (by (with_reducible repeat (first | apply Kd.R_alloc | apply Kd.R_drewN | apply Kd.R_drew)); exact HO121.out) hb); have n4_ := Aside0.mk (Kd.R_below (by (with_reducible repeat (first | apply Kd.R_alloc | apply Kd.R_drewN | apply Kd.R_drew)); exact HO126.out) hb); have n5_ := Aside0.mk (Kd.R_below (by (with_reducible repeat (first | apply Kd.R_alloc | apply Kd.R_drewN | apply Kd.R_drew)); exact HO130.out) hb); have n6_ := Aside0.mk (blk_below (g := gb135) (o := .cells #[.int .i64 t132, .string t133] 35 (0, 0)) (by (with_reducible repeat (first | refine blk_drewN ?_ _ | refine blk_drew ?_ | refine blk_alloc ?_ _)); exact BK135.out) hb); have n7_ := Aside0.mk (below_step (by repeat (first | (with_reducible first | exact HB.out | apply below_alloc | apply pw_below_drewN | apply below_drew1 | refine below_set ?_ GE135.out) | exact HB.out)) hb); have n8_ := Aside0.mk (hbox); have n9_ := Aside0.mk ((by rw [hg]; exact (below_size (by repeat (first | (with_reducible first | exact HB.out | apply below_alloc | apply pw_below_drewN | apply below_drew1 | refine below_set ?_ GE135.out) | exact HB.out))) : w.heap.size ≤ gb139)); have n10_ := Aside0.mk ((by rw [hg]; exact (below_size (by repeat (first | (with_reducible first | exact HB.out | apply below_alloc | apply pw_below_drewN | apply below_drew1 | refine below_set ?_ GE135.out) | exact HB.out))) : w.heap.size ≤ gb139)); have n11_ := Aside0.mk ((by rw [hg]; exact Nat.ne_of_lt (blk_lt (g := gb135) (o := .cells #[.int .i64 t132, .string t133] 35 (0, 0)) (by (with_reducible repeat (first | refine blk_drewN ?_ _ | refine blk_drew ?_ | refine blk_alloc ?_ _)); exact BK135.out)) : gb135 ≠ gb139)); have n12_ := Aside0.mk ((by rw [hg]; exact Nat.ne_of_gt (blk_lt (g := gb135) (o := .cells #[.int .i64 t132, .string t133] 35 (0, 0)) (by (with_reducible repeat (first | refine blk_drewN ?_ _ | refine blk_drew ?_ | refine blk_alloc ?_ _)); exact BK135.out)) : gb139 ≠ gb135)); clear HO106; clear HO110; clear HO116; clear HO121; clear HO126; clear HO130; clear BK135; clear HB; have HO106 := n0_; have HO110 := n1_; have HO116 := n2_; have HO121 := n3_; have HO126 := n4_; have HO130 := n5_; have BK135 := n6_; have HB := n7_; have BK139 := n8_; have GW139 := n9_; have GE139 := n10_; have NB135_139 := n11_; have NB139_135 := n12_; clear n0_ n1_ n2_ n3_ n4_ n5_ n6_ n7_ n8_ n9_ n10_ n11_ n12_; clear hb hbox hg; have hnb32 := NB139_135.out; have hnc32 := NB135_139.out; have hcz33_0 : w31.cell? ⟨gb139, 0, none⟩ = some (.int .i64 0) := (blk_cell BK139.out 0).trans rfl; have hcz33_1 : w31.cell? ⟨gb139, 1, none⟩ = some (.string (⟨#[]⟩ : ByteArray)) := (blk_cell BK139.out 1).trans rfl; have hfz33_0 := blk_frozen BK139.out 0; have hfz33_1 := blk_frozen BK139.out 1))
  (try simp only [Act.put, List.setIfInBounds_toArray, List.set_cons_zero, List.set_cons_succ])
  go_cut [122] (fun v122 wc => ∃ (kq : Nat) (x122_15 : Bool), v122 = .bool x122_15 ∧ Aside0 (laws_FnExamples.j0 kq t102 t103 t104 t111 t112 t113 t114 t122 t123 t124 t131 t134 x122_15 t132 t133 = some true) ∧ Aside0 (kq ≤ k) ∧ Aside0 (Kd.R k64 64 wc w.heap.size (fun _ => True) v105 t103) ∧ Aside0 (Kd.R (Kd.int .i64) 3 wc w.heap.size (fun _ => True) v115 t113) ∧ Aside0 (Kd.R k52 52 wc w.heap.size (fun _ => True) v125 t123) ∧ Aside0 (wc.heap[gb135]? = some (.cells #[.int .i64 t132, .string t133] 35 (0, 0))) ∧ Aside0 (wc.heap[gb139]? = some (.cells #[.int .i64 t136, .string t137] 35 (0, 0))) ∧ Aside0 (Below w.heap.size w wc))
  case first =>
   have H := HC16.out
   clear HC16
   by_cases c34 : (t104 != t108) = true
   ·rw [if_pos c34] at H
    exact absurd H (laws_FnExamples.j0_no _ _ _ _ _ _ _ _ _ _ _ _ _ _ _)
   ·rw [if_neg c34] at H
    obtain rfl : t104 = t108 := by simpa using c34
    have c34b0 : (t104 != t104) = false := bne_self_eq_false _
    clear c34
    (first | rw [c34b0] | (simp only [i64_w, i32_w]; rw [c34b0]) | skip)
    replace H := Option.bind_eq_some_iff.mp H
    obtain ⟨t140, A350, H⟩ := H
    replace H : (if t140 = true then (if (t114 != t119) = true then (laws_FnExamples.j0 k t102 t103 t104 t111 t112 t113 t114 t122 t123 t124 t131 t134 true t132 t133) else (if t112 = t117 then ((laws_sameInts.f k t113 t118).bind fun t141 => (if t141 = true then (if (t124 != t128) = true then (laws_FnExamples.j0 k t102 t103 t104 t111 t112 t113 t114 t122 t123 t124 t131 t134 true t132 t133) else ((laws_sameLines.f k t123 t127).bind fun t142 => (if t142 = true then (if (t134 != t138) = true then (laws_FnExamples.j0 k t102 t103 t104 t111 t112 t113 t114 t122 t123 t124 t131 t134 true t132 t133) else (laws_FnExamples.j0 k t102 t103 t104 t111 t112 t113 t114 t122 t123 t124 t131 t134 (!(t132 == t136) || (!(t133.toList == t137.toList))) t132 t133)) else (laws_FnExamples.j0 k t102 t103 t104 t111 t112 t113 t114 t122 t123 t124 t131 t134 true t132 t133)))) else (laws_FnExamples.j0 k t102 t103 t104 t111 t112 t113 t114 t122 t123 t124 t131 t134 true t132 t133))) else (laws_FnExamples.j0 k t102 t103 t104 t111 t112 t113 t114 t122 t123 t124 t131 t134 true t132 t133))) else (laws_FnExamples.j0 k t102 t103 t104 t111 t112 t113 t114 t122 t123 t124 t131 t134 true t132 t133)) = some true := H
    have A35 := Aside0.mk A350
    clear A350
    by_cases c36 : t140 = true
    ·subst c36
     have H1 : (if (t114 != t119) = true then (laws_FnExamples.j0 k t102 t103 t104 t111 t112 t113 t114 t122 t123 t124 t131 t134 true t132 t133) else (if t112 = t117 then ((laws_sameInts.f k t113 t118).bind fun t141 => (if t141 = true then (if (t124 != t128) = true then (laws_FnExamples.j0 k t102 t103 t104 t111 t112 t113 t114 t122 t123 t124 t131 t134 true t132 t133) else ((laws_sameLines.f k t123 t127).bind fun t142 => (if t142 = true then (if (t134 != t138) = true then (laws_FnExamples.j0 k t102 t103 t104 t111 t112 t113 t114 t122 t123 t124 t131 t134 true t132 t133) else (laws_FnExamples.j0 k t102 t103 t104 t111 t112 t113 t114 t122 t123 t124 t131 t134 (!(t132 == t136) || (!(t133.toList == t137.toList))) t132 t133)) else (laws_FnExamples.j0 k t102 t103 t104 t111 t112 t113 t114 t122 t123 t124 t131 t134 true t132 t133)))) else (laws_FnExamples.j0 k t102 t103 t104 t111 t112 t113 t114 t122 t123 t124 t131 t134 true t132 t133))) else (laws_FnExamples.j0 k t102 t103 t104 t111 t112 t113 t114 t122 t123 t124 t131 t134 true t132 t133))) = some true := by rw [if_pos rfl] at H; exact H
     clear H
     have H := H1
     clear H1
     by_cases c37 : (t114 != t119) = true
     ·rw [if_pos c37] at H
      exact absurd H (laws_FnExamples.j0_no _ _ _ _ _ _ _ _ _ _ _ _ _ _ _)
     ·rw [if_neg c37] at H
      obtain rfl : t114 = t119 := by simpa using c37
      have c37b0 : (t114 != t114) = false := bne_self_eq_false _
      clear c37
      by_cases c40 : t112 = t117
      ·rw [if_pos c40] at H
       have c40b0 : (t112 == t117) = true := beq_iff_eq.mpr c40
       have c40b1 : (t112 != t117) = false := bne_eq_false_iff_eq.mpr c40
       clear c40
       replace H := Option.bind_eq_some_iff.mp H
       obtain ⟨t141, A410, H⟩ := H
       replace H : (if t141 = true then (if (t124 != t128) = true then (laws_FnExamples.j0 k t102 t103 t104 t111 t112 t113 t114 t122 t123 t124 t131 t134 true t132 t133) else ((laws_sameLines.f k t123 t127).bind fun t142 => (if t142 = true then (if (t134 != t138) = true then (laws_FnExamples.j0 k t102 t103 t104 t111 t112 t113 t114 t122 t123 t124 t131 t134 true t132 t133) else (laws_FnExamples.j0 k t102 t103 t104 t111 t112 t113 t114 t122 t123 t124 t131 t134 (!(t132 == t136) || (!(t133.toList == t137.toList))) t132 t133)) else (laws_FnExamples.j0 k t102 t103 t104 t111 t112 t113 t114 t122 t123 t124 t131 t134 true t132 t133)))) else (laws_FnExamples.j0 k t102 t103 t104 t111 t112 t113 t114 t122 t123 t124 t131 t134 true t132 t133)) = some true := H
       have A41 := Aside0.mk A410
       clear A410
       by_cases c42 : t141 = true
       ·subst c42
        have H1 : (if (t124 != t128) = true then (laws_FnExamples.j0 k t102 t103 t104 t111 t112 t113 t114 t122 t123 t124 t131 t134 true t132 t133) else ((laws_sameLines.f k t123 t127).bind fun t142 => (if t142 = true then (if (t134 != t138) = true then (laws_FnExamples.j0 k t102 t103 t104 t111 t112 t113 t114 t122 t123 t124 t131 t134 true t132 t133) else (laws_FnExamples.j0 k t102 t103 t104 t111 t112 t113 t114 t122 t123 t124 t131 t134 (!(t132 == t136) || (!(t133.toList == t137.toList))) t132 t133)) else (laws_FnExamples.j0 k t102 t103 t104 t111 t112 t113 t114 t122 t123 t124 t131 t134 true t132 t133)))) = some true := by rw [if_pos rfl] at H; exact H
        clear H
        have H := H1
        clear H1
        by_cases c43 : (t124 != t128) = true
        ·rw [if_pos c43] at H
         exact absurd H (laws_FnExamples.j0_no _ _ _ _ _ _ _ _ _ _ _ _ _ _ _)
        ·rw [if_neg c43] at H
         obtain rfl : t124 = t128 := by simpa using c43
         have c43b0 : (t124 != t124) = false := bne_self_eq_false _
         clear c43
         replace H := Option.bind_eq_some_iff.mp H
         obtain ⟨t142, A480, H⟩ := H
         replace H : (if t142 = true then (if (t134 != t138) = true then (laws_FnExamples.j0 k t102 t103 t104 t111 t112 t113 t114 t122 t123 t124 t131 t134 true t132 t133) else (laws_FnExamples.j0 k t102 t103 t104 t111 t112 t113 t114 t122 t123 t124 t131 t134 (!(t132 == t136) || (!(t133.toList == t137.toList))) t132 t133)) else (laws_FnExamples.j0 k t102 t103 t104 t111 t112 t113 t114 t122 t123 t124 t131 t134 true t132 t133)) = some true := H
         have A48 := Aside0.mk A480
         clear A480
         by_cases c49 : t142 = true
         ·subst c49
          have H1 : (if (t134 != t138) = true then (laws_FnExamples.j0 k t102 t103 t104 t111 t112 t113 t114 t122 t123 t124 t131 t134 true t132 t133) else (laws_FnExamples.j0 k t102 t103 t104 t111 t112 t113 t114 t122 t123 t124 t131 t134 (!(t132 == t136) || (!(t133.toList == t137.toList))) t132 t133)) = some true := by rw [if_pos rfl] at H; exact H
          clear H
          have H := H1
          clear H1
          by_cases c50 : (t134 != t138) = true
          ·rw [if_pos c50] at H
           exact absurd H (laws_FnExamples.j0_no _ _ _ _ _ _ _ _ _ _ _ _ _ _ _)
          ·rw [if_neg c50] at H
           obtain rfl : t134 = t138 := by simpa using c50
           have c50b0 : (t134 != t134) = false := bne_self_eq_false _
           clear c50
           have H' := Aside0.mk H
           clear H
           obtain ⟨Ao57, co57, eo57⟩ := Kd.R_slice HO106.out
           subst eo57
           obtain ⟨Ao58, co58, eo58⟩ := Kd.R_slice HO110.out
           subst eo58
           go_wp2_with (first | (go_at_call 17; (with_reducible refine (laws_samePoints.calls k _ _ t103 _ _ t107 true _ ?side1 ?side2 ?side3 ?side4 A35.out).mono ?_); (case side1 => refine (Kd.R_reads' (e := 64) (base := w.heap.size) (ok := fun k_ => (True ∧ some k_ ≠ (.slice Ao58 t107.length co58 : Value).ownBlock)) (n := t103.length) (c := co57) ?_).2.2; exact (by (with_reducible repeat (first | apply Kd.R_alloc | apply Kd.R_drewN | apply Kd.R_drew)); exact (Kd.R_mono (Kd.R_far (p := ⟨gb139, 1, none⟩) (Kd.R_far (p := ⟨gb139, 0, none⟩) (Kd.R_types HO106.out BK139.out (by decide)) (fun _ hk => hk.2) (.int .i64 t136)) (fun _ hk => hk.2) (.string t137)) (fun _ h_ => h_.1)))); (case side2 => exact (Kd.R_reads' HO106.out).2.1); (case side3 => refine (Kd.R_reads' (e := 64) (base := w.heap.size) (ok := fun k_ => (True ∧ some k_ ≠ (.slice Ao57 t103.length co57 : Value).ownBlock)) (n := t107.length) (c := co58) ?_).2.2; exact (by (with_reducible repeat (first | apply Kd.R_alloc | apply Kd.R_drewN | apply Kd.R_drew)); exact (Kd.R_mono (Kd.R_far (p := ⟨gb139, 1, none⟩) (Kd.R_far (p := ⟨gb139, 0, none⟩) (Kd.R_types HO110.out BK139.out (by decide)) (fun _ hk => hk.2) (.int .i64 t136)) (fun _ hk => hk.2) (.string t137)) (fun _ h_ => h_.1)))); (case side4 => exact (Kd.R_reads' HO110.out).2.1); rintro e w' ⟨rfl, ⟨nd, rfl⟩⟩; obtain ⟨Ao59, co59, eo59⟩ := Kd.R_slice HO116.out; subst eo59; obtain ⟨Ao60, co60, eo60⟩ := Kd.R_slice HO121.out; subst eo60) | (go_at_call 18; (with_reducible refine (laws_sameInts.calls k _ _ t113 _ _ t118 true _ ?side1 ?side2 ?side3 ?side4 A41.out).mono ?_); (case side1 => refine (Kd.R_reads' (e := 3) (base := w.heap.size) (ok := fun k_ => (True ∧ some k_ ≠ (.slice Ao60 t118.length co60 : Value).ownBlock)) (n := t113.length) (c := co59) ?_).2.2; exact (by (with_reducible repeat (first | apply Kd.R_alloc | apply Kd.R_drewN | apply Kd.R_drew)); exact (Kd.R_mono (Kd.R_far (p := ⟨gb139, 1, none⟩) (Kd.R_far (p := ⟨gb139, 0, none⟩) (Kd.R_types HO116.out BK139.out (by decide)) (fun _ hk => hk.2) (.int .i64 t136)) (fun _ hk => hk.2) (.string t137)) (fun _ h_ => h_.1)))); (case side2 => exact (Kd.R_reads' HO116.out).2.1); (case side3 => refine (Kd.R_reads' (e := 3) (base := w.heap.size) (ok := fun k_ => (True ∧ some k_ ≠ (.slice Ao59 t113.length co59 : Value).ownBlock)) (n := t118.length) (c := co60) ?_).2.2; exact (by (with_reducible repeat (first | apply Kd.R_alloc | apply Kd.R_drewN | apply Kd.R_drew)); exact (Kd.R_mono (Kd.R_far (p := ⟨gb139, 1, none⟩) (Kd.R_far (p := ⟨gb139, 0, none⟩) (Kd.R_types HO121.out BK139.out (by decide)) (fun _ hk => hk.2) (.int .i64 t136)) (fun _ hk => hk.2) (.string t137)) (fun _ h_ => h_.1)))); (case side4 => exact (Kd.R_reads' HO121.out).2.1); rintro e w' ⟨rfl, ⟨nd, rfl⟩⟩; obtain ⟨Ao61, co61, eo61⟩ := Kd.R_slice HO126.out; subst eo61; obtain ⟨Ao62, co62, eo62⟩ := Kd.R_slice HO130.out; subst eo62) | (go_at_call 19; (with_reducible refine (laws_sameLines.calls k _ _ t123 _ _ t127 true _ ?side1 ?side2 ?side3 ?side4 A48.out).mono ?_); (case side1 => refine (Kd.R_reads' (e := 52) (base := w.heap.size) (ok := fun k_ => (True ∧ some k_ ≠ (.slice Ao62 t127.length co62 : Value).ownBlock)) (n := t123.length) (c := co61) ?_).2.2; exact (by (with_reducible repeat (first | apply Kd.R_alloc | apply Kd.R_drewN | apply Kd.R_drew)); exact (Kd.R_mono (Kd.R_far (p := ⟨gb139, 1, none⟩) (Kd.R_far (p := ⟨gb139, 0, none⟩) (Kd.R_types HO126.out BK139.out (by decide)) (fun _ hk => hk.2) (.int .i64 t136)) (fun _ hk => hk.2) (.string t137)) (fun _ h_ => h_.1)))); (case side2 => exact (Kd.R_reads' HO126.out).2.1); (case side3 => refine (Kd.R_reads' (e := 52) (base := w.heap.size) (ok := fun k_ => (True ∧ some k_ ≠ (.slice Ao61 t123.length co61 : Value).ownBlock)) (n := t127.length) (c := co62) ?_).2.2; exact (by (with_reducible repeat (first | apply Kd.R_alloc | apply Kd.R_drewN | apply Kd.R_drew)); exact (Kd.R_mono (Kd.R_far (p := ⟨gb139, 1, none⟩) (Kd.R_far (p := ⟨gb139, 0, none⟩) (Kd.R_types HO130.out BK139.out (by decide)) (fun _ hk => hk.2) (.int .i64 t136)) (fun _ hk => hk.2) (.string t137)) (fun _ h_ => h_.1)))); (case side4 => exact (Kd.R_reads' HO130.out).2.1); rintro e w' ⟨rfl, ⟨nd, rfl⟩⟩; have hnb63 := NB135_139.out; have hnc63 := NB139_135.out; have hcz64_0 : w31.cell? ⟨gb135, 0, none⟩ = some (.int .i64 t132) := (blk_cell BK135.out 0).trans rfl; have hcz64_1 : w31.cell? ⟨gb135, 1, none⟩ = some (.string t133) := (blk_cell BK135.out 1).trans rfl; have hfz64_0 := blk_frozen BK135.out 0; have hfz64_1 := blk_frozen BK135.out 1; have hcz65_0 : w31.cell? ⟨gb139, 0, none⟩ = some (.int .i64 0) := (blk_cell BK139.out 0).trans rfl; have hcz65_1 : w31.cell? ⟨gb139, 1, none⟩ = some (.string (⟨#[]⟩ : ByteArray)) := (blk_cell BK139.out 1).trans rfl; have hfz65_0 := blk_frozen BK139.out 0; have hfz65_1 := blk_frozen BK139.out 1))
           go_meet
           case rel => exact ⟨_, ((!(t132 == t136) || (!(t133.toList == t137.toList)))), (by first | rfl | (simp; done) | (simp [*]; done)), H', ⟨by first | omega | exact Nat.le_refl _⟩, ⟨by (with_reducible repeat (first | apply Kd.R_alloc | apply Kd.R_drewN | apply Kd.R_drew)); exact Kd.R_mono (Kd.R_far (p := ⟨gb139, 1, none⟩) (Kd.R_far (p := ⟨gb139, 0, none⟩) (Kd.R_types HO106.out BK139.out (by decide)) (fun _ hk => hk.2) (.int .i64 t136)) (fun _ hk => hk.2) (.string t137)) (fun _ hk => trivial)⟩, ⟨by (with_reducible repeat (first | apply Kd.R_alloc | apply Kd.R_drewN | apply Kd.R_drew)); exact Kd.R_mono (Kd.R_far (p := ⟨gb139, 1, none⟩) (Kd.R_far (p := ⟨gb139, 0, none⟩) (Kd.R_types HO116.out BK139.out (by decide)) (fun _ hk => hk.2) (.int .i64 t136)) (fun _ hk => hk.2) (.string t137)) (fun _ hk => trivial)⟩, ⟨by (with_reducible repeat (first | apply Kd.R_alloc | apply Kd.R_drewN | apply Kd.R_drew)); exact Kd.R_mono (Kd.R_far (p := ⟨gb139, 1, none⟩) (Kd.R_far (p := ⟨gb139, 0, none⟩) (Kd.R_types HO126.out BK139.out (by decide)) (fun _ hk => hk.2) (.int .i64 t136)) (fun _ hk => hk.2) (.string t137)) (fun _ hk => trivial)⟩, ⟨by (with_reducible repeat (first | refine blk_drewN ?_ _ | refine blk_drew ?_ | refine blk_alloc ?_ _)); refine blk_far ?_ NB135_139.out _; (with_reducible repeat (first | refine blk_drewN ?_ _ | refine blk_drew ?_ | refine blk_alloc ?_ _)); refine blk_far ?_ NB135_139.out _; (with_reducible repeat (first | refine blk_drewN ?_ _ | refine blk_drew ?_ | refine blk_alloc ?_ _)); exact BK135.out⟩, ⟨by (with_reducible repeat (first | refine blk_drewN ?_ _ | refine blk_drew ?_ | refine blk_alloc ?_ _)); refine blk_put (cs := #[.int .i64 t136, .string (⟨#[]⟩ : ByteArray)]) ?_ 1 _ rfl; (with_reducible repeat (first | refine blk_drewN ?_ _ | refine blk_drew ?_ | refine blk_alloc ?_ _)); refine blk_put (cs := #[.int .i64 0, .string (⟨#[]⟩ : ByteArray)]) ?_ 0 _ rfl; (with_reducible repeat (first | refine blk_drewN ?_ _ | refine blk_drew ?_ | refine blk_alloc ?_ _)); exact BK139.out⟩, ⟨by repeat (first | (with_reducible first | exact HB.out | apply below_alloc | apply pw_below_drewN | apply below_drew1 | refine below_set ?_ GE135.out | refine below_set ?_ GE139.out) | exact HB.out)⟩⟩
         ·replace c49 := Bool.eq_false_iff.mpr c49
          subst c49
          have H1 : (laws_FnExamples.j0 k t102 t103 t104 t111 t112 t113 t114 t122 t123 t124 t131 t134 true t132 t133) = some true := by rw [if_neg (show ¬ (false = true) by decide)] at H; exact H
          exact absurd H1 (laws_FnExamples.j0_no _ _ _ _ _ _ _ _ _ _ _ _ _ _ _)
       ·replace c42 := Bool.eq_false_iff.mpr c42
        subst c42
        have H1 : (laws_FnExamples.j0 k t102 t103 t104 t111 t112 t113 t114 t122 t123 t124 t131 t134 true t132 t133) = some true := by rw [if_neg (show ¬ (false = true) by decide)] at H; exact H
        exact absurd H1 (laws_FnExamples.j0_no _ _ _ _ _ _ _ _ _ _ _ _ _ _ _)
      ·rw [if_neg c40] at H
       exact absurd H (laws_FnExamples.j0_no _ _ _ _ _ _ _ _ _ _ _ _ _ _ _)
    ·replace c36 := Bool.eq_false_iff.mpr c36
     subst c36
     have H1 : (laws_FnExamples.j0 k t102 t103 t104 t111 t112 t113 t114 t122 t123 t124 t131 t134 true t132 t133) = some true := by rw [if_neg (show ¬ (false = true) by decide)] at H; exact H
     exact absurd H1 (laws_FnExamples.j0_no _ _ _ _ _ _ _ _ _ _ _ _ _ _ _)
  case rest =>
   clear HC16
   try clear c3
   try clear c34
   try clear c34b0
   try clear c36
   try clear c37
   try clear c37b0
   try clear c40
   try clear c40b0
   try clear c40b1
   try clear c42
   try clear c43
   try clear c43b0
   try clear c49
   try clear c50
   try clear c50b0
   try clear hcz29_0
   try clear hcz29_1
   try clear hcz33_0
   try clear hcz33_1
   try clear hcz64_0
   try clear hcz64_1
   try clear hcz65_0
   try clear hcz65_1
   try clear hfz29_0
   try clear hfz29_1
   try clear hfz33_0
   try clear hfz33_1
   try clear hfz64_0
   try clear hfz64_1
   try clear hfz65_0
   try clear hfz65_1
   obtain ⟨kq, x122_15, rfl, HA, HJ15, HO_4, HO_10, HO_16, BK135, BK139, HB⟩ := hcut
   cases kq with
   | zero => exact absurd HA.out (by simp [laws_FnExamples.j0])
   | succ kj15 =>
    have H := HA.out
    clear HA
    simp only [laws_FnExamples.j0] at H
    by_cases c80 : x122_15 = true
    ·subst c80
     have H1 : (some false) = some true := by rw [if_pos rfl] at H; exact H
     clear H
     have H := H1
     clear H1
     exact absurd H (by simp)
    ·replace c80 := Bool.eq_false_iff.mpr c80
     subst c80
     have H1 : (if t102 ≥ 1 then (if (t104 == (decide (t102 ≤ 5))) = true then (if t111 ≥ 1 then (if (t114 == (decide (t111 ≤ 5))) = true then (if t122 ≥ 1 then (if (t124 == (decide (t122 ≤ 3))) = true then (if t131 ≥ 3 then (if (t134 == (decide (t131 ≤ 7))) = true then ((spec_ArePoints.f kj15 t103).bind fun t143 => (if (t104 == t143) = true then ((spec_IsWiring.f kj15 t112 t113).bind fun t144 => (if (t114 == t144) = true then ((spec_AreLines.f kj15 t123).bind fun t145 => (if (t124 == t145) = true then ((spec_IsConvex.f kj15 t132 t133).bind fun t146 => (some (t134 == t146))) else (some false))) else (some false))) else (some false))) else (some false)) else (if (t134 == false) = true then ((spec_ArePoints.f kj15 t103).bind fun t147 => (if (t104 == t147) = true then ((spec_IsWiring.f kj15 t112 t113).bind fun t148 => (if (t114 == t148) = true then ((spec_AreLines.f kj15 t123).bind fun t149 => (if (t124 == t149) = true then ((spec_IsConvex.f kj15 t132 t133).bind fun t150 => (some (t134 == t150))) else (some false))) else (some false))) else (some false))) else (some false))) else (some false)) else (if (t124 == false) = true then (if t131 ≥ 3 then (if (t134 == (decide (t131 ≤ 7))) = true then ((spec_ArePoints.f kj15 t103).bind fun t151 => (if (t104 == t151) = true then ((spec_IsWiring.f kj15 t112 t113).bind fun t152 => (if (t114 == t152) = true then ((spec_AreLines.f kj15 t123).bind fun t153 => (if (t124 == t153) = true then ((spec_IsConvex.f kj15 t132 t133).bind fun t154 => (some (t134 == t154))) else (some false))) else (some false))) else (some false))) else (some false)) else (if (t134 == false) = true then ((spec_ArePoints.f kj15 t103).bind fun t155 => (if (t104 == t155) = true then ((spec_IsWiring.f kj15 t112 t113).bind fun t156 => (if (t114 == t156) = true then ((spec_AreLines.f kj15 t123).bind fun t157 => (if (t124 == t157) = true then ((spec_IsConvex.f kj15 t132 t133).bind fun t158 => (some (t134 == t158))) else (some false))) else (some false))) else (some false))) else (some false))) else (some false))) else (some false)) else (if (t114 == false) = true then (if t122 ≥ 1 then (if (t124 == (decide (t122 ≤ 3))) = true then (if t131 ≥ 3 then (if (t134 == (decide (t131 ≤ 7))) = true then ((spec_ArePoints.f kj15 t103).bind fun t159 => (if (t104 == t159) = true then ((spec_IsWiring.f kj15 t112 t113).bind fun t160 => (if (t114 == t160) = true then ((spec_AreLines.f kj15 t123).bind fun t161 => (if (t124 == t161) = true then ((spec_IsConvex.f kj15 t132 t133).bind fun t162 => (some (t134 == t162))) else (some false))) else (some false))) else (some false))) else (some false)) else (if (t134 == false) = true then ((spec_ArePoints.f kj15 t103).bind fun t163 => (if (t104 == t163) = true then ((spec_IsWiring.f kj15 t112 t113).bind fun t164 => (if (t114 == t164) = true then ((spec_AreLines.f kj15 t123).bind fun t165 => (if (t124 == t165) = true then ((spec_IsConvex.f kj15 t132 t133).bind fun t166 => (some (t134 == t166))) else (some false))) else (some false))) else (some false))) else (some false))) else (some false)) else (if (t124 == false) = true then (if t131 ≥ 3 then (if (t134 == (decide (t131 ≤ 7))) = true then ((spec_ArePoints.f kj15 t103).bind fun t167 => (if (t104 == t167) = true then ((spec_IsWiring.f kj15 t112 t113).bind fun t168 => (if (t114 == t168) = true then ((spec_AreLines.f kj15 t123).bind fun t169 => (if (t124 == t169) = true then ((spec_IsConvex.f kj15 t132 t133).bind fun t170 => (some (t134 == t170))) else (some false))) else (some false))) else (some false))) else (some false)) else (if (t134 == false) = true then ((spec_ArePoints.f kj15 t103).bind fun t171 => (if (t104 == t171) = true then ((spec_IsWiring.f kj15 t112 t113).bind fun t172 => (if (t114 == t172) = true then ((spec_AreLines.f kj15 t123).bind fun t173 => (if (t124 == t173) = true then ((spec_IsConvex.f kj15 t132 t133).bind fun t174 => (some (t134 == t174))) else (some false))) else (some false))) else (some false))) else (some false))) else (some false))) else (some false))) else (some false)) else (if (t104 == false) = true then (if t111 ≥ 1 then (if (t114 == (decide (t111 ≤ 5))) = true then (if t122 ≥ 1 then (if (t124 == (decide (t122 ≤ 3))) = true then (if t131 ≥ 3 then (if (t134 == (decide (t131 ≤ 7))) = true then ((spec_ArePoints.f kj15 t103).bind fun t175 => (if (t104 == t175) = true then ((spec_IsWiring.f kj15 t112 t113).bind fun t176 => (if (t114 == t176) = true then ((spec_AreLines.f kj15 t123).bind fun t177 => (if (t124 == t177) = true then ((spec_IsConvex.f kj15 t132 t133).bind fun t178 => (some (t134 == t178))) else (some false))) else (some false))) else (some false))) else (some false)) else (if (t134 == false) = true then ((spec_ArePoints.f kj15 t103).bind fun t179 => (if (t104 == t179) = true then ((spec_IsWiring.f kj15 t112 t113).bind fun t180 => (if (t114 == t180) = true then ((spec_AreLines.f kj15 t123).bind fun t181 => (if (t124 == t181) = true then ((spec_IsConvex.f kj15 t132 t133).bind fun t182 => (some (t134 == t182))) else (some false))) else (some false))) else (some false))) else (some false))) else (some false)) else (if (t124 == false) = true then (if t131 ≥ 3 then (if (t134 == (decide (t131 ≤ 7))) = true then ((spec_ArePoints.f kj15 t103).bind fun t183 => (if (t104 == t183) = true then ((spec_IsWiring.f kj15 t112 t113).bind fun t184 => (if (t114 == t184) = true then ((spec_AreLines.f kj15 t123).bind fun t185 => (if (t124 == t185) = true then ((spec_IsConvex.f kj15 t132 t133).bind fun t186 => (some (t134 == t186))) else (some false))) else (some false))) else (some false))) else (some false)) else (if (t134 == false) = true then ((spec_ArePoints.f kj15 t103).bind fun t187 => (if (t104 == t187) = true then ((spec_IsWiring.f kj15 t112 t113).bind fun t188 => (if (t114 == t188) = true then ((spec_AreLines.f kj15 t123).bind fun t189 => (if (t124 == t189) = true then ((spec_IsConvex.f kj15 t132 t133).bind fun t190 => (some (t134 == t190))) else (some false))) else (some false))) else (some false))) else (some false))) else (some false))) else (some false)) else (if (t114 == false) = true then (if t122 ≥ 1 then (if (t124 == (decide (t122 ≤ 3))) = true then (if t131 ≥ 3 then (if (t134 == (decide (t131 ≤ 7))) = true then ((spec_ArePoints.f kj15 t103).bind fun t191 => (if (t104 == t191) = true then ((spec_IsWiring.f kj15 t112 t113).bind fun t192 => (if (t114 == t192) = true then ((spec_AreLines.f kj15 t123).bind fun t193 => (if (t124 == t193) = true then ((spec_IsConvex.f kj15 t132 t133).bind fun t194 => (some (t134 == t194))) else (some false))) else (some false))) else (some false))) else (some false)) else (if (t134 == false) = true then ((spec_ArePoints.f kj15 t103).bind fun t195 => (if (t104 == t195) = true then ((spec_IsWiring.f kj15 t112 t113).bind fun t196 => (if (t114 == t196) = true then ((spec_AreLines.f kj15 t123).bind fun t197 => (if (t124 == t197) = true then ((spec_IsConvex.f kj15 t132 t133).bind fun t198 => (some (t134 == t198))) else (some false))) else (some false))) else (some false))) else (some false))) else (some false)) else (if (t124 == false) = true then (if t131 ≥ 3 then (if (t134 == (decide (t131 ≤ 7))) = true then ((spec_ArePoints.f kj15 t103).bind fun t199 => (if (t104 == t199) = true then ((spec_IsWiring.f kj15 t112 t113).bind fun t200 => (if (t114 == t200) = true then ((spec_AreLines.f kj15 t123).bind fun t201 => (if (t124 == t201) = true then ((spec_IsConvex.f kj15 t132 t133).bind fun t202 => (some (t134 == t202))) else (some false))) else (some false))) else (some false))) else (some false)) else (if (t134 == false) = true then ((spec_ArePoints.f kj15 t103).bind fun t203 => (if (t104 == t203) = true then ((spec_IsWiring.f kj15 t112 t113).bind fun t204 => (if (t114 == t204) = true then ((spec_AreLines.f kj15 t123).bind fun t205 => (if (t124 == t205) = true then ((spec_IsConvex.f kj15 t132 t133).bind fun t206 => (some (t134 == t206))) else (some false))) else (some false))) else (some false))) else (some false))) else (some false))) else (some false))) else (some false))) = some true := by rw [if_neg (show ¬ (false = true) by decide)] at H; exact H
     clear H
     have H := H1
     clear H1
     by_cases c81 : t102 ≥ 1 <;> by_cases c83 : t111 ≥ 1 <;> by_cases c85 : t122 ≥ 1 <;> by_cases c87 : t131 ≥ 3
     all_goals
      (first | rw [if_pos c81] at H | rw [if_neg c81] at H)
      (first | have c81b0 : decide (1 ≤ t102) = true := decide_eq_true c81 | have c81b0 : decide (1 ≤ t102) = false := decide_eq_false c81)
      (first | (have c82b0 : (t104 == (decide (t102 ≤ 5))) = true := (by (cases z_ : (t104 == (decide (t102 ≤ 5))) with | true => rfl | false => (rw [z_] at H; simp at H))); rw [if_pos c82b0] at H) | (have c82b0 : (t104 == false) = true := (by (cases z_ : (t104 == false) with | true => rfl | false => (rw [z_] at H; simp at H))); rw [if_pos c82b0] at H))
      clear c81
      (first | rw [if_pos c83] at H | rw [if_neg c83] at H)
      (first | have c83b0 : decide (1 ≤ t111) = true := decide_eq_true c83 | have c83b0 : decide (1 ≤ t111) = false := decide_eq_false c83)
      (first | (have c84b0 : (t114 == (decide (t111 ≤ 5))) = true := (by (cases z_ : (t114 == (decide (t111 ≤ 5))) with | true => rfl | false => (rw [z_] at H; simp at H))); rw [if_pos c84b0] at H) | (have c84b0 : (t114 == false) = true := (by (cases z_ : (t114 == false) with | true => rfl | false => (rw [z_] at H; simp at H))); rw [if_pos c84b0] at H))
      clear c83
      (first | rw [if_pos c85] at H | rw [if_neg c85] at H)
      (first | have c85b0 : decide (1 ≤ t122) = true := decide_eq_true c85 | have c85b0 : decide (1 ≤ t122) = false := decide_eq_false c85)
      (first | (have c86b0 : (t124 == (decide (t122 ≤ 3))) = true := (by (cases z_ : (t124 == (decide (t122 ≤ 3))) with | true => rfl | false => (rw [z_] at H; simp at H))); rw [if_pos c86b0] at H) | (have c86b0 : (t124 == false) = true := (by (cases z_ : (t124 == false) with | true => rfl | false => (rw [z_] at H; simp at H))); rw [if_pos c86b0] at H))
      clear c85
      (first | rw [if_pos c87] at H | rw [if_neg c87] at H)
      (first | have c87b0 : decide (3 ≤ t131) = true := decide_eq_true c87 | have c87b0 : decide (3 ≤ t131) = false := decide_eq_false c87)
      (first | (have c88b0 : (t134 == (decide (t131 ≤ 7))) = true := (by (cases z_ : (t134 == (decide (t131 ≤ 7))) with | true => rfl | false => (rw [z_] at H; simp at H))); rw [if_pos c88b0] at H) | (have c88b0 : (t134 == false) = true := (by (cases z_ : (t134 == false) with | true => rfl | false => (rw [z_] at H; simp at H))); rw [if_pos c88b0] at H))
      clear c87
      replace H := Option.bind_eq_some_iff.mp H
      obtain ⟨t143, A890, H⟩ := H
      replace H : (if (t104 == t143) = true then ((spec_IsWiring.f kj15 t112 t113).bind fun t144 => (if (t114 == t144) = true then ((spec_AreLines.f kj15 t123).bind fun t145 => (if (t124 == t145) = true then ((spec_IsConvex.f kj15 t132 t133).bind fun t146 => (some (t134 == t146))) else (some false))) else (some false))) else (some false)) = some true := H
      have A89 := Aside0.mk A890
      clear A890
      by_cases c90 : (t104 == t143) = true
      ·rw [if_pos c90] at H
       have c90b0 : (t104 == t143) = true := c90
       clear c90
       replace H := Option.bind_eq_some_iff.mp H
       obtain ⟨t144, A910, H⟩ := H
       replace H : (if (t114 == t144) = true then ((spec_AreLines.f kj15 t123).bind fun t145 => (if (t124 == t145) = true then ((spec_IsConvex.f kj15 t132 t133).bind fun t146 => (some (t134 == t146))) else (some false))) else (some false)) = some true := H
       have A91 := Aside0.mk A910
       clear A910
       by_cases c92 : (t114 == t144) = true
       ·rw [if_pos c92] at H
        have c92b0 : (t114 == t144) = true := c92
        clear c92
        replace H := Option.bind_eq_some_iff.mp H
        obtain ⟨t145, A930, H⟩ := H
        replace H : (if (t124 == t145) = true then ((spec_IsConvex.f kj15 t132 t133).bind fun t146 => (some (t134 == t146))) else (some false)) = some true := H
        have A93 := Aside0.mk A930
        clear A930
        by_cases c94 : (t124 == t145) = true
        ·rw [if_pos c94] at H
         have c94b0 : (t124 == t145) = true := c94
         clear c94
         replace H := Option.bind_eq_some_iff.mp H
         obtain ⟨t146, A950, H⟩ := H
         replace H : (some (t134 == t146)) = some true := H
         have A95 := Aside0.mk A950
         clear A950
         have hz_ : (t134 == t146) = true := Option.some.inj H
         clear H
         obtain ⟨Ao96, co96, eo96⟩ := Kd.R_slice HO_4.out
         subst eo96
         go_wp2_with (first | (go_at_call 20; (with_reducible refine (spec_ArePoints.calls kj15 _ _ t103 t143 _ ?side1 ?side2 A89.out).mono ?_); (case side1 => repeat (first | exact (Kd.R_reads' HO_4.out).2.2 | (with_reducible refine Kd.C_alloc ?_ _) | (with_reducible refine Kd.C_drewN ?_ _) | (with_reducible refine Kd.C_drew ?_))); (case side2 => exact (Kd.R_reads' HO_4.out).2.1); rintro e w97 ⟨rfl, hb⟩; have n0_ := Aside0.mk (Kd.R_below (by (with_reducible repeat (first | apply Kd.R_alloc | apply Kd.R_drewN | apply Kd.R_drew)); exact HO_4.out) hb); have n1_ := Aside0.mk (Kd.R_below (by (with_reducible repeat (first | apply Kd.R_alloc | apply Kd.R_drewN | apply Kd.R_drew)); exact HO_10.out) hb); have n2_ := Aside0.mk (Kd.R_below (by (with_reducible repeat (first | apply Kd.R_alloc | apply Kd.R_drewN | apply Kd.R_drew)); exact HO_16.out) hb); have n3_ := Aside0.mk (blk_below (g := gb135) (o := .cells #[.int .i64 t132, .string t133] 35 (0, 0)) (by (with_reducible repeat (first | refine blk_drewN ?_ _ | refine blk_drew ?_ | refine blk_alloc ?_ _)); exact BK135.out) hb); have n4_ := Aside0.mk (blk_below (g := gb139) (o := .cells #[.int .i64 t136, .string t137] 35 (0, 0)) (by (with_reducible repeat (first | refine blk_drewN ?_ _ | refine blk_drew ?_ | refine blk_alloc ?_ _)); exact BK139.out) hb); have n5_ := Aside0.mk (below_step (by repeat (first | (with_reducible first | exact HB.out | apply below_alloc | apply pw_below_drewN | apply below_drew1 | refine below_set ?_ GE135.out | refine below_set ?_ GE139.out) | exact HB.out)) hb); clear HO_4; clear HO_10; clear HO_16; clear BK135; clear BK139; clear HB; have HO_4 := n0_; have HO_10 := n1_; have HO_16 := n2_; have BK135 := n3_; have BK139 := n4_; have HB := n5_; clear n0_ n1_ n2_ n3_ n4_ n5_; (try clear hb); (try clear hb2); (try clear hk); (try clear hi); obtain ⟨Ao98, co98, eo98⟩ := Kd.R_slice HO_10.out; subst eo98) | (go_at_call 21; (with_reducible refine (spec_IsWiring.calls kj15 t112 _ _ t113 t144 _ ?side1 ?side2 A91.out).mono ?_); (case side1 => repeat (first | exact (Kd.R_reads' HO_10.out).2.2 | (with_reducible refine Kd.C_alloc ?_ _) | (with_reducible refine Kd.C_drewN ?_ _) | (with_reducible refine Kd.C_drew ?_))); (case side2 => exact (Kd.R_reads' HO_10.out).2.1); rintro e w99 ⟨rfl, hb⟩; have n0_ := Aside0.mk (Kd.R_below (by (with_reducible repeat (first | apply Kd.R_alloc | apply Kd.R_drewN | apply Kd.R_drew)); exact HO_4.out) hb); have n1_ := Aside0.mk (Kd.R_below (by (with_reducible repeat (first | apply Kd.R_alloc | apply Kd.R_drewN | apply Kd.R_drew)); exact HO_10.out) hb); have n2_ := Aside0.mk (Kd.R_below (by (with_reducible repeat (first | apply Kd.R_alloc | apply Kd.R_drewN | apply Kd.R_drew)); exact HO_16.out) hb); have n3_ := Aside0.mk (blk_below (g := gb135) (o := .cells #[.int .i64 t132, .string t133] 35 (0, 0)) (by (with_reducible repeat (first | refine blk_drewN ?_ _ | refine blk_drew ?_ | refine blk_alloc ?_ _)); exact BK135.out) hb); have n4_ := Aside0.mk (blk_below (g := gb139) (o := .cells #[.int .i64 t136, .string t137] 35 (0, 0)) (by (with_reducible repeat (first | refine blk_drewN ?_ _ | refine blk_drew ?_ | refine blk_alloc ?_ _)); exact BK139.out) hb); have n5_ := Aside0.mk (below_step (by repeat (first | (with_reducible first | exact HB.out | apply below_alloc | apply pw_below_drewN | apply below_drew1 | refine below_set ?_ GE135.out | refine below_set ?_ GE139.out) | exact HB.out)) hb); clear HO_4; clear HO_10; clear HO_16; clear BK135; clear BK139; clear HB; have HO_4 := n0_; have HO_10 := n1_; have HO_16 := n2_; have BK135 := n3_; have BK139 := n4_; have HB := n5_; clear n0_ n1_ n2_ n3_ n4_ n5_; (try clear hb); (try clear hb2); (try clear hk); (try clear hi); obtain ⟨Ao100, co100, eo100⟩ := Kd.R_slice HO_16.out; subst eo100) | (go_at_call 22; (with_reducible refine (spec_AreLines.calls kj15 _ _ t123 t145 _ ?side1 ?side2 A93.out).mono ?_); (case side1 => repeat (first | exact (Kd.R_reads' HO_16.out).2.2 | (with_reducible refine Kd.C_alloc ?_ _) | (with_reducible refine Kd.C_drewN ?_ _) | (with_reducible refine Kd.C_drew ?_))); (case side2 => exact (Kd.R_reads' HO_16.out).2.1); rintro e w101 ⟨rfl, hb⟩; have n0_ := Aside0.mk (Kd.R_below (by (with_reducible repeat (first | apply Kd.R_alloc | apply Kd.R_drewN | apply Kd.R_drew)); exact HO_4.out) hb); have n1_ := Aside0.mk (Kd.R_below (by (with_reducible repeat (first | apply Kd.R_alloc | apply Kd.R_drewN | apply Kd.R_drew)); exact HO_10.out) hb); have n2_ := Aside0.mk (Kd.R_below (by (with_reducible repeat (first | apply Kd.R_alloc | apply Kd.R_drewN | apply Kd.R_drew)); exact HO_16.out) hb); have n3_ := Aside0.mk (blk_below (g := gb135) (o := .cells #[.int .i64 t132, .string t133] 35 (0, 0)) (by (with_reducible repeat (first | refine blk_drewN ?_ _ | refine blk_drew ?_ | refine blk_alloc ?_ _)); exact BK135.out) hb); have n4_ := Aside0.mk (blk_below (g := gb139) (o := .cells #[.int .i64 t136, .string t137] 35 (0, 0)) (by (with_reducible repeat (first | refine blk_drewN ?_ _ | refine blk_drew ?_ | refine blk_alloc ?_ _)); exact BK139.out) hb); have n5_ := Aside0.mk (below_step (by repeat (first | (with_reducible first | exact HB.out | apply below_alloc | apply pw_below_drewN | apply below_drew1 | refine below_set ?_ GE135.out | refine below_set ?_ GE139.out) | exact HB.out)) hb); clear HO_4; clear HO_10; clear HO_16; clear BK135; clear BK139; clear HB; have HO_4 := n0_; have HO_10 := n1_; have HO_16 := n2_; have BK135 := n3_; have BK139 := n4_; have HB := n5_; clear n0_ n1_ n2_ n3_ n4_ n5_; (try clear hb); (try clear hb2); (try clear hk); (try clear hi); have hnb102 := NB135_139.out; have hnc102 := NB139_135.out; have hcz103_0 : w101.cell? ⟨gb135, 0, none⟩ = some (.int .i64 t132) := (blk_cell BK135.out 0).trans rfl; have hcz103_1 : w101.cell? ⟨gb135, 1, none⟩ = some (.string t133) := (blk_cell BK135.out 1).trans rfl; have hfz103_0 := blk_frozen BK135.out 0; have hfz103_1 := blk_frozen BK135.out 1) | (go_at_call 23; (with_reducible refine (spec_IsConvex.calls kj15 t132 t133 t146 _ A95.out).mono ?_); rintro e w104 ⟨rfl, hb⟩; have n0_ := Aside0.mk (Kd.R_below (by (with_reducible repeat (first | apply Kd.R_alloc | apply Kd.R_drewN | apply Kd.R_drew)); exact HO_4.out) hb); have n1_ := Aside0.mk (Kd.R_below (by (with_reducible repeat (first | apply Kd.R_alloc | apply Kd.R_drewN | apply Kd.R_drew)); exact HO_10.out) hb); have n2_ := Aside0.mk (Kd.R_below (by (with_reducible repeat (first | apply Kd.R_alloc | apply Kd.R_drewN | apply Kd.R_drew)); exact HO_16.out) hb); have n3_ := Aside0.mk (blk_below (g := gb135) (o := .cells #[.int .i64 t132, .string t133] 35 (0, 0)) (by (with_reducible repeat (first | refine blk_drewN ?_ _ | refine blk_drew ?_ | refine blk_alloc ?_ _)); exact BK135.out) hb); have n4_ := Aside0.mk (blk_below (g := gb139) (o := .cells #[.int .i64 t136, .string t137] 35 (0, 0)) (by (with_reducible repeat (first | refine blk_drewN ?_ _ | refine blk_drew ?_ | refine blk_alloc ?_ _)); exact BK139.out) hb); have n5_ := Aside0.mk (below_step (by repeat (first | (with_reducible first | exact HB.out | apply below_alloc | apply pw_below_drewN | apply below_drew1 | refine below_set ?_ GE135.out | refine below_set ?_ GE139.out) | exact HB.out)) hb); clear HO_4; clear HO_10; clear HO_16; clear BK135; clear BK139; clear HB; have HO_4 := n0_; have HO_10 := n1_; have HO_16 := n2_; have BK135 := n3_; have BK139 := n4_; have HB := n5_; clear n0_ n1_ n2_ n3_ n4_ n5_; (try clear hb); (try clear hb2); (try clear hk); (try clear hi)))
         go_ret
         exact ⟨by first | rfl | (simp [errW_none, errW_some] <;> rfl) | (simp [*, errW_none, errW_some] <;> rfl), by repeat (first | (with_reducible first | exact HB.out | apply below_alloc | apply pw_below_drewN | apply below_drew1 | refine below_set ?_ GE135.out | refine below_set ?_ GE139.out) | exact HB.out)⟩
        ·rw [if_neg c94] at H
         have c94b0 : (t124 == t145) = false := by simpa using c94
         clear c94
         exact absurd H (by simp)
       ·rw [if_neg c92] at H
        have c92b0 : (t114 == t144) = false := by simpa using c92
        clear c92
        exact absurd H (by simp)
      ·rw [if_neg c90] at H
       have c90b0 : (t104 == t143) = false := by simpa using c90
       clear c90
       exact absurd H (by simp)
def laws_FnExamples.Pure : Prop := ∀ (x0 : List Int), (x0.length ≤ maxLen ∧ ∀ y0 ∈ x0, (Lit.int .u8 y0).wf = true) → ∃ k, laws_FnExamples.f k x0 = some true
end Go.Proofs.YtobbhjcohkndeaaGreatDoor.P

namespace Go.Proofs.YtobbhjcohkndeaaGreatDoor.Com
open Go.RowKit Go.Proofs.YtobbhjcohkndeaaGreatDoorW.PrintWords
set_option linter.unusedSimpArgs false
set_option linter.unusedVariables false

theorem w64 {x : Int} (h0 : -9223372036854775808 ≤ x) (h1 : x ≤ 9223372036854775807) : wrap64 x = x := by unfold wrap64; omega
theorem Ev.iteT {α : Type} {c : Prop} [Decidable c] {g f : Nat → Option α} {r : α} (hc : c) (h : Ev g r) : Ev (fun k => if c then g k else f k) r := by simpa only [if_pos hc] using h
theorem Ev.iteF {α : Type} {c : Prop} [Decidable c] {g f : Nat → Option α} {r : α} (hc : ¬ c) (h : Ev f r) : Ev (fun k => if c then g k else f k) r := by simpa only [if_neg hc] using h
/-- Rounds enough, told by a bound. -/
theorem Ev.from {α : Type} {g : Nat → Option α} {r : α} (K : Nat) (h : ∀ k, K ≤ k → g k = some r) : Ev g r := ⟨K, h⟩
end Go.Proofs.YtobbhjcohkndeaaGreatDoor.Com

namespace Go.Proofs.YtobbhjcohkndeaaGreatDoor.Pure
open Go.RowKit Go.Proofs.YtobbhjcohkndeaaGreatDoor.P Go.Proofs.YtobbhjcohkndeaaGreatDoorW.PrintWords Go.Proofs.YtobbhjcohkndeaaGreatDoorW.PrintLast Go.Proofs.YtobbhjcohkndeaaGreatDoor.Com
set_option linter.unusedSimpArgs false
set_option linter.unusedVariables false

theorem and255 (x : Int) : 0 ≤ Go.bits .and .i64 x 255 ∧ Go.bits .and .i64 x 255 ≤ 255 := by
  have h : (BitVec.ofInt 64 x &&& BitVec.ofInt 64 255).toNat ≤ 255 := by
    rw [BitVec.toNat_and]
    exact Nat.le_trans Nat.and_le_right (by decide)
  have e : Go.bits .and .i64 x 255 = IntKind.i64.wrap (((BitVec.ofInt 64 x &&& BitVec.ofInt 64 255).toNat : Nat) : Int) := rfl
  rw [e, i64_w]
  generalize (BitVec.ofInt 64 x &&& BitVec.ofInt 64 255).toNat = n at h ⊢
  rw [w64 (by omega) (by omega)]
  omega
theorem l1New_l0 (x : List Int) (hx : x.length ≤ 1099511627776) : ∀ (d : Nat) (i h : Int), 0 ≤ i → i ≤ x.length → i + d = x.length → ∃ h', Ev (fun k => spec_l1New.l0 k x h i) (x, 0, h') := by
  intro d
  induction d with
  | zero =>
    intro i h h0 h1 hd
    exact ⟨h, Ev.step (f := fun _ => some (x, 0, h)) (fun k => by simp only [spec_l1New.l0]; rw [if_neg (by omega)]) (Ev.now _)⟩
  | succ d ih =>
    intro i h h0 h1 hd
    by_cases c : i < 4000
    · obtain ⟨h', hE⟩ := ih (i + 1) (Go.bits .and .i64 (wrap64 ((wrap64 ((wrap64 (h * 131)) + (wrap64 (rd x i)))) + 7)) 1073741823) (by omega) (by omega) (by omega)
      exact ⟨h', Ev.step (fun k => by simp only [spec_l1New.l0]; rw [if_pos (by omega), if_pos c, if_pos h0, w64 (x := i + 1) (by omega) (by omega)]) hE⟩
    · exact ⟨h, Ev.step (f := fun _ => some (x, 0, h)) (fun k => by simp only [spec_l1New.l0]; rw [if_pos (by omega), if_neg c]) (Ev.now _)⟩
theorem l1New_ev (x : List Int) (hx : x.length ≤ 1099511627776) : ∃ h, Ev (fun k => spec_l1New.f k x) (x, 0, h) :=
  l1New_l0 x hx x.length 0 _ (by omega) (by omega) (by omega)
theorem l1Byte_is (x : List Int) (i h : Int) (hi : 0 ≤ i) : ∃ b j g, spec_l1Byte.f x i h = some (b, j, g) ∧ 0 ≤ b ∧ b ≤ 255 := by
  unfold spec_l1Byte.f
  by_cases c : i < (x.length : Int)
  · rw [if_pos c, if_pos hi]
    exact ⟨_, _, _, rfl, (and255 _).1, (and255 _).2⟩
  · rw [if_neg c]
    exact ⟨_, _, _, rfl, (and255 _).1, (and255 _).2⟩
theorem l1Below_is (x : List Int) (i h m : Int) (hi : 0 ≤ i) (hm : 0 < m) (hm2 : m ≤ 256) : ∃ v j g, spec_l1Below.f x i h m = some (v, j, g) ∧ 0 ≤ v ∧ v < m := by
  obtain ⟨b, j, g, hb, h0, h1⟩ := l1Byte_is x i h hi
  unfold spec_l1Below.f
  rw [if_neg (by omega), if_pos hm2, hb]
  simp only [Option.bind_some]
  rw [if_neg (by omega)]
  exact ⟨_, _, _, rfl, Int.tmod_nonneg _ h0, Int.tmod_lt_of_pos _ hm⟩
end Go.Proofs.YtobbhjcohkndeaaGreatDoor.Pure

namespace Go.Proofs.YtobbhjcohkndeaaGreatDoor.Pure
open Go.RowKit Go.Proofs.YtobbhjcohkndeaaGreatDoor.P Go.Proofs.YtobbhjcohkndeaaGreatDoorW.PrintWords Go.Proofs.YtobbhjcohkndeaaGreatDoorW.PrintLast Go.Proofs.YtobbhjcohkndeaaGreatDoor.Com
set_option linter.unusedSimpArgs false
set_option linter.unusedVariables false

theorem Ev.mono_ {α : Type} {f : Nat → Option α} (hm : ∀ k, LeO (f k) (f (k + 1))) (K : Nat) {r : α} (h : f K = some r) : Ev f r := by
  refine ⟨K, fun k hk => ?_⟩
  obtain ⟨d, rfl⟩ : ∃ d, k = K + d := ⟨k - K, by omega⟩
  clear hk
  induction d with
  | zero => exact h
  | succ d ih => exact hm _ _ ih
def exP (n : Int) : List S64 := ((impl_ExamplePoints.f 400 n).getD ([], false)).1
def okP (n : Int) : Bool := decide (1 ≤ n ∧ n ≤ 5)
set_option maxRecDepth 1000000 in
theorem points_ev (n : Int) (h0 : -1 ≤ n) (h1 : n ≤ 6) : Ev (fun k => impl_ExamplePoints.f k n) (exP n, okP n) ∧ Ev (fun k => spec_ExamplePoints.f k n) (exP n, okP n) ∧ Ev (fun k => laws_samePoints.f k (exP n) (exP n)) true ∧ Ev (fun k => spec_ArePoints.f k (exP n)) (okP n) := by
  have c : n = -1 ∨ n = 0 ∨ n = 1 ∨ n = 2 ∨ n = 3 ∨ n = 4 ∨ n = 5 ∨ n = 6 := by omega
  rcases c with rfl | rfl | rfl | rfl | rfl | rfl | rfl | rfl <;>
  exact ⟨Ev.mono_ (impl_ExamplePoints.mono _) 400 (by kernel_rfl), Ev.mono_ (spec_ExamplePoints.mono _) 400 (by kernel_rfl), Ev.mono_ (laws_samePoints.mono _ _) 400 (by kernel_rfl), Ev.mono_ (spec_ArePoints.mono _) 400 (by kernel_rfl)⟩
def exW (n : Int) : Int × List Int := (((impl_ExampleWiring.f 400 n).getD (0, [], false)).1, ((impl_ExampleWiring.f 400 n).getD (0, [], false)).2.1)
set_option maxRecDepth 1000000 in
theorem wiring_ev (n : Int) (h0 : -1 ≤ n) (h1 : n ≤ 6) : Ev (fun k => impl_ExampleWiring.f k n) ((exW n).1, (exW n).2, okP n) ∧ Ev (fun k => spec_ExampleWiring.f k n) ((exW n).1, (exW n).2, okP n) ∧ Ev (fun k => laws_sameInts.f k (exW n).2 (exW n).2) true ∧ Ev (fun k => spec_IsWiring.f k (exW n).1 (exW n).2) (okP n) := by
  have c : n = -1 ∨ n = 0 ∨ n = 1 ∨ n = 2 ∨ n = 3 ∨ n = 4 ∨ n = 5 ∨ n = 6 := by omega
  rcases c with rfl | rfl | rfl | rfl | rfl | rfl | rfl | rfl <;>
  exact ⟨Ev.mono_ (impl_ExampleWiring.mono _) 400 (by kernel_rfl), Ev.mono_ (spec_ExampleWiring.mono _) 400 (by kernel_rfl), Ev.mono_ (laws_sameInts.mono _ _) 400 (by kernel_rfl), Ev.mono_ (spec_IsWiring.mono _ _) 400 (by kernel_rfl)⟩
def exL (n : Int) : List S52 := ((impl_ExampleLines.f n).getD ([], false)).1
def okL (n : Int) : Bool := decide (1 ≤ n ∧ n ≤ 3)
set_option maxRecDepth 1000000 in
theorem lines_ev (n : Int) (h0 : -1 ≤ n) (h1 : n ≤ 4) : impl_ExampleLines.f n = some (exL n, okL n) ∧ spec_ExampleLines.f n = some (exL n, okL n) ∧ Ev (fun k => laws_sameLines.f k (exL n) (exL n)) true ∧ Ev (fun k => spec_AreLines.f k (exL n)) (okL n) := by
  have c : n = -1 ∨ n = 0 ∨ n = 1 ∨ n = 2 ∨ n = 3 ∨ n = 4 := by omega
  rcases c with rfl | rfl | rfl | rfl | rfl | rfl <;>
  exact ⟨by kernel_rfl, by kernel_rfl, Ev.mono_ (laws_sameLines.mono _ _) 400 (by kernel_rfl), Ev.mono_ (spec_AreLines.mono _) 400 (by kernel_rfl)⟩
def exS (n : Int) : Int × ByteArray := (((impl_ConvexSigns.f n).getD (0, ⟨#[]⟩, false)).1, ((impl_ConvexSigns.f n).getD (0, ⟨#[]⟩, false)).2.1)
def okS (n : Int) : Bool := decide (3 ≤ n ∧ n ≤ 7)
set_option maxRecDepth 1000000 in
theorem signs_ev (n : Int) (h0 : 0 ≤ n) (h1 : n ≤ 9) : impl_ConvexSigns.f n = some ((exS n).1, (exS n).2, okS n) ∧ Ev (fun k => spec_ConvexSigns.f k n) ((exS n).1, (exS n).2, okS n) ∧ Ev (fun k => spec_IsConvex.f k (exS n).1 (exS n).2) (okS n) := by
  have c : n = 0 ∨ n = 1 ∨ n = 2 ∨ n = 3 ∨ n = 4 ∨ n = 5 ∨ n = 6 ∨ n = 7 ∨ n = 8 ∨ n = 9 := by omega
  rcases c with rfl | rfl | rfl | rfl | rfl | rfl | rfl | rfl | rfl | rfl <;>
  exact ⟨by kernel_rfl, Ev.mono_ (spec_ConvexSigns.mono _) 400 (by kernel_rfl), Ev.mono_ (spec_IsConvex.mono _ _) 100000 (by kernel_rfl)⟩
theorem ge_pos {n a b : Int} (h : n ≥ a) : (decide (a ≤ n ∧ n ≤ b) == decide (n ≤ b)) = true := by
  rw [beq_iff_eq, decide_eq_decide]; omega
theorem ge_neg {n a b : Int} (h : ¬ n ≥ a) : (decide (a ≤ n ∧ n ≤ b) == false) = true := by
  rw [beq_iff_eq, decide_eq_false_iff_not]; omega
theorem joint_ev (n k i j : Int) (h : Ev (fun q => (spec_ArePoints.f q (exP n)).bind fun t => if (okP n == t) = true then (spec_IsWiring.f q (exW k).1 (exW k).2).bind fun t => if (okP k == t) = true then (spec_AreLines.f q (exL i)).bind fun t => if (okL i == t) = true then (spec_IsConvex.f q (exS j).1 (exS j).2).bind fun t => some (okS j == t) else some false else some false else some false) true) :
    Ev (fun q => laws_FnExamples.j0 q n (exP n) (okP n) k (exW k).1 (exW k).2 (okP k) i (exL i) (okL i) j (okS j) false (exS j).1 (exS j).2) true := by
  refine Ev.step (fun q => by simp only [laws_FnExamples.j0, Bool.false_eq_true, if_false]; rfl) ?_
  by_cases h1 : n ≥ 1 <;> by_cases h2 : k ≥ 1 <;> by_cases h3 : i ≥ 1 <;> by_cases h4 : j ≥ 3
  all_goals
    (first | refine Ev.iteT h1 (Ev.iteT (ge_pos h1) ?_) | refine Ev.iteF h1 (Ev.iteT (ge_neg h1) ?_))
    (first | refine Ev.iteT h2 (Ev.iteT (ge_pos h2) ?_) | refine Ev.iteF h2 (Ev.iteT (ge_neg h2) ?_))
    (first | refine Ev.iteT h3 (Ev.iteT (ge_pos h3) ?_) | refine Ev.iteF h3 (Ev.iteT (ge_neg h3) ?_))
    (first | refine Ev.iteT h4 (Ev.iteT (ge_pos h4) ?_) | refine Ev.iteF h4 (Ev.iteT (ge_neg h4) ?_))
    exact h
theorem FnExamples : laws_FnExamples.Pure := by
  rintro x ⟨hm, _⟩
  apply Ev.rounds
  simp only [laws_FnExamples.f, laws_big.f, Option.bind_some]
  by_cases hb : x.length ≤ 1048576
  · refine Ev.iteF (by simp; omega) ?_
    obtain ⟨h, hN⟩ := l1New_ev x (by omega)
    obtain ⟨v1, j1, g1, e1, a1, b1⟩ := l1Below_is x 0 h 8 (by omega) (by omega) (by omega)
    obtain ⟨v3, j3, g3, e3, a3, b3⟩ := l1Below_is x 0 h 6 (by omega) (by omega) (by omega)
    obtain ⟨v4, j4, g4, e4, a4, b4⟩ := l1Below_is x 0 h 10 (by omega) (by omega) (by omega)
    have d1 : Ev (fun k => spec_DrawExamplePoints.f k x) (v1 - 1) := by
      simp only [spec_DrawExamplePoints.f]
      refine Ev.bind hN ?_
      rw [e1]
      simp only [Option.bind_some]
      rw [w64 (by omega) (by omega)]
      exact Ev.now _
    have d2 : Ev (fun k => spec_DrawExampleWiring.f k x) (v1 - 1) := by
      simp only [spec_DrawExampleWiring.f]
      refine Ev.bind hN ?_
      rw [e1]
      simp only [Option.bind_some]
      rw [w64 (by omega) (by omega)]
      exact Ev.now _
    have d3 : Ev (fun k => spec_DrawExampleLines.f k x) (v3 - 1) := by
      simp only [spec_DrawExampleLines.f]
      refine Ev.bind hN ?_
      rw [e3]
      simp only [Option.bind_some]
      rw [w64 (by omega) (by omega)]
      exact Ev.now _
    have d4 : Ev (fun k => spec_DrawConvexSigns.f k x) v4 := by
      simp only [spec_DrawConvexSigns.f]
      refine Ev.bind hN ?_
      rw [e4]
      exact Ev.now _
    obtain ⟨p1, p2, p3, p4⟩ := points_ev (v1 - 1) (by omega) (by omega)
    obtain ⟨w1, w2, w3, w4⟩ := wiring_ev (v1 - 1) (by omega) (by omega)
    obtain ⟨l1, l2, l3, l4⟩ := lines_ev (v3 - 1) (by omega) (by omega)
    obtain ⟨s1, s2, s3⟩ := signs_ev v4 (by omega) (by omega)
    refine Ev.bind d1 (Ev.bind p1 (Ev.bind p2 (Ev.bind d2 (Ev.bind w1 (Ev.bind w2 (Ev.bind d3 ?_))))))
    rw [l1, l2]
    simp only [Option.bind_some]
    refine Ev.bind d4 ?_
    rw [s1]
    simp only [Option.bind_some]
    refine Ev.bind s2 ?_
    refine Ev.iteF (by simp) (Ev.bind p3 (Ev.iteT (by first | rfl | trivial) (Ev.iteF (by simp) (Ev.iteT (by first | rfl | trivial) (Ev.bind w3 (Ev.iteT (by first | rfl | trivial) (Ev.iteF (by simp) (Ev.bind l3 (Ev.iteT (by first | rfl | trivial) (Ev.iteF (by simp) ?_))))))))))
    simp only [beq_self_eq_true, Bool.not_true, Bool.or_self]
    refine joint_ev _ _ _ _ ?_
    exact Ev.bind p4 (Ev.iteT (by simp) (Ev.bind w4 (Ev.iteT (by simp) (Ev.bind l4 (Ev.iteT (by simp) (Ev.bind s3 (by simp only [beq_self_eq_true]; exact Ev.now _)))))))
  · exact Ev.iteT (by simp; omega) (Ev.now true)
end Go.Proofs.YtobbhjcohkndeaaGreatDoor.Pure

namespace Go.Proofs.YtobbhjcohkndeaaGreatDoor.Opn
open Go Go.Deep Go.ChangeShapes Go.WideShapes Go.Proofs.YtobbhjcohkndeaaGreatDoorW.PrintWords

section
variable {H : Type} (enc : TypeId × Value → H) (P : Program) (w : World) (base : Nat) (spare : Nat → Bool) (held : Bool)
/-- Whatever is read at type t is told by the kind d, and Q holds of it. -/
def Opens {α : Type} (d : Kd α) (t : TypeId) (Q : α → Prop) : Prop :=
  ∀ (fuel : Nat) (cs : List Value) (x : DataW H × List MemPlace), DataW.trod enc P w base spare held fuel t cs = some x → ∃ a, d.K w a cs ∧ Q a
end
section
variable {H : Type} {enc : TypeId × Value → H} {P : Program} {w : World} {base : Nat} {spare : Nat → Bool} {held : Bool}
theorem opens_int {t : TypeId} {k : IntKind} (ht : P.underlying t = some (.int k)) : Opens enc P w base spare held (Kd.int k) t (fun n => (Lit.int k n).wf = true) := fun fuel cs x h => by
  obtain ⟨n, rfl, _, hw⟩ := DataW.trod_int ht h
  exact ⟨n, rfl, hw⟩
theorem opens_slice {α : Type} {d : Kd α} {t e : TypeId} {Q : α → Prop} (ht : P.underlying t = some (.slice e)) (hc : P.cellsOf e = d.sz) (h : Opens enc P w base spare held d e Q) :
    Opens enc P w base spare held (Kd.slice e d) t (fun xs => xs.length ≤ maxLen ∧ ∀ x ∈ xs, Q x) := fun fuel cs x hx => by
  rcases open_slice ht hx with ⟨rfl, _⟩ | ⟨a, len, cap, m, n, D, Pl, rfl, _, hl, hm, hmm, _, hel⟩
  · exact ⟨[], ⟨none, 0, rfl, Nat.le_refl _, ⟨rfl, by simp, fun h => by simp at h⟩⟩, by simp⟩
  have hlm : len ≤ m := by rw [hmm]; split <;> omega
  have hi : ∀ i : Fin len, ∃ y : α, (∃ cs', w.cells? base (a.add (i.val * P.cellsOf e)) (P.cellsOf e) = some cs' ∧ d.K w y cs') ∧ Q y := fun i => by
    obtain ⟨cs', h1, h2⟩ := hel i.val (by omega)
    obtain ⟨y, hK, hQ⟩ := h _ _ _ h2
    exact ⟨y, ⟨cs', h1, hK⟩, hQ⟩
  let f : Fin len → α := fun i => Classical.choose (hi i)
  have hfs : ∀ i : Fin len, (∃ cs', w.cells? base (a.add (i.val * P.cellsOf e)) (P.cellsOf e) = some cs' ∧ d.K w (f i) cs') ∧ Q (f i) := fun i => Classical.choose_spec (hi i)
  have hlen : (List.ofFn f).length = len := by simp
  have hmax : cap ≤ 9223372036854775807 := by unfold maxLen at hm; omega
  refine ⟨List.ofFn f, ⟨some a, cap, by rw [hlen], by omega, ⟨rfl, by omega, fun _ => ⟨a, rfl, fun j p hj => ?_⟩⟩⟩, by omega, fun y hy => ?_⟩
  · obtain ⟨hj', rfl⟩ := List.getElem?_eq_some_iff.1 hj
    obtain ⟨⟨cs', h1, hK⟩, _⟩ := hfs ⟨j, by omega⟩
    obtain ⟨_, hcl, hcell⟩ := World.cells?_some h1
    refine ⟨cs', by omega, by simpa using hK, fun i u hu => ?_⟩
    have hiu : i < P.cellsOf e := by
      have := (List.getElem?_eq_some_iff.1 hu).1
      omega
    have := hcell i hiu
    rw [Go.Deep.add_add, hu, hc] at this
    exact this
  · obtain ⟨i, rfl⟩ := (List.mem_ofFn).1 hy
    exact (hfs i).2
end
end Go.Proofs.YtobbhjcohkndeaaGreatDoor.Opn

namespace Go.Proofs.YtobbhjcohkndeaaGreatDoor.fnExamples
open Go.ChangeShapes Go.WideShapes Go.ChangeAt Go.RowKit Go.Proofs.YtobbhjcohkndeaaGreatDoor.P Go.Proofs.YtobbhjcohkndeaaGreatDoor.Opn Go.Proofs.YtobbhjcohkndeaaGreatDoorW.PrintWords
open Go.ChangeMaps (open_string shut_string)
set_option linter.unusedVariables false
set_option linter.unusedSimpArgs false
theorem own : ownKnob Tryz.prog.godebug = none := by kernel_rfl
theorem laidOut : laidOutB Tryz.prog = true := by kernel_rfl
theorem tab_of_laid {W : World} (h : laidMetH Tryz.prog Rows.fnExamplesRow.laid W) : Tab W := by
 rw [MakeChecks.laidMetH_plain _ _ _ (by kernel_rfl)] at h
 obtain ⟨g, t, cs, fuel, p, hg, ht, hvar, hd⟩ := Lib.laidMet.reads h (n := "internal/strconv.uint64pow10") (d := Lib.tabData .u64 Lib.pow10Tab) (List.mem_of_getElem? (i := 2) (by kernel_rfl))
 obtain rfl := Option.some.inj ((show Tryz.prog.globalNamed "internal/strconv.uint64pow10" = some 3 by kernel_rfl).symm.trans hg)
 obtain rfl := Option.some.inj ((show (Tryz.prog.globals[3]?).map (·.type) = some 143 by kernel_rfl).symm.trans ht)
 unfold Tab Lib.TabIs
 rw [hvar, ← Lib.cells_of_tab Tryz.underlying143 Tryz.underlying124 (by kernel_rfl) (by kernel_rfl) hd]
theorem door_met (os : Os) (args : Array Value) : laidMetH Tryz.prog Rows.fnExamplesRow.laid ((World.doorLaid Tryz.prog 400 os).forCall (fun _ _ => 0) ⟨#[], args, []⟩).memory :=
 laidMetH_of_parts3 (fuel := 8) (laidMet_of_run' 8 (by kernel_rfl) (by kernel_rfl)) (by kernel_rfl) (by kernel_rfl)
set_option maxRecDepth 100000 in
theorem lifted (os : Os) (started : os.Started) (H : Type) (enc : TypeId × Value → H) :
  ReturnsInHanded {} Tryz.checked os 3 .any (fun w args => (Rows.fnExamplesSpec.pre enc Tryz.prog Tryz.f3 [] false w args ∧ laidMetH Tryz.prog Rows.fnExamplesRow.laid w) ∧ sizedMet enc Tryz.prog Tryz.f3 (OpenSpec.ofChange Rows.fnExamplesSpec) false w args) (Rows.fnExamplesSpec.post enc Tryz.prog Tryz.f3 false true false false) := by
 refine returnsInHanded_of_change_and (C := Tryz.checked) (X := fun w _ => laidMetH Tryz.prog Rows.fnExamplesRow.laid w) (fun _ _ _ hh h => h.of_heap hh) own started (by kernel_rfl) Tryz.func3
  (ChangeSpec.witness_shaped (enc := enc) (C := Tryz.checked) (os := os) (X := fun w _ => laidMetH Tryz.prog Rows.fnExamplesRow.laid w) false (World.doorLaid Tryz.prog 400 os) #[.slice none 0 0] 8 rfl (World.shaped_of_RefB (by kernel_rfl) (by kernel_rfl)) (by kernel_rfl) (by kernel_rfl) (by kernel_rfl) (door_met os _)) ?_
 intro W base args ds gs before hval0 hW _ _ hL _
 have htab_ : Tab W := tab_of_laid hL
 have hval : ∀ (j : Nat) t v, Tryz.f3.params[j]? = some t → args[j]? = some v → Value.okWide Tryz.prog W .any base t v := hval0
 have hW' := hW
 obtain ⟨p, q, hA0, hV, rfl, hfz, hnd⟩ := hW
 have hA : DataW.TrodAll enc Tryz.prog W 0 (fun _ => true) true Tryz.f3.params.toList args.toList ds p := hA0
 rw [Tryz.params3] at hA hval
 obtain ⟨v0, vs0, d0, ds0, p0, q0, hargs, rfl, rfl, h0, r0⟩ := trodAll_cons hA
 obtain ⟨rfl, rfl, rfl⟩ := trodAll_nil r0
 obtain rfl : args = #[v0] := by cases args; simp_all
 obtain ⟨rfl, rfl⟩ := trodVars_none hV
 have k0 := h0
 have lt0 : ∀ x ∈ p0, x.block < W.heap.size := by obtain ⟨m, hm⟩ := k0; exact DataW.trod_lt m _ _ _ hm
 obtain ⟨a0, len0, cap0, rfl⟩ := okWide_slice Tryz.underlying22 (hval 0 22 v0 rfl rfl)
 obtain ⟨x0, ⟨A0, c0, e0, hc0, hC0⟩, y0⟩ : ∃ xs : List Int, (Kd.slice 5 (Kd.int .u8)).K W xs [.slice a0 len0 cap0] ∧ (xs.length ≤ maxLen ∧ ∀ y0 ∈ xs, (Lit.int .u8 y0).wf = true) := by obtain ⟨m, hm⟩ := h0; exact (opens_slice Tryz.underlying22 (by kernel_rfl) (opens_int Tryz.underlying5)) m _ _ hm
 simp only [List.cons.injEq, Value.slice.injEq, and_true] at e0
 obtain ⟨rfl, rfl, rfl⟩ := e0
 clear hA0 hval0
 obtain ⟨k, hP⟩ := Pure.FnExamples x0 y0
 refine (laws_FnExamples.calls k _ _ x0 true W hC0 hc0 hP htab_).mono ?_
 rintro e W' ⟨he, bel0⟩
 have bel : Below W.heap.size W W' := bel0
 subst he
 exact ⟨_, rfl, _, _, _, [], _, [], hW', trodAll_mk1 (shut_bool Tryz.underlying4 _), (trodAll_cons_mk (Below.trod laidOut (by kernel_rfl) (of_decide_eq_true (by kernel_rfl)) k0 bel lt0) trodAll_mk0), rfl, bel.frame _, fun h => by cases h⟩
theorem over : Rows.fnExamplesRow.holds Tryz.pinned (OpenSpec.ofChange Rows.fnExamplesSpec) :=
 OpenClaim.holds_of_wide 3 Tryz.f3 rfl rfl rfl rfl rfl rfl rfl ⟨rfl, rfl, rfl, rfl, rfl⟩ rfl rfl rfl rfl rfl (by kernel_rfl) Tryz.func3 (by kernel_rfl)
  (of_decide_eq_true (by kernel_rfl)) (by unfold Func.isWrapper; first | (rw [if_pos (by decide +kernel)]; kernel_rfl) | (rw [if_neg (by decide +kernel)]; exact ⟨rfl, rfl⟩))
  (fun os started H enc _ => lifted os started H enc)
theorem proved : Rows.FnExamplesSaid := over
#print axioms proved
end Go.Proofs.YtobbhjcohkndeaaGreatDoor.fnExamples
namespace Go.Proofs.YtobbhjcohkndeaaGreatDoor
theorem fnExamples_card : Rows.FnExamplesCardSaid :=
 Claim7.holds_tied_plain_at .later [] [.data, .data, .data, .sentinel, .sentinel] true (Rows.fnExamplesCard.stood.harness) true
  fnExamples.proved (fun _ h => by cases h) (by kernel_rfl) (fun _ h => by cases h) fnExamples_row_tie rfl ⟨rfl, rfl⟩ (by kernel_rfl) rfl
  (fun f fn hf hfn => by
   obtain rfl : f = 3 := Option.some.inj ((show Tryz.prog.funcNamed "loop.example/g03104/laws.FnExamples" = some 3 by kernel_rfl).symm.trans hf) |>.symm
   obtain rfl : fn = Tryz.f3 := (Option.some.inj (Tryz.func3.symm.trans hfn)).symm
   exact ⟨by kernel_rfl, fun j t ht => by
    rw [Tryz.params3] at ht
    have hm : t ∈ [22] := by simpa using Array.mem_of_getElem? ht
    have hall : ([22].all fun u => !Tryz.prog.wantsStandIn u) = true := by kernel_rfl
    exact (show Tryz.prog.wantsStandIn t = false by simpa using List.all_eq_true.1 hall t hm)⟩)
  (by kernel_rfl)
#print axioms fnExamples_card
end Go.Proofs.YtobbhjcohkndeaaGreatDoor

