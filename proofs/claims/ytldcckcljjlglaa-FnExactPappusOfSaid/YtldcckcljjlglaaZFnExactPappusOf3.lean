/- For every list of points the program's PappusOf returns what the reference's returns, a new list, and leaves the list as it was; no condition. -/
import Derived.Test.YtldcckcljjlglaaZFnExactPappusOf2
import Derived.Test.YtldcckcljjlglaaRows
import Derived.Test.YtldcckcljjlglaaProg
import Derived.Below
import Derived.Deep.Draws
import Derived.Deep.AppendLies
import Derived.Maps.AppendAt
import Derived.OwnWalk
import Derived.Laws.BytesArg
import Derived.Laws.MakeOwn
import Derived.Laws.OwnMore
import Derived.Deep.OwnRows
import Derived.Tactics
import Derived.Lib.ConvBytes
import Derived.Laws.Slices
import Derived.WalkKit
import Derived.KernelRfl
import Derived.RowKit3
import Derived.Deep.LoopGhost
import Derived.Deep.QuietTactic
import Derived.BigQuiet
import Derived.WideLaws
import Derived.Deep.DeepCutAuto
import Derived.Deep.CutBlock
import Derived.Deep.RegionHeld3
import Derived.Laws.Rows
import Derived.Lib.AppendStr
import Derived.ArgAppend
import Derived.Laws.IdiomCopy
import Derived.OrdersHeld
import Derived.Laws.BitsLemmas
import Derived.RowKit
import Derived.Shelf.Abstract
import Derived.Test.YtldcckcljjlglaaWWords
import Derived.Test.YtldcckcljjlglaaWLast
import Derived.Test.YtldcckcljjlglaaWTab
import Derived.Test.YtldcckcljjlglaaWQPut
import Derived.Test.YtldcckcljjlglaaWApart
import Derived.Test.YtldcckcljjlglaaWArr
import Derived.Test.YtldcckcljjlglaaWZeros
import Derived.Test.YtldcckcljjlglaaWFoot
import Derived.Test.YtldcckcljjlglaaWKept
import Derived.Test.YtldcckcljjlglaaWShare
import Derived.Test.YtldcckcljjlglaaWN
import Derived.Test.YtldcckcljjlglaaWEqStruct
import Derived.Test.YtldcckcljjlglaaWRepsOne
import Derived.Test.YtldcckcljjlglaaWNEv
import Derived.Test.YtldcckcljjlglaaWMore
import Derived.Deep.Slices
import Derived.ChangeOld
import Derived.Carry
import Derived.ProofKit
import Derived.OpenShut
import Derived.ShutString
import Derived.SizedLaws
namespace Go.Proofs.Ytldcckcljjlglaa.P
open Go.RowKit Go.Proofs.YtldcckcljjlglaaW.PrintWords Go.Proofs.YtldcckcljjlglaaW.PrintLast Go.Proofs.YtldcckcljjlglaaW.PrintMore
attribute [local go_sem] max2_int min2_int max_two min_two max_three min_three max_four min_four   -- for this text's walks alone
set_option linter.unusedVariables false
set_option linter.unusedSimpArgs false

/-! ### laws_eqTriple: function 132 -/
def laws_eqTriple.f (a0_0 : Int) (a0_1 : Int) (a0_2 : Int) (a1_0 : Int) (a1_1 : Int) (a1_2 : Int) : Option (Bool) := if a0_0 = a1_0 then (if a0_1 = a1_1 then (if a0_2 = a1_2 then (some true) else (some false)) else (some false)) else (some false)
set_option maxHeartbeats 8000000 in
set_option maxRecDepth 100000 in
theorem laws_eqTriple.calls (a0_0 : Int) (a0_1 : Int) (a0_2 : Int) (a1_0 : Int) (a1_1 : Int) (a1_2 : Int) (r : Bool) (w : World) (h : laws_eqTriple.f a0_0 a0_1 a0_2 a1_0 a1_1 a1_2 = some r) :
  Calls Try.prog 132 #[.agg #[.int .i64 a0_0, .int .i64 a0_1, .int .i64 a0_2], .agg #[.int .i64 a1_0, .int .i64 a1_1, .int .i64 a1_2]] w fun e w' => e = .returned (.bool r) ∧ Below w.heap.size w w' := by
 have hu72 := Try.underlying72
 have HB := Aside0.mk (Below.refl w.heap.size w)
 have H : (if a0_0 = a1_0 then (if a0_1 = a1_1 then (if a0_2 = a1_2 then (some true) else (some false)) else (some false)) else (some false)) = some r := h
 clear h
 by_cases c3 : a0_0 = a1_0
 ·rw [if_pos c3] at H
  have c3b0 : (a0_0 == a1_0) = true := beq_iff_eq.mpr c3
  have c3b1 : (a0_0 != a1_0) = false := bne_eq_false_iff_eq.mpr c3
  clear c3
  by_cases c4 : a0_1 = a1_1
  ·rw [if_pos c4] at H
   have c4b0 : (a0_1 == a1_1) = true := beq_iff_eq.mpr c4
   have c4b1 : (a0_1 != a1_1) = false := bne_eq_false_iff_eq.mpr c4
   clear c4
   by_cases c5 : a0_2 = a1_2
   ·rw [if_pos c5] at H
    have c5b0 : (a0_2 == a1_2) = true := beq_iff_eq.mpr c5
    have c5b1 : (a0_2 != a1_2) = false := bne_eq_false_iff_eq.mpr c5
    clear c5
    obtain rfl := Option.some.inj H
    go_enter Try.func132, Try.ntmps132
    go_wp2_with (first | ((with_reducible refine gate_dst (N := 2) rfl ?_); refine box_event ?hg (N := 2) ?hd (cs := #[.int .i64 a0_0, .int .i64 a0_1, .int .i64 a0_2]) (t := 72) ?hr ?_; (case hd => rfl); (case hg => rfl); (case hr => first | (go_simp; done) | (go_simp; rfl)); intro gb101 hg w6 hbox hb; have n0_ := Aside0.mk (below_step (by repeat (first | (with_reducible first | exact HB.out | apply below_alloc | apply pw_below_drewN | apply below_drew1) | exact HB.out)) hb); have n1_ := Aside0.mk (hbox); have n2_ := Aside0.mk ((by rw [hg]; exact (below_size (by repeat (first | (with_reducible first | exact HB.out | apply below_alloc | apply pw_below_drewN | apply below_drew1) | exact HB.out))) : w.heap.size ≤ gb101)); have n3_ := Aside0.mk ((by rw [hg]; exact (below_size (by repeat (first | (with_reducible first | exact HB.out | apply below_alloc | apply pw_below_drewN | apply below_drew1) | exact HB.out))) : w.heap.size ≤ gb101)); clear HB; have HB := n0_; have BK101 := n1_; have GW101 := n2_; have GE101 := n3_; clear n0_ n1_ n2_ n3_; clear hb hbox hg) | ((with_reducible refine gate_dst (N := 3) rfl ?_); refine box_event ?hg (N := 3) ?hd (cs := #[.int .i64 a1_0, .int .i64 a1_1, .int .i64 a1_2]) (t := 72) ?hr ?_; (case hd => rfl); (case hg => rfl); (case hr => first | (go_simp; done) | (go_simp; rfl)); intro gb102 hg w7 hbox hb; have n0_ := Aside0.mk (blk_below (g := gb101) (o := .cells #[.int .i64 a0_0, .int .i64 a0_1, .int .i64 a0_2] 72 (0, 0)) (by (with_reducible repeat (first | refine blk_drewN ?_ _ | refine blk_drew ?_ | refine blk_alloc ?_ _)); exact BK101.out) hb); have n1_ := Aside0.mk (below_step (by repeat (first | (with_reducible first | exact HB.out | apply below_alloc | apply pw_below_drewN | apply below_drew1 | refine below_set ?_ GE101.out) | exact HB.out)) hb); have n2_ := Aside0.mk (hbox); have n3_ := Aside0.mk ((by rw [hg]; exact (below_size (by repeat (first | (with_reducible first | exact HB.out | apply below_alloc | apply pw_below_drewN | apply below_drew1 | refine below_set ?_ GE101.out) | exact HB.out))) : w.heap.size ≤ gb102)); have n4_ := Aside0.mk ((by rw [hg]; exact (below_size (by repeat (first | (with_reducible first | exact HB.out | apply below_alloc | apply pw_below_drewN | apply below_drew1 | refine below_set ?_ GE101.out) | exact HB.out))) : w.heap.size ≤ gb102)); have n5_ := Aside0.mk ((by rw [hg]; exact Nat.ne_of_lt (blk_lt (g := gb101) (o := .cells #[.int .i64 a0_0, .int .i64 a0_1, .int .i64 a0_2] 72 (0, 0)) (by (with_reducible repeat (first | refine blk_drewN ?_ _ | refine blk_drew ?_ | refine blk_alloc ?_ _)); exact BK101.out)) : gb101 ≠ gb102)); have n6_ := Aside0.mk ((by rw [hg]; exact Nat.ne_of_gt (blk_lt (g := gb101) (o := .cells #[.int .i64 a0_0, .int .i64 a0_1, .int .i64 a0_2] 72 (0, 0)) (by (with_reducible repeat (first | refine blk_drewN ?_ _ | refine blk_drew ?_ | refine blk_alloc ?_ _)); exact BK101.out)) : gb102 ≠ gb101)); clear BK101; clear HB; have BK101 := n0_; have HB := n1_; have BK102 := n2_; have GW102 := n3_; have GE102 := n4_; have NB101_102 := n5_; have NB102_101 := n6_; clear n0_ n1_ n2_ n3_ n4_ n5_ n6_; clear hb hbox hg; have hnb8 := NB101_102.out; have hnc8 := NB102_101.out; have hcz9_0 : w7.cell? ⟨gb101, 0, none⟩ = some (.int .i64 a0_0) := (blk_cell BK101.out 0).trans rfl; have hcz9_1 : w7.cell? ⟨gb101, 1, none⟩ = some (.int .i64 a0_1) := (blk_cell BK101.out 1).trans rfl; have hcz9_2 : w7.cell? ⟨gb101, 2, none⟩ = some (.int .i64 a0_2) := (blk_cell BK101.out 2).trans rfl; have hfz9_0 := blk_frozen BK101.out 0; have hfz9_1 := blk_frozen BK101.out 1; have hfz9_2 := blk_frozen BK101.out 2; have hcz10_0 : w7.cell? ⟨gb102, 0, none⟩ = some (.int .i64 a1_0) := (blk_cell BK102.out 0).trans rfl; have hcz10_1 : w7.cell? ⟨gb102, 1, none⟩ = some (.int .i64 a1_1) := (blk_cell BK102.out 1).trans rfl; have hcz10_2 : w7.cell? ⟨gb102, 2, none⟩ = some (.int .i64 a1_2) := (blk_cell BK102.out 2).trans rfl; have hfz10_0 := blk_frozen BK102.out 0; have hfz10_1 := blk_frozen BK102.out 1; have hfz10_2 := blk_frozen BK102.out 2))
    go_ret
    exact ⟨by first | rfl | (simp [errW_none, errW_some] <;> rfl) | (simp [*, errW_none, errW_some] <;> rfl), by repeat (first | (with_reducible first | exact HB.out | apply below_alloc | apply pw_below_drewN | apply below_drew1 | refine below_set ?_ GE101.out | refine below_set ?_ GE102.out) | exact HB.out)⟩
   ·rw [if_neg c5] at H
    have c5b0 : (a0_2 == a1_2) = false := beq_eq_false_iff_ne.mpr c5
    have c5b1 : (a0_2 != a1_2) = true := bne_iff_ne.mpr c5
    obtain rfl := Option.some.inj H
    go_enter Try.func132, Try.ntmps132
    go_wp2_with (first | ((with_reducible refine gate_dst (N := 2) rfl ?_); refine box_event ?hg (N := 2) ?hd (cs := #[.int .i64 a0_0, .int .i64 a0_1, .int .i64 a0_2]) (t := 72) ?hr ?_; (case hd => rfl); (case hg => rfl); (case hr => first | (go_simp; done) | (go_simp; rfl)); intro gb101 hg w11 hbox hb; have n0_ := Aside0.mk (below_step (by repeat (first | (with_reducible first | exact HB.out | apply below_alloc | apply pw_below_drewN | apply below_drew1) | exact HB.out)) hb); have n1_ := Aside0.mk (hbox); have n2_ := Aside0.mk ((by rw [hg]; exact (below_size (by repeat (first | (with_reducible first | exact HB.out | apply below_alloc | apply pw_below_drewN | apply below_drew1) | exact HB.out))) : w.heap.size ≤ gb101)); have n3_ := Aside0.mk ((by rw [hg]; exact (below_size (by repeat (first | (with_reducible first | exact HB.out | apply below_alloc | apply pw_below_drewN | apply below_drew1) | exact HB.out))) : w.heap.size ≤ gb101)); clear HB; have HB := n0_; have BK101 := n1_; have GW101 := n2_; have GE101 := n3_; clear n0_ n1_ n2_ n3_; clear hb hbox hg) | ((with_reducible refine gate_dst (N := 3) rfl ?_); refine box_event ?hg (N := 3) ?hd (cs := #[.int .i64 a1_0, .int .i64 a1_1, .int .i64 a1_2]) (t := 72) ?hr ?_; (case hd => rfl); (case hg => rfl); (case hr => first | (go_simp; done) | (go_simp; rfl)); intro gb102 hg w12 hbox hb; have n0_ := Aside0.mk (blk_below (g := gb101) (o := .cells #[.int .i64 a0_0, .int .i64 a0_1, .int .i64 a0_2] 72 (0, 0)) (by (with_reducible repeat (first | refine blk_drewN ?_ _ | refine blk_drew ?_ | refine blk_alloc ?_ _)); exact BK101.out) hb); have n1_ := Aside0.mk (below_step (by repeat (first | (with_reducible first | exact HB.out | apply below_alloc | apply pw_below_drewN | apply below_drew1 | refine below_set ?_ GE101.out) | exact HB.out)) hb); have n2_ := Aside0.mk (hbox); have n3_ := Aside0.mk ((by rw [hg]; exact (below_size (by repeat (first | (with_reducible first | exact HB.out | apply below_alloc | apply pw_below_drewN | apply below_drew1 | refine below_set ?_ GE101.out) | exact HB.out))) : w.heap.size ≤ gb102)); have n4_ := Aside0.mk ((by rw [hg]; exact (below_size (by repeat (first | (with_reducible first | exact HB.out | apply below_alloc | apply pw_below_drewN | apply below_drew1 | refine below_set ?_ GE101.out) | exact HB.out))) : w.heap.size ≤ gb102)); have n5_ := Aside0.mk ((by rw [hg]; exact Nat.ne_of_lt (blk_lt (g := gb101) (o := .cells #[.int .i64 a0_0, .int .i64 a0_1, .int .i64 a0_2] 72 (0, 0)) (by (with_reducible repeat (first | refine blk_drewN ?_ _ | refine blk_drew ?_ | refine blk_alloc ?_ _)); exact BK101.out)) : gb101 ≠ gb102)); have n6_ := Aside0.mk ((by rw [hg]; exact Nat.ne_of_gt (blk_lt (g := gb101) (o := .cells #[.int .i64 a0_0, .int .i64 a0_1, .int .i64 a0_2] 72 (0, 0)) (by (with_reducible repeat (first | refine blk_drewN ?_ _ | refine blk_drew ?_ | refine blk_alloc ?_ _)); exact BK101.out)) : gb102 ≠ gb101)); clear BK101; clear HB; have BK101 := n0_; have HB := n1_; have BK102 := n2_; have GW102 := n3_; have GE102 := n4_; have NB101_102 := n5_; have NB102_101 := n6_; clear n0_ n1_ n2_ n3_ n4_ n5_ n6_; clear hb hbox hg; have hnb13 := NB101_102.out; have hnc13 := NB102_101.out; have hcz14_0 : w12.cell? ⟨gb101, 0, none⟩ = some (.int .i64 a0_0) := (blk_cell BK101.out 0).trans rfl; have hcz14_1 : w12.cell? ⟨gb101, 1, none⟩ = some (.int .i64 a0_1) := (blk_cell BK101.out 1).trans rfl; have hcz14_2 : w12.cell? ⟨gb101, 2, none⟩ = some (.int .i64 a0_2) := (blk_cell BK101.out 2).trans rfl; have hfz14_0 := blk_frozen BK101.out 0; have hfz14_1 := blk_frozen BK101.out 1; have hfz14_2 := blk_frozen BK101.out 2; have hcz15_0 : w12.cell? ⟨gb102, 0, none⟩ = some (.int .i64 a1_0) := (blk_cell BK102.out 0).trans rfl; have hcz15_1 : w12.cell? ⟨gb102, 1, none⟩ = some (.int .i64 a1_1) := (blk_cell BK102.out 1).trans rfl; have hcz15_2 : w12.cell? ⟨gb102, 2, none⟩ = some (.int .i64 a1_2) := (blk_cell BK102.out 2).trans rfl; have hfz15_0 := blk_frozen BK102.out 0; have hfz15_1 := blk_frozen BK102.out 1; have hfz15_2 := blk_frozen BK102.out 2))
    go_ret
    exact ⟨by first | rfl | (simp [errW_none, errW_some] <;> rfl) | (simp [*, errW_none, errW_some] <;> rfl), by repeat (first | (with_reducible first | exact HB.out | apply below_alloc | apply pw_below_drewN | apply below_drew1 | refine below_set ?_ GE101.out | refine below_set ?_ GE102.out) | exact HB.out)⟩
  ·rw [if_neg c4] at H
   have c4b0 : (a0_1 == a1_1) = false := beq_eq_false_iff_ne.mpr c4
   have c4b1 : (a0_1 != a1_1) = true := bne_iff_ne.mpr c4
   obtain rfl := Option.some.inj H
   go_enter Try.func132, Try.ntmps132
   go_wp2_with (first | ((with_reducible refine gate_dst (N := 2) rfl ?_); refine box_event ?hg (N := 2) ?hd (cs := #[.int .i64 a0_0, .int .i64 a0_1, .int .i64 a0_2]) (t := 72) ?hr ?_; (case hd => rfl); (case hg => rfl); (case hr => first | (go_simp; done) | (go_simp; rfl)); intro gb101 hg w16 hbox hb; have n0_ := Aside0.mk (below_step (by repeat (first | (with_reducible first | exact HB.out | apply below_alloc | apply pw_below_drewN | apply below_drew1) | exact HB.out)) hb); have n1_ := Aside0.mk (hbox); have n2_ := Aside0.mk ((by rw [hg]; exact (below_size (by repeat (first | (with_reducible first | exact HB.out | apply below_alloc | apply pw_below_drewN | apply below_drew1) | exact HB.out))) : w.heap.size ≤ gb101)); have n3_ := Aside0.mk ((by rw [hg]; exact (below_size (by repeat (first | (with_reducible first | exact HB.out | apply below_alloc | apply pw_below_drewN | apply below_drew1) | exact HB.out))) : w.heap.size ≤ gb101)); clear HB; have HB := n0_; have BK101 := n1_; have GW101 := n2_; have GE101 := n3_; clear n0_ n1_ n2_ n3_; clear hb hbox hg) | ((with_reducible refine gate_dst (N := 3) rfl ?_); refine box_event ?hg (N := 3) ?hd (cs := #[.int .i64 a1_0, .int .i64 a1_1, .int .i64 a1_2]) (t := 72) ?hr ?_; (case hd => rfl); (case hg => rfl); (case hr => first | (go_simp; done) | (go_simp; rfl)); intro gb102 hg w17 hbox hb; have n0_ := Aside0.mk (blk_below (g := gb101) (o := .cells #[.int .i64 a0_0, .int .i64 a0_1, .int .i64 a0_2] 72 (0, 0)) (by (with_reducible repeat (first | refine blk_drewN ?_ _ | refine blk_drew ?_ | refine blk_alloc ?_ _)); exact BK101.out) hb); have n1_ := Aside0.mk (below_step (by repeat (first | (with_reducible first | exact HB.out | apply below_alloc | apply pw_below_drewN | apply below_drew1 | refine below_set ?_ GE101.out) | exact HB.out)) hb); have n2_ := Aside0.mk (hbox); have n3_ := Aside0.mk ((by rw [hg]; exact (below_size (by repeat (first | (with_reducible first | exact HB.out | apply below_alloc | apply pw_below_drewN | apply below_drew1 | refine below_set ?_ GE101.out) | exact HB.out))) : w.heap.size ≤ gb102)); have n4_ := Aside0.mk ((by rw [hg]; exact (below_size (by repeat (first | (with_reducible first | exact HB.out | apply below_alloc | apply pw_below_drewN | apply below_drew1 | refine below_set ?_ GE101.out) | exact HB.out))) : w.heap.size ≤ gb102)); have n5_ := Aside0.mk ((by rw [hg]; exact Nat.ne_of_lt (blk_lt (g := gb101) (o := .cells #[.int .i64 a0_0, .int .i64 a0_1, .int .i64 a0_2] 72 (0, 0)) (by (with_reducible repeat (first | refine blk_drewN ?_ _ | refine blk_drew ?_ | refine blk_alloc ?_ _)); exact BK101.out)) : gb101 ≠ gb102)); have n6_ := Aside0.mk ((by rw [hg]; exact Nat.ne_of_gt (blk_lt (g := gb101) (o := .cells #[.int .i64 a0_0, .int .i64 a0_1, .int .i64 a0_2] 72 (0, 0)) (by (with_reducible repeat (first | refine blk_drewN ?_ _ | refine blk_drew ?_ | refine blk_alloc ?_ _)); exact BK101.out)) : gb102 ≠ gb101)); clear BK101; clear HB; have BK101 := n0_; have HB := n1_; have BK102 := n2_; have GW102 := n3_; have GE102 := n4_; have NB101_102 := n5_; have NB102_101 := n6_; clear n0_ n1_ n2_ n3_ n4_ n5_ n6_; clear hb hbox hg; have hnb18 := NB101_102.out; have hnc18 := NB102_101.out; have hcz19_0 : w17.cell? ⟨gb101, 0, none⟩ = some (.int .i64 a0_0) := (blk_cell BK101.out 0).trans rfl; have hcz19_1 : w17.cell? ⟨gb101, 1, none⟩ = some (.int .i64 a0_1) := (blk_cell BK101.out 1).trans rfl; have hcz19_2 : w17.cell? ⟨gb101, 2, none⟩ = some (.int .i64 a0_2) := (blk_cell BK101.out 2).trans rfl; have hfz19_0 := blk_frozen BK101.out 0; have hfz19_1 := blk_frozen BK101.out 1; have hfz19_2 := blk_frozen BK101.out 2; have hcz20_0 : w17.cell? ⟨gb102, 0, none⟩ = some (.int .i64 a1_0) := (blk_cell BK102.out 0).trans rfl; have hcz20_1 : w17.cell? ⟨gb102, 1, none⟩ = some (.int .i64 a1_1) := (blk_cell BK102.out 1).trans rfl; have hcz20_2 : w17.cell? ⟨gb102, 2, none⟩ = some (.int .i64 a1_2) := (blk_cell BK102.out 2).trans rfl; have hfz20_0 := blk_frozen BK102.out 0; have hfz20_1 := blk_frozen BK102.out 1; have hfz20_2 := blk_frozen BK102.out 2))
   go_ret
   exact ⟨by first | rfl | (simp [errW_none, errW_some] <;> rfl) | (simp [*, errW_none, errW_some] <;> rfl), by repeat (first | (with_reducible first | exact HB.out | apply below_alloc | apply pw_below_drewN | apply below_drew1 | refine below_set ?_ GE101.out | refine below_set ?_ GE102.out) | exact HB.out)⟩
 ·rw [if_neg c3] at H
  have c3b0 : (a0_0 == a1_0) = false := beq_eq_false_iff_ne.mpr c3
  have c3b1 : (a0_0 != a1_0) = true := bne_iff_ne.mpr c3
  obtain rfl := Option.some.inj H
  go_enter Try.func132, Try.ntmps132
  go_wp2_with (first | ((with_reducible refine gate_dst (N := 2) rfl ?_); refine box_event ?hg (N := 2) ?hd (cs := #[.int .i64 a0_0, .int .i64 a0_1, .int .i64 a0_2]) (t := 72) ?hr ?_; (case hd => rfl); (case hg => rfl); (case hr => first | (go_simp; done) | (go_simp; rfl)); intro gb101 hg w21 hbox hb; have n0_ := Aside0.mk (below_step (by repeat (first | (with_reducible first | exact HB.out | apply below_alloc | apply pw_below_drewN | apply below_drew1) | exact HB.out)) hb); have n1_ := Aside0.mk (hbox); have n2_ := Aside0.mk ((by rw [hg]; exact (below_size (by repeat (first | (with_reducible first | exact HB.out | apply below_alloc | apply pw_below_drewN | apply below_drew1) | exact HB.out))) : w.heap.size ≤ gb101)); have n3_ := Aside0.mk ((by rw [hg]; exact (below_size (by repeat (first | (with_reducible first | exact HB.out | apply below_alloc | apply pw_below_drewN | apply below_drew1) | exact HB.out))) : w.heap.size ≤ gb101)); clear HB; have HB := n0_; have BK101 := n1_; have GW101 := n2_; have GE101 := n3_; clear n0_ n1_ n2_ n3_; clear hb hbox hg) | ((with_reducible refine gate_dst (N := 3) rfl ?_); refine box_event ?hg (N := 3) ?hd (cs := #[.int .i64 a1_0, .int .i64 a1_1, .int .i64 a1_2]) (t := 72) ?hr ?_; (case hd => rfl); (case hg => rfl); (case hr => first | (go_simp; done) | (go_simp; rfl)); intro gb102 hg w22 hbox hb; have n0_ := Aside0.mk (blk_below (g := gb101) (o := .cells #[.int .i64 a0_0, .int .i64 a0_1, .int .i64 a0_2] 72 (0, 0)) (by (with_reducible repeat (first | refine blk_drewN ?_ _ | refine blk_drew ?_ | refine blk_alloc ?_ _)); exact BK101.out) hb); have n1_ := Aside0.mk (below_step (by repeat (first | (with_reducible first | exact HB.out | apply below_alloc | apply pw_below_drewN | apply below_drew1 | refine below_set ?_ GE101.out) | exact HB.out)) hb); have n2_ := Aside0.mk (hbox); have n3_ := Aside0.mk ((by rw [hg]; exact (below_size (by repeat (first | (with_reducible first | exact HB.out | apply below_alloc | apply pw_below_drewN | apply below_drew1 | refine below_set ?_ GE101.out) | exact HB.out))) : w.heap.size ≤ gb102)); have n4_ := Aside0.mk ((by rw [hg]; exact (below_size (by repeat (first | (with_reducible first | exact HB.out | apply below_alloc | apply pw_below_drewN | apply below_drew1 | refine below_set ?_ GE101.out) | exact HB.out))) : w.heap.size ≤ gb102)); have n5_ := Aside0.mk ((by rw [hg]; exact Nat.ne_of_lt (blk_lt (g := gb101) (o := .cells #[.int .i64 a0_0, .int .i64 a0_1, .int .i64 a0_2] 72 (0, 0)) (by (with_reducible repeat (first | refine blk_drewN ?_ _ | refine blk_drew ?_ | refine blk_alloc ?_ _)); exact BK101.out)) : gb101 ≠ gb102)); have n6_ := Aside0.mk ((by rw [hg]; exact Nat.ne_of_gt (blk_lt (g := gb101) (o := .cells #[.int .i64 a0_0, .int .i64 a0_1, .int .i64 a0_2] 72 (0, 0)) (by (with_reducible repeat (first | refine blk_drewN ?_ _ | refine blk_drew ?_ | refine blk_alloc ?_ _)); exact BK101.out)) : gb102 ≠ gb101)); clear BK101; clear HB; have BK101 := n0_; have HB := n1_; have BK102 := n2_; have GW102 := n3_; have GE102 := n4_; have NB101_102 := n5_; have NB102_101 := n6_; clear n0_ n1_ n2_ n3_ n4_ n5_ n6_; clear hb hbox hg; have hnb23 := NB101_102.out; have hnc23 := NB102_101.out; have hcz24_0 : w22.cell? ⟨gb101, 0, none⟩ = some (.int .i64 a0_0) := (blk_cell BK101.out 0).trans rfl; have hcz24_1 : w22.cell? ⟨gb101, 1, none⟩ = some (.int .i64 a0_1) := (blk_cell BK101.out 1).trans rfl; have hcz24_2 : w22.cell? ⟨gb101, 2, none⟩ = some (.int .i64 a0_2) := (blk_cell BK101.out 2).trans rfl; have hfz24_0 := blk_frozen BK101.out 0; have hfz24_1 := blk_frozen BK101.out 1; have hfz24_2 := blk_frozen BK101.out 2; have hcz25_0 : w22.cell? ⟨gb102, 0, none⟩ = some (.int .i64 a1_0) := (blk_cell BK102.out 0).trans rfl; have hcz25_1 : w22.cell? ⟨gb102, 1, none⟩ = some (.int .i64 a1_1) := (blk_cell BK102.out 1).trans rfl; have hcz25_2 : w22.cell? ⟨gb102, 2, none⟩ = some (.int .i64 a1_2) := (blk_cell BK102.out 2).trans rfl; have hfz25_0 := blk_frozen BK102.out 0; have hfz25_1 := blk_frozen BK102.out 1; have hfz25_2 := blk_frozen BK102.out 2))
  go_ret
  exact ⟨by first | rfl | (simp [errW_none, errW_some] <;> rfl) | (simp [*, errW_none, errW_some] <;> rfl), by repeat (first | (with_reducible first | exact HB.out | apply below_alloc | apply pw_below_drewN | apply below_drew1 | refine below_set ?_ GE101.out | refine below_set ?_ GE102.out) | exact HB.out)⟩

end Go.Proofs.Ytldcckcljjlglaa.P

namespace Go.Proofs.Ytldcckcljjlglaa.P
open Go.RowKit Go.Proofs.YtldcckcljjlglaaW.PrintWords Go.Proofs.YtldcckcljjlglaaW.PrintLast Go.Proofs.YtldcckcljjlglaaW.PrintMore
attribute [local go_sem] max2_int min2_int max_two min_two max_three min_three max_four min_four   -- for this text's walks alone
set_option linter.unusedVariables false
set_option linter.unusedSimpArgs false

/-! ### laws_eqTripleS: function 70 -/
def laws_eqTripleS.l0 : Nat → List (S72) → List (S72) → Int → Option (Bool)
 | 0, _, _, _ => none
 | k + 1, x0, x1, x5 => if x5 < (x0.length : Int) then (if 0 ≤ x5 then (if x5 < (x1.length : Int) then ((laws_eqTriple.f ((rd_T72 x0 x5).f0) ((rd_T72 x0 x5).f1) ((rd_T72 x0 x5).f2) ((rd_T72 x1 x5).f0) ((rd_T72 x1 x5).f1) ((rd_T72 x1 x5).f2)).bind fun t103 => (if t103 = true then (laws_eqTripleS.l0 k x0 x1 (wrap64 (x5 + 1))) else (some false))) else (none)) else (none)) else (some true)
def laws_eqTripleS.f (k : Nat) (l0 : List (S72)) (l1 : List (S72)) : Option (Bool) := if (l0.length : Int) = (l1.length : Int) then (laws_eqTripleS.l0 k l0 l1 0) else (some false)
theorem laws_eqTripleS.mono_l : ∀ k, (∀ y0 y1 y2, LeO (laws_eqTripleS.l0 k y0 y1 y2) (laws_eqTripleS.l0 (k + 1) y0 y1 y2))
 | 0 => fun _ _ _ r h => by simp [laws_eqTripleS.l0] at h
 | k + 1 => by
  have ih0 := laws_eqTripleS.mono_l k
  ·intro y0 y1 y2
   unfold laws_eqTripleS.l0
   repeat' first
   | (with_reducible exact ih0 _ _ _)
   | (with_reducible exact LeO.refl _)
   | (with_reducible exact LeO.none _)
   | (with_reducible refine LeO.ite ?_ ?_)
   | (with_reducible refine LeO.bind ?_ (fun _ => ?_))
   | exact ih0 _ _ _
   | exact LeO.none _
   | refine LeO.ite ?_ ?_
   | refine LeO.bind ?_ (fun _ => ?_)
theorem laws_eqTripleS.mono : ∀ a0 a1 k, LeO (laws_eqTripleS.f k a0 a1) (laws_eqTripleS.f (k + 1) a0 a1) := by
 intro a0 a1 k
 have ih0 := laws_eqTripleS.mono_l k
 unfold laws_eqTripleS.f
 repeat' first
   | (with_reducible exact ih0 _ _ _)
   | (with_reducible exact LeO.refl _)
   | (with_reducible exact LeO.none _)
   | (with_reducible refine LeO.ite ?_ ?_)
   | (with_reducible refine LeO.bind ?_ (fun _ => ?_))
   | exact ih0 _ _ _
   | exact LeO.none _
   | refine LeO.ite ?_ ?_
   | refine LeO.bind ?_ (fun _ => ?_)
def laws_eqTripleS.T6 : Bool × List (List Nat × List Nat) := (true, [([], []), ([], []), ([0, 1], [0, 1]), ([2], [2]), ([], []), ([], []), ([4, 5], [4, 5]), ([6], [6]), ([3, 7], [3, 7]), ([8], [8])])
def laws_eqTripleS.B6 : List Nat := [0, 0, 3, 7, 0, 0, 48, 112, 255, 511]
theorem laws_eqTripleS.tab6 : rtab .any (opsOf Try.f70 6) = laws_eqTripleS.T6 := by kernel_rfl
theorem laws_eqTripleS.bits6 : waitsOk laws_eqTripleS.T6.2 laws_eqTripleS.B6 = true := by kernel_rfl
set_option maxHeartbeats 8000000 in
set_option maxRecDepth 100000 in
theorem laws_eqTripleS.calls (k : Nat) (A0 : Option Addr) (c0 : Nat) (l0 : List (S72)) (A1 : Option Addr) (c1 : Nat) (l1 : List (S72)) (r : Bool) (w : World) (hr0 : Kd.C k72 w A0 l0.length l0) (hc0 : l0.length ≤ c0) (hr1 : Kd.C k72 w A1 l1.length l1) (hc1 : l1.length ≤ c1) (h : laws_eqTripleS.f k l0 l1 = some r) :
  Calls Try.prog 70 #[.slice A0 l0.length c0, .slice A1 l1.length c1] w fun e w' => e = .returned (.bool r) ∧ Below w.heap.size w w' := by
 have hu72 := Try.underlying72
 have HR0 := Aside0.mk hr0
 have HC0 := Aside0.mk hc0
 clear hr0 hc0
 have HR1 := Aside0.mk hr1
 have HC1 := Aside0.mk hc1
 clear hr1 hc1
 have HB := Aside0.mk (Below.refl w.heap.size w)
 have H : (if (l0.length : Int) = (l1.length : Int) then (laws_eqTripleS.l0 k l0 l1 0) else (some false)) = some r := h
 clear h
 by_cases c3 : (l0.length : Int) = (l1.length : Int)
 ·rw [if_pos c3] at H
  have c3b0 : ((l0.length : Int) == (l1.length : Int)) = true := beq_iff_eq.mpr c3
  have c3b1 : ((l0.length : Int) != (l1.length : Int)) = false := bne_eq_false_iff_eq.mpr c3
  have c3b2 : (l0.length == l1.length) = true := by first | simpa using c3 | (simp at c3 ⊢; omega)
  clear c3
  have H' := Aside0.mk H
  clear H
  go_enter Try.func70, Try.ntmps70
  go_wp2
  go_loopg [5] k (fun kq v5 w' => ∃ (x5_1 : Int), v5 = .int .i64 x5_1 ∧ Aside0 (laws_eqTripleS.l0 kq l0 l1 x5_1 = some r) ∧ Aside0 (kq ≤ k) ∧ Aside0 (Below w.heap.size w w'))
  case atStart => exact ⟨(0), (by first | rfl | (simp; done) | (simp [*]; done)), H', ⟨Nat.le_refl _⟩, ⟨by repeat (first | (with_reducible first | exact HB.out | apply below_alloc | apply pw_below_drewN | apply below_drew1) | exact HB.out)⟩⟩
  case round =>
   clear H'
   try clear c1
   try clear p2
   try clear c3
   try clear c3b0
   try clear c3b1
   try clear c3b2
   obtain ⟨x5_1, rfl, HA, HK1, HB⟩ := hrel
   cases gk with
   | zero => exact absurd HA.out (by simp [laws_eqTripleS.l0])
   | succ k1 =>
    have H := HA.out
    clear HA
    simp only [laws_eqTripleS.l0] at H
    by_cases c4 : x5_1 < (l0.length : Int)
    ·rw [if_pos c4] at H
     have c4b0 : decide (x5_1 < (l0.length : Int)) = true := decide_eq_true c4
     clear c4
     by_cases c5 : 0 ≤ x5_1
     ·rw [if_pos c5] at H
      have c5b0 : decide (0 ≤ x5_1) = true := decide_eq_true c5
      clear c5
      by_cases c6 : x5_1 < (l1.length : Int)
      ·rw [if_pos c6] at H
       have c6b0 : decide (x5_1 < (l1.length : Int)) = true := decide_eq_true c6
       clear c6
       replace H := Option.bind_eq_some_iff.mp H
       obtain ⟨t103, A70, H⟩ := H
       replace H : (if t103 = true then (laws_eqTripleS.l0 k1 l0 l1 (wrap64 (x5_1 + 1))) else (some false)) = some r := H
       have A7 := Aside0.mk A70
       clear A70
       by_cases c8 : t103 = true
       ·subst c8
        have H1 : (laws_eqTripleS.l0 k1 l0 l1 (wrap64 (x5_1 + 1))) = some r := by rw [if_pos rfl] at H; exact H
        clear H
        have H := H1
        clear H1
        have H' := Aside0.mk H
        clear H
        try go_wp2
        have n0_ := Aside0.mk (below_drew1 HB.out)
        clear HB
        have HB := n0_
        clear n0_
        have p101 : 0 ≤ (x5_1 : Int) := of_decide_eq_true (by first | (with_reducible assumption) | assumption)
        have q101 : x5_1 < (l0.length : Int) := of_decide_eq_true (by first | (with_reducible assumption) | assumption)
        obtain ⟨ad101, e101, hx101_0, hx101_1, hx101_2⟩ := at_T72 HR0.out x5_1 p101 q101
        have hw101_2 := hx101_2
        have hw101_1 := hx101_1
        have hw101_0 := hx101_0
        cases e101
        replace hx101_0 := (HB.out.cell (World.block_lt_of_cell? w _ hx101_0)).trans hx101_0
        replace hx101_1 := (HB.out.cell (World.block_lt_of_cell? w _ hx101_1)).trans hx101_1
        replace hx101_2 := (HB.out.cell (World.block_lt_of_cell? w _ hx101_2)).trans hx101_2
        replace p101 := eq_true p101
        replace q101 := eq_true q101
        have p102 : 0 ≤ (x5_1 : Int) := of_decide_eq_true (by first | (with_reducible assumption) | assumption)
        have q102 : x5_1 < (l1.length : Int) := of_decide_eq_true (by first | (with_reducible assumption) | assumption)
        obtain ⟨ad102, e102, hx102_0, hx102_1, hx102_2⟩ := at_T72 HR1.out x5_1 p102 q102
        have hw102_2 := hx102_2
        have hw102_1 := hx102_1
        have hw102_0 := hx102_0
        cases e102
        replace hx102_0 := (HB.out.cell (World.block_lt_of_cell? w _ hx102_0)).trans hx102_0
        replace hx102_1 := (HB.out.cell (World.block_lt_of_cell? w _ hx102_1)).trans hx102_1
        replace hx102_2 := (HB.out.cell (World.block_lt_of_cell? w _ hx102_2)).trans hx102_2
        replace p102 := eq_true p102
        replace q102 := eq_true q102
        refine start_ (n := 10) (S := fun w' => w'.cell? (ad101.add ((x5_1).toNat * 3)) = some (.int .i64 ((rd_T72 l0 x5_1).f0)) ∧ w'.cell? ⟨(ad101.add ((x5_1).toNat * 3)).block, (ad101.add ((x5_1).toNat * 3)).off + 1, none⟩ = some (.int .i64 ((rd_T72 l0 x5_1).f1)) ∧ w'.cell? ⟨(ad101.add ((x5_1).toNat * 3)).block, (ad101.add ((x5_1).toNat * 3)).off + 2, none⟩ = some (.int .i64 ((rd_T72 l0 x5_1).f2)) ∧ w'.cell? (ad102.add ((x5_1).toNat * 3)) = some (.int .i64 ((rd_T72 l1 x5_1).f0)) ∧ w'.cell? ⟨(ad102.add ((x5_1).toNat * 3)).block, (ad102.add ((x5_1).toNat * 3)).off + 1, none⟩ = some (.int .i64 ((rd_T72 l1 x5_1).f1)) ∧ w'.cell? ⟨(ad102.add ((x5_1).toNat * 3)).block, (ad102.add ((x5_1).toNat * 3)).off + 2, none⟩ = some (.int .i64 ((rd_T72 l1 x5_1).f2))) (ds := []) (bm 10 0) (by kernel_rfl) rfl rfl ⟨((HB.out.cell (World.block_lt_of_cell? w _ hw101_0)).trans hw101_0), ((HB.out.cell (World.block_lt_of_cell? w _ hw101_1)).trans hw101_1), ((HB.out.cell (World.block_lt_of_cell? w _ hw101_2)).trans hw101_2), ((HB.out.cell (World.block_lt_of_cell? w _ hw102_0)).trans hw102_0), ((HB.out.cell (World.block_lt_of_cell? w _ hw102_1)).trans hw102_1), ((HB.out.cell (World.block_lt_of_cell? w _ hw102_2)).trans hw102_2)⟩ (fun hHeld => ?_); refine with_tabW laws_eqTripleS.tab6 laws_eqTripleS.bits6 (fun HT_ HW_ => ?_)
        generalize wr.drew = w9 at HB hx101_0 hx101_1 hx101_2 hx102_0 hx102_1 hx102_2 hHeld ⊢
        refine plan_ ((0, 0, 17, 1) :: (0, 1, 18, 3) :: (0, 2, 19, 7) :: (0, 4, 21, 23) :: (0, 5, 22, 55) :: (0, 6, 23, 119) :: (2, 3, 20, 127) :: (2, 7, 24, 255) :: []) ?_
        iterate 8 (first | (refine planV_ ?_ ?_ rfl rfl (any_of HT_.out (by kernel_rfl)) (fun _ _ _ h => h) (Or.inl ⟨by rfl, ?_⟩) ?_ ?_; rotate_left 2; (· intro w'; go_simp; with_reducible rfl); (· simp only [Act.put, List.setIfInBounds_toArray, List.set_cons_zero, List.set_cons_succ, i64_w, i32_w]; rfl)) | (refine planT_ ?_ ?_ rfl rfl (take_ofW HT_.out HW_.out (by kernel_rfl)) (fun _ _ _ h => h) (Or.inl ⟨by rfl, ?_⟩) hHeld ?_ ?_; rotate_left 2; (· rintro w' ⟨s0, s1, s2, s3, s4, s5⟩; go_simp; with_reducible rfl); (· simp only [Act.put, List.setIfInBounds_toArray, List.set_cons_zero, List.set_cons_succ, i64_w, i32_w]; rfl)))
        refine planEnd_ ?_
        refine one_ (i := 8) (N := some 25) (bm 10 511) rfl rfl (one_of HT_.out (by kernel_rfl)) (by decide) (fun K hK => ?_)
        refine goes_ Try.func132 (by kernel_rfl) rfl #[.agg #[.int .i64 ((rd_T72 l0 x5_1).f0), .int .i64 ((rd_T72 l0 x5_1).f1), .int .i64 ((rd_T72 l0 x5_1).f2)], .agg #[.int .i64 ((rd_T72 l1 x5_1).f0), .int .i64 ((rd_T72 l1 x5_1).f1), .int .i64 ((rd_T72 l1 x5_1).f2)]] (by rfl) rfl rfl (by (try simp only [List.map_toArray, List.map_cons, List.map_nil]); first | done | rfl | (simp only [List.length_drop, List.length_take]; rfl)) ?_
        with_reducible refine (laws_eqTriple.calls ((rd_T72 l0 x5_1).f0) ((rd_T72 l0 x5_1).f1) ((rd_T72 l0 x5_1).f2) ((rd_T72 l1 x5_1).f0) ((rd_T72 l1 x5_1).f1) ((rd_T72 l1 x5_1).f2) true _ A7.out).mono ?_
        rintro e w10 ⟨rfl, hb⟩
        refine ⟨_, rfl, ?_⟩
        have n0_ := Aside0.mk (below_step (by repeat (first | (with_reducible first | exact HB.out | apply below_alloc | apply pw_below_drewN | apply below_drew1) | exact HB.out)) hb)
        clear HB
        have HB := n0_
        clear n0_
        (try clear hb)
        (try clear hb2)
        (try clear hk)
        (try clear hi)
        refine hK.out _ _ ⟨((HB.out.cell (World.block_lt_of_cell? w _ hw101_0)).trans hw101_0), ((HB.out.cell (World.block_lt_of_cell? w _ hw101_1)).trans hw101_1), ((HB.out.cell (World.block_lt_of_cell? w _ hw101_2)).trans hw101_2), ((HB.out.cell (World.block_lt_of_cell? w _ hw102_0)).trans hw102_0), ((HB.out.cell (World.block_lt_of_cell? w _ hw102_1)).trans hw102_1), ((HB.out.cell (World.block_lt_of_cell? w _ hw102_2)).trans hw102_2)⟩ (fun hHeld => ?_)
        clear hK K
        refine norm_ (a' := ?_) ?_ ?_
        rotate_left
        ·show Act.put _ (some 25) _ = _
         simp only [Act.put, List.setIfInBounds_toArray, List.set_cons_zero, List.set_cons_succ, i64_w, i32_w]
         rfl
        refine plan_ ((0, 9, 26, 1023) :: []) ?_
        iterate 1 (first | (refine planV_ ?_ ?_ rfl rfl (any_of HT_.out (by kernel_rfl)) (fun _ _ _ h => h) (Or.inl ⟨by rfl, ?_⟩) ?_ ?_; rotate_left 2; (· intro w'; go_simp; with_reducible rfl); (· simp only [Act.put, List.setIfInBounds_toArray, List.set_cons_zero, List.set_cons_succ, i64_w, i32_w]; rfl)))
        refine planEnd_ ?_
        refine done_ (done_of HT_.out (by kernel_rfl)) ?_
        try go_wp2
        go_roundg k1
        case measure => have := HK1.out; omega
        case rel => exact ⟨(wrap64 (x5_1 + 1)), (by first | rfl | (simp; done) | (simp [*]; done)), H', ⟨by have := HK1.out; omega⟩, ⟨by repeat (first | (with_reducible first | exact HB.out | apply below_alloc | apply pw_below_drewN | apply below_drew1) | exact HB.out)⟩⟩
       ·replace c8 := Bool.eq_false_iff.mpr c8
        subst c8
        have H1 : (some false) = some r := by rw [if_neg (show ¬ (false = true) by decide)] at H; exact H
        clear H
        have H := H1
        clear H1
        obtain rfl := Option.some.inj H
        try go_wp2
        have n0_ := Aside0.mk (below_drew1 HB.out)
        clear HB
        have HB := n0_
        clear n0_
        have p101 : 0 ≤ (x5_1 : Int) := of_decide_eq_true (by first | (with_reducible assumption) | assumption)
        have q101 : x5_1 < (l0.length : Int) := of_decide_eq_true (by first | (with_reducible assumption) | assumption)
        obtain ⟨ad101, e101, hx101_0, hx101_1, hx101_2⟩ := at_T72 HR0.out x5_1 p101 q101
        have hw101_2 := hx101_2
        have hw101_1 := hx101_1
        have hw101_0 := hx101_0
        cases e101
        replace hx101_0 := (HB.out.cell (World.block_lt_of_cell? w _ hx101_0)).trans hx101_0
        replace hx101_1 := (HB.out.cell (World.block_lt_of_cell? w _ hx101_1)).trans hx101_1
        replace hx101_2 := (HB.out.cell (World.block_lt_of_cell? w _ hx101_2)).trans hx101_2
        replace p101 := eq_true p101
        replace q101 := eq_true q101
        have p102 : 0 ≤ (x5_1 : Int) := of_decide_eq_true (by first | (with_reducible assumption) | assumption)
        have q102 : x5_1 < (l1.length : Int) := of_decide_eq_true (by first | (with_reducible assumption) | assumption)
        obtain ⟨ad102, e102, hx102_0, hx102_1, hx102_2⟩ := at_T72 HR1.out x5_1 p102 q102
        have hw102_2 := hx102_2
        have hw102_1 := hx102_1
        have hw102_0 := hx102_0
        cases e102
        replace hx102_0 := (HB.out.cell (World.block_lt_of_cell? w _ hx102_0)).trans hx102_0
        replace hx102_1 := (HB.out.cell (World.block_lt_of_cell? w _ hx102_1)).trans hx102_1
        replace hx102_2 := (HB.out.cell (World.block_lt_of_cell? w _ hx102_2)).trans hx102_2
        replace p102 := eq_true p102
        replace q102 := eq_true q102
        refine start_ (n := 10) (S := fun w' => w'.cell? (ad101.add ((x5_1).toNat * 3)) = some (.int .i64 ((rd_T72 l0 x5_1).f0)) ∧ w'.cell? ⟨(ad101.add ((x5_1).toNat * 3)).block, (ad101.add ((x5_1).toNat * 3)).off + 1, none⟩ = some (.int .i64 ((rd_T72 l0 x5_1).f1)) ∧ w'.cell? ⟨(ad101.add ((x5_1).toNat * 3)).block, (ad101.add ((x5_1).toNat * 3)).off + 2, none⟩ = some (.int .i64 ((rd_T72 l0 x5_1).f2)) ∧ w'.cell? (ad102.add ((x5_1).toNat * 3)) = some (.int .i64 ((rd_T72 l1 x5_1).f0)) ∧ w'.cell? ⟨(ad102.add ((x5_1).toNat * 3)).block, (ad102.add ((x5_1).toNat * 3)).off + 1, none⟩ = some (.int .i64 ((rd_T72 l1 x5_1).f1)) ∧ w'.cell? ⟨(ad102.add ((x5_1).toNat * 3)).block, (ad102.add ((x5_1).toNat * 3)).off + 2, none⟩ = some (.int .i64 ((rd_T72 l1 x5_1).f2))) (ds := []) (bm 10 0) (by kernel_rfl) rfl rfl ⟨((HB.out.cell (World.block_lt_of_cell? w _ hw101_0)).trans hw101_0), ((HB.out.cell (World.block_lt_of_cell? w _ hw101_1)).trans hw101_1), ((HB.out.cell (World.block_lt_of_cell? w _ hw101_2)).trans hw101_2), ((HB.out.cell (World.block_lt_of_cell? w _ hw102_0)).trans hw102_0), ((HB.out.cell (World.block_lt_of_cell? w _ hw102_1)).trans hw102_1), ((HB.out.cell (World.block_lt_of_cell? w _ hw102_2)).trans hw102_2)⟩ (fun hHeld => ?_); refine with_tabW laws_eqTripleS.tab6 laws_eqTripleS.bits6 (fun HT_ HW_ => ?_)
        generalize wr.drew = w11 at HB hx101_0 hx101_1 hx101_2 hx102_0 hx102_1 hx102_2 hHeld ⊢
        refine plan_ ((0, 0, 17, 1) :: (0, 1, 18, 3) :: (0, 2, 19, 7) :: (0, 4, 21, 23) :: (0, 5, 22, 55) :: (0, 6, 23, 119) :: (2, 3, 20, 127) :: (2, 7, 24, 255) :: []) ?_
        iterate 8 (first | (refine planV_ ?_ ?_ rfl rfl (any_of HT_.out (by kernel_rfl)) (fun _ _ _ h => h) (Or.inl ⟨by rfl, ?_⟩) ?_ ?_; rotate_left 2; (· intro w'; go_simp; with_reducible rfl); (· simp only [Act.put, List.setIfInBounds_toArray, List.set_cons_zero, List.set_cons_succ, i64_w, i32_w]; rfl)) | (refine planT_ ?_ ?_ rfl rfl (take_ofW HT_.out HW_.out (by kernel_rfl)) (fun _ _ _ h => h) (Or.inl ⟨by rfl, ?_⟩) hHeld ?_ ?_; rotate_left 2; (· rintro w' ⟨s0, s1, s2, s3, s4, s5⟩; go_simp; with_reducible rfl); (· simp only [Act.put, List.setIfInBounds_toArray, List.set_cons_zero, List.set_cons_succ, i64_w, i32_w]; rfl)))
        refine planEnd_ ?_
        refine one_ (i := 8) (N := some 25) (bm 10 511) rfl rfl (one_of HT_.out (by kernel_rfl)) (by decide) (fun K hK => ?_)
        refine goes_ Try.func132 (by kernel_rfl) rfl #[.agg #[.int .i64 ((rd_T72 l0 x5_1).f0), .int .i64 ((rd_T72 l0 x5_1).f1), .int .i64 ((rd_T72 l0 x5_1).f2)], .agg #[.int .i64 ((rd_T72 l1 x5_1).f0), .int .i64 ((rd_T72 l1 x5_1).f1), .int .i64 ((rd_T72 l1 x5_1).f2)]] (by rfl) rfl rfl (by (try simp only [List.map_toArray, List.map_cons, List.map_nil]); first | done | rfl | (simp only [List.length_drop, List.length_take]; rfl)) ?_
        with_reducible refine (laws_eqTriple.calls ((rd_T72 l0 x5_1).f0) ((rd_T72 l0 x5_1).f1) ((rd_T72 l0 x5_1).f2) ((rd_T72 l1 x5_1).f0) ((rd_T72 l1 x5_1).f1) ((rd_T72 l1 x5_1).f2) false _ A7.out).mono ?_
        rintro e w12 ⟨rfl, hb⟩
        refine ⟨_, rfl, ?_⟩
        have n0_ := Aside0.mk (below_step (by repeat (first | (with_reducible first | exact HB.out | apply below_alloc | apply pw_below_drewN | apply below_drew1) | exact HB.out)) hb)
        clear HB
        have HB := n0_
        clear n0_
        (try clear hb)
        (try clear hb2)
        (try clear hk)
        (try clear hi)
        refine hK.out _ _ ⟨((HB.out.cell (World.block_lt_of_cell? w _ hw101_0)).trans hw101_0), ((HB.out.cell (World.block_lt_of_cell? w _ hw101_1)).trans hw101_1), ((HB.out.cell (World.block_lt_of_cell? w _ hw101_2)).trans hw101_2), ((HB.out.cell (World.block_lt_of_cell? w _ hw102_0)).trans hw102_0), ((HB.out.cell (World.block_lt_of_cell? w _ hw102_1)).trans hw102_1), ((HB.out.cell (World.block_lt_of_cell? w _ hw102_2)).trans hw102_2)⟩ (fun hHeld => ?_)
        clear hK K
        refine norm_ (a' := ?_) ?_ ?_
        rotate_left
        ·show Act.put _ (some 25) _ = _
         simp only [Act.put, List.setIfInBounds_toArray, List.set_cons_zero, List.set_cons_succ, i64_w, i32_w]
         rfl
        refine plan_ ((0, 9, 26, 1023) :: []) ?_
        iterate 1 (first | (refine planV_ ?_ ?_ rfl rfl (any_of HT_.out (by kernel_rfl)) (fun _ _ _ h => h) (Or.inl ⟨by rfl, ?_⟩) ?_ ?_; rotate_left 2; (· intro w'; go_simp; with_reducible rfl); (· simp only [Act.put, List.setIfInBounds_toArray, List.set_cons_zero, List.set_cons_succ, i64_w, i32_w]; rfl)))
        refine planEnd_ ?_
        refine done_ (done_of HT_.out (by kernel_rfl)) ?_
        try go_wp2
        go_ret
        exact ⟨by first | rfl | (simp [errW_none, errW_some] <;> rfl) | (simp [*, errW_none, errW_some] <;> rfl), by repeat (first | (with_reducible first | exact HB.out | apply below_alloc | apply pw_below_drewN | apply below_drew1) | exact HB.out)⟩
      ·rw [if_neg c6] at H
       exact absurd H (by simp)
     ·rw [if_neg c5] at H
      exact absurd H (by simp)
    ·rw [if_neg c4] at H
     have c4b0 : decide (x5_1 < (l0.length : Int)) = false := decide_eq_false c4
     clear c4
     obtain rfl := Option.some.inj H
     go_wp2
     go_ret
     exact ⟨by first | rfl | (simp [errW_none, errW_some] <;> rfl) | (simp [*, errW_none, errW_some] <;> rfl), by repeat (first | (with_reducible first | exact HB.out | apply below_alloc | apply pw_below_drewN | apply below_drew1) | exact HB.out)⟩
 ·rw [if_neg c3] at H
  have c3b0 : ((l0.length : Int) == (l1.length : Int)) = false := beq_eq_false_iff_ne.mpr c3
  have c3b1 : ((l0.length : Int) != (l1.length : Int)) = true := bne_iff_ne.mpr c3
  have c3b2 : (l0.length == l1.length) = false := by first | simpa using c3 | (simp at c3 ⊢; omega)
  obtain rfl := Option.some.inj H
  go_enter Try.func70, Try.ntmps70
  go_wp2
  go_ret
  exact ⟨by first | rfl | (simp [errW_none, errW_some] <;> rfl) | (simp [*, errW_none, errW_some] <;> rfl), by repeat (first | (with_reducible first | exact HB.out | apply below_alloc | apply pw_below_drewN | apply below_drew1) | exact HB.out)⟩

end Go.Proofs.Ytldcckcljjlglaa.P

namespace Go.Proofs.Ytldcckcljjlglaa.P
open Go.RowKit Go.Proofs.YtldcckcljjlglaaW.PrintWords Go.Proofs.YtldcckcljjlglaaW.PrintLast Go.Proofs.YtldcckcljjlglaaW.PrintMore
attribute [local go_sem] max2_int min2_int max_two min_two max_three min_three max_four min_four   -- for this text's walks alone
set_option linter.unusedVariables false
set_option linter.unusedSimpArgs false

/-! ### laws_markPointS: function 71 -/
def laws_markPointS.l0 : Nat → List (S80) → Int → Int → Option (Int × (List (S80)))
 | 0, _, _, _ => none
 | k + 1, x0, x1, x5 => if x5 < (x0.length : Int) then (if 0 ≤ x5 then ((some (x0.set (x5 : Int).toNat (⟨x1, (rd_T80 x0 x5).f1⟩ : S80) : List (S80))).bind fun y101 => (laws_markPointS.l0 k (y101.set (x5 : Int).toNat (⟨(rd_T80 y101 x5).f0, wrap64 (x1 + 1)⟩ : S80)) (wrap64 ((wrap64 (x1 + 1)) + 1)) (wrap64 (x5 + 1)))) else (none)) else (some (x1, x0))
def laws_markPointS.f (k : Nat) (l0 : List (S80)) (a1 : Int) : Option (Int × (List (S80))) := laws_markPointS.l0 k l0 a1 0
theorem laws_markPointS.mono_l : ∀ k, (∀ y0 y1 y2, LeO (laws_markPointS.l0 k y0 y1 y2) (laws_markPointS.l0 (k + 1) y0 y1 y2))
 | 0 => fun _ _ _ r h => by simp [laws_markPointS.l0] at h
 | k + 1 => by
  have ih0 := laws_markPointS.mono_l k
  ·intro y0 y1 y2
   unfold laws_markPointS.l0
   repeat' first
   | (with_reducible exact ih0 _ _ _)
   | (with_reducible exact LeO.refl _)
   | (with_reducible exact LeO.none _)
   | (with_reducible refine LeO.ite ?_ ?_)
   | (with_reducible refine LeO.bind ?_ (fun _ => ?_))
   | exact ih0 _ _ _
   | exact LeO.none _
   | refine LeO.ite ?_ ?_
   | refine LeO.bind ?_ (fun _ => ?_)
theorem laws_markPointS.mono : ∀ a0 a1 k, LeO (laws_markPointS.f k a0 a1) (laws_markPointS.f (k + 1) a0 a1) := by
 intro a0 a1 k
 have ih0 := laws_markPointS.mono_l k
 unfold laws_markPointS.f
 repeat' first
   | (with_reducible exact ih0 _ _ _)
   | (with_reducible exact LeO.refl _)
   | (with_reducible exact LeO.none _)
   | (with_reducible refine LeO.ite ?_ ?_)
   | (with_reducible refine LeO.bind ?_ (fun _ => ?_))
   | exact ih0 _ _ _
   | exact LeO.none _
   | refine LeO.ite ?_ ?_
   | refine LeO.bind ?_ (fun _ => ?_)
set_option maxHeartbeats 8000000 in
set_option maxRecDepth 100000 in
theorem laws_markPointS.calls (k : Nat) (P0_ : Nat → Prop) (u9000_ : Value) (l0 : List (S80)) (a1 : Int) (r1 : Int) (r2 : List (S80)) (w0 w : World) (hB : Below w0.heap.size w0 w) (ho0 : Kd.R k80 80 w w0.heap.size P0_ u9000_ l0) (h : laws_markPointS.f k l0 a1 = some (r1, r2)) :
  Calls Try.prog 71 #[u9000_, .int .i64 a1] w fun e w' => e = .returned (.int .i64 r1) ∧ Kd.R k80 80 w' w0.heap.size (fun k_ => (P0_ k_ ∨ w.heap.size ≤ k_)) u9000_ r2 ∧ Below w0.heap.size w0 w' ∧ Kept w w' (fun k_ => P0_ k_) := by
 have HO0 := Aside0.mk (show Kd.R k80 80 w w0.heap.size (fun k_ => (P0_ k_ ∨ w.heap.size ≤ k_)) u9000_ l0 from Kd.R_mono ho0 (fun k_ hk => (.inl hk)))
 have HK := Aside0.mk (Kept.refl w (fun k_ => P0_ k_))
 have HW0 := Aside0.mk hB.size
 have HB := Aside0.mk hB
 clear hB
 have H : (laws_markPointS.l0 k l0 a1 0) = some (r1, r2) := h
 clear h
 have H' := Aside0.mk H
 clear H
 go_enter Try.func71, Try.ntmps71
 go_wp2
 go_loopg [1, 5] k (fun kq v1 v5 w' => ∃ (x0_1 : List (S80)) (x1_1 : Int) (x5_1 : Int), v1 = .int .i64 x1_1 ∧ v5 = .int .i64 x5_1 ∧ Aside0 (laws_markPointS.l0 kq x0_1 x1_1 x5_1 = some (r1, r2)) ∧ Aside0 (kq ≤ k) ∧ Aside0 (Kd.R k80 80 w' w0.heap.size (fun k_ => (P0_ k_ ∨ w.heap.size ≤ k_)) u9000_ x0_1) ∧ Aside0 (Kept w w' (fun k_ => P0_ k_)) ∧ Aside0 (Below w0.heap.size w0 w'))
 case atStart => exact ⟨(l0), (a1), (0), (by first | rfl | (simp; done) | (simp [*]; done)), (by first | rfl | (simp; done) | (simp [*]; done)), H', ⟨Nat.le_refl _⟩, ⟨by (with_reducible repeat (first | apply Kd.R_alloc | apply Kd.R_drewN | apply Kd.R_drew)); exact HO0.out⟩, ⟨by repeat (first | (with_reducible first | exact HK.out | apply Kept.alloc | apply Kept.drewN | apply Kept.drew) | exact HK.out)⟩, ⟨by repeat (first | (with_reducible first | exact HB.out | apply below_alloc | apply pw_below_drewN | apply below_drew1) | exact HB.out)⟩⟩
 case round =>
  clear H'
  try clear p2
  obtain ⟨x0_1, x1_1, x5_1, rfl, rfl, HA, HK1, HO_0, HK, HB⟩ := hrel
  cases gk with
  | zero => exact absurd HA.out (by simp [laws_markPointS.l0])
  | succ k1 =>
   have H := HA.out
   clear HA
   simp only [laws_markPointS.l0] at H
   by_cases c3 : x5_1 < (x0_1.length : Int)
   ·rw [if_pos c3] at H
    have c3b0 : decide (x5_1 < (x0_1.length : Int)) = true := decide_eq_true c3
    clear c3
    by_cases c4 : 0 ≤ x5_1
    ·rw [if_pos c4] at H
     have c4b0 : decide (0 ≤ x5_1) = true := decide_eq_true c4
     clear c4
     obtain ⟨y101, hy101⟩ : ∃ y_ : List (S80), y_ = (x0_1.set (x5_1 : Int).toNat (⟨x1_1, (rd_T80 x0_1 x5_1).f1⟩ : S80)) := ⟨_, rfl⟩
     replace H : (laws_markPointS.l0 k1 (y101.set (x5_1 : Int).toNat (⟨(rd_T80 y101 x5_1).f0, wrap64 (x1_1 + 1)⟩ : S80)) (wrap64 ((wrap64 (x1_1 + 1)) + 1)) (wrap64 (x5_1 + 1))) = some (r1, r2) := by first | (rw [hy101]; with_reducible exact H) | (have H2_ := (Option.bind_some _ _).symm.trans H; rw [hy101]; with_reducible exact H2_) | (have H2_ := (Option.bind_some _ _).symm.trans H; with_reducible exact H2_) | with_reducible exact H | (rw [hy101]; exact H) | exact H
     have Ny101 := Aside0.mk hy101
     clear hy101
     obtain ⟨y102, hy102⟩ : ∃ y_ : List (S80), y_ = (y101.set (x5_1 : Int).toNat (⟨(rd_T80 y101 x5_1).f0, wrap64 (x1_1 + 1)⟩ : S80)) := ⟨_, rfl⟩
     replace H : (laws_markPointS.l0 k1 y102 (wrap64 ((wrap64 (x1_1 + 1)) + 1)) (wrap64 (x5_1 + 1))) = some (r1, r2) := by first | (rw [hy102]; with_reducible exact H) | (have H2_ := (Option.bind_some _ _).symm.trans H; rw [hy102]; with_reducible exact H2_) | (have H2_ := (Option.bind_some _ _).symm.trans H; with_reducible exact H2_) | with_reducible exact H | (rw [hy102]; exact H) | exact H
     have Ny102 := Aside0.mk hy102
     clear hy102
     have H' := Aside0.mk H
     clear H
     obtain ⟨Ao7, co7, eo7⟩ := Kd.R_slice HO_0.out
     subst eo7
     have p5 : 0 ≤ (x5_1 : Int) := of_decide_eq_true (by first | (with_reducible assumption) | assumption)
     have q5 : (x5_1 : Int) < ((x0_1.length : Int) : Int) := of_decide_eq_true (by first | (with_reducible assumption) | assumption)
     obtain ⟨go5, co5, eo5, gb5, gl5, cl5, HG5⟩ := Kd.R_form HO_0.out (by omega)
     (first | cases eo5 | (injection eo5 with ea_ en_ ec_; (first | subst ea_ | (injection ea_ with ea_; subst ea_)); subst ec_; clear en_))
     have GB5 := Aside0.mk gb5
     have GG5 := Aside0.mk HG5
     clear gb5 gl5 HG5
     have HMgo5 := Aside0.mk (show (P0_ go5 ∨ w.heap.size ≤ go5) from (HO_0.out.1 _ rfl))
     obtain ⟨ce5, hcl5, hM5, hcc5, hfr5⟩ := Kd.R_elem HO_0.out z80 (x5_1 : Int) p5 q5
     obtain rfl := k80_openM hM5
     have hx5_0 : wr.cell? ⟨go5, (x5_1 : Int).toNat * 2, none⟩ = some (.int .i64 ((rd_T80 x0_1 x5_1).f0)) := hcc5 0 _ rfl
     have hx5_1 : wr.cell? ⟨go5, (x5_1 : Int).toNat * 2 + 1, none⟩ = some (.int .i64 ((rd_T80 x0_1 x5_1).f1)) := hcc5 1 _ rfl
     have hf5_0 : wr.frozen? ⟨go5, (x5_1 : Int).toNat * 2, none⟩ = false := hfr5 0
     have hf5_1 : wr.frozen? ⟨go5, (x5_1 : Int).toNat * 2 + 1, none⟩ = false := hfr5 1
     clear hcl5 hcc5 hfr5 hM5
     replace p5 := eq_true p5
     replace q5 := eq_true q5
     have HX8 := Aside0.mk (show Kd.R k80 80 wr w0.heap.size (fun k_ => (P0_ k_ ∨ w.heap.size ≤ k_)) (.slice (some ⟨go5, 0, none⟩) x0_1.length co7) x0_1 from (by (with_reducible repeat (first | apply Kd.R_alloc | apply Kd.R_drewN | apply Kd.R_drew)); exact HO_0.out))
     obtain ⟨ce8, hcl8, hM8, hcc8, hfr8⟩ := Kd.R_elem HX8.out z80 (x5_1 : Int) (of_decide_eq_true (by first | (with_reducible assumption) | assumption)) (by have h_ : (x5_1 : Int) < ((x0_1.length : Int) : Int) := of_decide_eq_true (by first | (with_reducible assumption) | assumption); first | exact h_ | (have e_ := (Kd.R_reads' HO_0.out).1; omega) | simpa using h_)
     obtain rfl := k80_openM hM8
     have HP8 := Kd.R_seg HX8.out (x5_1 : Int) (of_decide_eq_true (by first | (with_reducible assumption) | assumption)) (by have h_ : (x5_1 : Int) < ((x0_1.length : Int) : Int) := of_decide_eq_true (by first | (with_reducible assumption) | assumption); first | exact h_ | (have e_ := (Kd.R_reads' HO_0.out).1; omega) | simpa using h_) (seg := [.int .i64 x1_1]) (j := 0) hcl8 hcc8 (show 1 ≤ 2 from by decide) (x' := (⟨x1_1, (rd_T80 x0_1 x5_1).f1⟩ : S80)) (k80_mkM _ _ _ (⟨x1_1, (rd_T80 x0_1 x5_1).f1⟩ : S80) ) (fun _ hk => hk)
     have hx8_0 := hcc8 0 _ rfl
     (try simp only [show (k80).sz = 2 from rfl, Nat.mul_one, Nat.add_zero] at hx8_0)
     have hf8_0 := hfr8 0
     (try simp only [show (k80).sz = 2 from rfl, Nat.mul_one, Nat.add_zero] at hf8_0)
     clear hcl8 hcc8 hfr8 hM8
     go_wp2_with (first | ((with_reducible refine gate_store (t := 3) (p := 16) rfl ?_); refine store_event (t := 3) (p := 16) (v := ?vo_w9) (w1 := (wr.setCell ⟨go5, (x5_1 : Int).toNat * 2, none⟩ (.int .i64 x1_1))) ?hg ?ho ?hn ?hr ?_; (case ho => rfl); (case hg => rfl); (case hn => rfl); (case hr => first | (go_simp; done) | (go_simp; rfl)); intro w9 hw; have hg : wr.grownBy w9 (some go5) := (by rw [hw]; exact HP8.2); have hp_ : Kd.R k80 80 w9 w0.heap.size (fun k_ => (P0_ k_ ∨ w.heap.size ≤ k_)) (.slice (some ⟨go5, 0, none⟩) x0_1.length co7) y101 := (by rw [hw, Ny101.out]; exact HP8.1); clear HP8; have n0_ := Aside0.mk (hp_); have n1_ := Aside0.mk ((by rw [hw]; exact below_set (HB.out) GB5.out : Below w0.heap.size w0 w9)); have n2_ := Aside0.mk (Kept.of_grown (S := (fun k_ => P0_ k_)) hg (by repeat (first | (with_reducible first | exact HK.out | apply Kept.alloc | apply Kept.drewN | apply Kept.drew) | exact HK.out)) (fun k_ e_ => (HO_0.out.1 k_ e_))); clear HO_0; clear HB; clear HK; have HO_0 := n0_; have HB := n1_; have HK := n2_; clear n0_ n1_ n2_; clear hg hw hp_; have p6 : 0 ≤ (x5_1 : Int) := of_decide_eq_true (by first | (with_reducible assumption) | assumption); have q6 : (x5_1 : Int) < ((x0_1.length : Int) : Int) := of_decide_eq_true (by first | (with_reducible assumption) | assumption); obtain ⟨ce6, hcl6, hM6, hcc6, hfr6⟩ := Kd.R_elem HO_0.out z80 (x5_1 : Int) p6 q6; obtain rfl := k80_openM hM6; have hx6_0 : w9.cell? ⟨go5, (x5_1 : Int).toNat * 2, none⟩ = some (.int .i64 ((rd_T80 y101 x5_1).f0)) := hcc6 0 _ rfl; have hx6_1 : w9.cell? ⟨go5, (x5_1 : Int).toNat * 2 + 1, none⟩ = some (.int .i64 ((rd_T80 y101 x5_1).f1)) := hcc6 1 _ rfl; have hf6_0 : w9.frozen? ⟨go5, (x5_1 : Int).toNat * 2, none⟩ = false := hfr6 0; have hf6_1 : w9.frozen? ⟨go5, (x5_1 : Int).toNat * 2 + 1, none⟩ = false := hfr6 1; clear hcl6 hcc6 hfr6 hM6; replace p6 := eq_true p6; replace q6 := eq_true q6; have HX10 := Aside0.mk (show Kd.R k80 80 w9 w0.heap.size (fun k_ => (P0_ k_ ∨ w.heap.size ≤ k_)) (.slice (some ⟨go5, 0, none⟩) x0_1.length co7) y101 from (by (with_reducible repeat (first | apply Kd.R_alloc | apply Kd.R_drewN | apply Kd.R_drew)); exact HO_0.out)); obtain ⟨ce10, hcl10, hM10, hcc10, hfr10⟩ := Kd.R_elem HX10.out z80 (x5_1 : Int) (of_decide_eq_true (by first | (with_reducible assumption) | assumption)) (by have h_ : (x5_1 : Int) < ((x0_1.length : Int) : Int) := of_decide_eq_true (by first | (with_reducible assumption) | assumption); first | exact h_ | (have e_ := (Kd.R_reads' HO_0.out).1; omega) | simpa using h_); obtain rfl := k80_openM hM10; have HP10 := Kd.R_seg HX10.out (x5_1 : Int) (of_decide_eq_true (by first | (with_reducible assumption) | assumption)) (by have h_ : (x5_1 : Int) < ((x0_1.length : Int) : Int) := of_decide_eq_true (by first | (with_reducible assumption) | assumption); first | exact h_ | (have e_ := (Kd.R_reads' HO_0.out).1; omega) | simpa using h_) (seg := [.int .i64 (wrap64 (x1_1 + 1))]) (j := 1) hcl10 hcc10 (show 2 ≤ 2 from by decide) (x' := (⟨(rd_T80 y101 x5_1).f0, wrap64 (x1_1 + 1)⟩ : S80)) (k80_mkM _ _ _ (⟨(rd_T80 y101 x5_1).f0, wrap64 (x1_1 + 1)⟩ : S80) ) (fun _ hk => hk); have hx10_1 := hcc10 1 _ rfl; (try simp only [show (k80).sz = 2 from rfl, Nat.mul_one, Nat.add_zero] at hx10_1); have hf10_1 := hfr10 1; (try simp only [show (k80).sz = 2 from rfl, Nat.mul_one, Nat.add_zero] at hf10_1); clear hcl10 hcc10 hfr10 hM10) | ((with_reducible refine gate_store (t := 3) (p := 23) rfl ?_); refine store_event (t := 3) (p := 23) (v := ?vo_w11) (w1 := (w9.setCell ⟨go5, (x5_1 : Int).toNat * 2 + 1, none⟩ (.int .i64 (wrap64 (x1_1 + 1))))) ?hg ?ho ?hn ?hr ?_; (case ho => rfl); (case hg => rfl); (case hn => rfl); (case hr => first | (go_simp; done) | (go_simp; rfl)); intro w11 hw; have hg : w9.grownBy w11 (some go5) := (by rw [hw]; exact HP10.2); have hp_ : Kd.R k80 80 w11 w0.heap.size (fun k_ => (P0_ k_ ∨ w.heap.size ≤ k_)) (.slice (some ⟨go5, 0, none⟩) x0_1.length co7) y102 := (by rw [hw, Ny102.out]; exact HP10.1); clear HP10; have n0_ := Aside0.mk (hp_); have n1_ := Aside0.mk ((by rw [hw]; exact below_set (HB.out) GB5.out : Below w0.heap.size w0 w11)); have n2_ := Aside0.mk (Kept.of_grown (S := (fun k_ => P0_ k_)) hg (by repeat (first | (with_reducible first | exact HK.out | apply Kept.alloc | apply Kept.drewN | apply Kept.drew) | exact HK.out)) (fun k_ e_ => (HO_0.out.1 k_ e_))); clear HO_0; clear HB; clear HK; have HO_0 := n0_; have HB := n1_; have HK := n2_; clear n0_ n1_ n2_; clear hg hw hp_))
     go_roundg k1
     case measure => have := HK1.out; omega
     case rel => exact ⟨(y102), (wrap64 ((wrap64 (x1_1 + 1)) + 1)), (wrap64 (x5_1 + 1)), (by first | rfl | (simp; done) | (simp [*]; done)), (by first | rfl | (simp; done) | (simp [*]; done)), H', ⟨by have := HK1.out; omega⟩, ⟨by (with_reducible repeat (first | apply Kd.R_alloc | apply Kd.R_drewN | apply Kd.R_drew)); exact HO_0.out⟩, ⟨by repeat (first | (with_reducible first | exact HK.out | apply Kept.alloc | apply Kept.drewN | apply Kept.drew) | exact HK.out)⟩, ⟨by repeat (first | (with_reducible first | exact HB.out | apply below_alloc | apply pw_below_drewN | apply below_drew1) | exact HB.out)⟩⟩
    ·rw [if_neg c4] at H
     exact absurd H (by simp)
   ·rw [if_neg c3] at H
    have c3b0 : decide (x5_1 < (x0_1.length : Int)) = false := decide_eq_false c3
    clear c3
    simp only [Option.some.injEq, Prod.mk.injEq] at H
    obtain ⟨rfl, rfl⟩ := H
    obtain ⟨Ao12, co12, eo12⟩ := Kd.R_slice HO_0.out
    subst eo12
    go_wp2
    go_ret
    exact ⟨by first | rfl | (simp [errW_none, errW_some] <;> rfl) | (simp [*, errW_none, errW_some] <;> rfl), by (with_reducible repeat (first | apply Kd.R_alloc | apply Kd.R_drewN | apply Kd.R_drew)); exact HO_0.out, by repeat (first | (with_reducible first | exact HB.out | apply below_alloc | apply pw_below_drewN | apply below_drew1) | exact HB.out), by repeat (first | (with_reducible first | exact HK.out | apply Kept.alloc | apply Kept.drewN | apply Kept.drew) | exact HK.out)⟩

end Go.Proofs.Ytldcckcljjlglaa.P

namespace Go.Proofs.Ytldcckcljjlglaa.P
open Go.RowKit Go.Proofs.YtldcckcljjlglaaW.PrintWords Go.Proofs.YtldcckcljjlglaaW.PrintLast Go.Proofs.YtldcckcljjlglaaW.PrintMore
attribute [local go_sem] max2_int min2_int max_two min_two max_three min_three max_four min_four   -- for this text's walks alone
set_option linter.unusedVariables false
set_option linter.unusedSimpArgs false

/-! ### laws_markTripleS: function 72 -/
def laws_markTripleS.l0 : Nat → List (S72) → Int → Int → Option (Int × (List (S72)))
 | 0, _, _, _ => none
 | k + 1, x0, x1, x5 => if x5 < (x0.length : Int) then (if 0 ≤ x5 then ((some (x0.set (x5 : Int).toNat (⟨x1, (rd_T72 x0 x5).f1, (rd_T72 x0 x5).f2⟩ : S72) : List (S72))).bind fun y101 => ((some (y101.set (x5 : Int).toNat (⟨(rd_T72 y101 x5).f0, wrap64 (x1 + 1), (rd_T72 y101 x5).f2⟩ : S72) : List (S72))).bind fun y102 => (laws_markTripleS.l0 k (y102.set (x5 : Int).toNat (⟨(rd_T72 y102 x5).f0, (rd_T72 y102 x5).f1, wrap64 ((wrap64 (x1 + 1)) + 1)⟩ : S72)) (wrap64 ((wrap64 ((wrap64 (x1 + 1)) + 1)) + 1)) (wrap64 (x5 + 1))))) else (none)) else (some (x1, x0))
def laws_markTripleS.f (k : Nat) (l0 : List (S72)) (a1 : Int) : Option (Int × (List (S72))) := laws_markTripleS.l0 k l0 a1 0
theorem laws_markTripleS.mono_l : ∀ k, (∀ y0 y1 y2, LeO (laws_markTripleS.l0 k y0 y1 y2) (laws_markTripleS.l0 (k + 1) y0 y1 y2))
 | 0 => fun _ _ _ r h => by simp [laws_markTripleS.l0] at h
 | k + 1 => by
  have ih0 := laws_markTripleS.mono_l k
  ·intro y0 y1 y2
   unfold laws_markTripleS.l0
   repeat' first
   | (with_reducible exact ih0 _ _ _)
   | (with_reducible exact LeO.refl _)
   | (with_reducible exact LeO.none _)
   | (with_reducible refine LeO.ite ?_ ?_)
   | (with_reducible refine LeO.bind ?_ (fun _ => ?_))
   | exact ih0 _ _ _
   | exact LeO.none _
   | refine LeO.ite ?_ ?_
   | refine LeO.bind ?_ (fun _ => ?_)
theorem laws_markTripleS.mono : ∀ a0 a1 k, LeO (laws_markTripleS.f k a0 a1) (laws_markTripleS.f (k + 1) a0 a1) := by
 intro a0 a1 k
 have ih0 := laws_markTripleS.mono_l k
 unfold laws_markTripleS.f
 repeat' first
   | (with_reducible exact ih0 _ _ _)
   | (with_reducible exact LeO.refl _)
   | (with_reducible exact LeO.none _)
   | (with_reducible refine LeO.ite ?_ ?_)
   | (with_reducible refine LeO.bind ?_ (fun _ => ?_))
   | exact ih0 _ _ _
   | exact LeO.none _
   | refine LeO.ite ?_ ?_
   | refine LeO.bind ?_ (fun _ => ?_)
set_option maxHeartbeats 8000000 in
set_option maxRecDepth 100000 in
theorem laws_markTripleS.calls (k : Nat) (P0_ : Nat → Prop) (u9000_ : Value) (l0 : List (S72)) (a1 : Int) (r1 : Int) (r2 : List (S72)) (w0 w : World) (hB : Below w0.heap.size w0 w) (ho0 : Kd.R k72 72 w w0.heap.size P0_ u9000_ l0) (h : laws_markTripleS.f k l0 a1 = some (r1, r2)) :
  Calls Try.prog 72 #[u9000_, .int .i64 a1] w fun e w' => e = .returned (.int .i64 r1) ∧ Kd.R k72 72 w' w0.heap.size (fun k_ => (P0_ k_ ∨ w.heap.size ≤ k_)) u9000_ r2 ∧ Below w0.heap.size w0 w' ∧ Kept w w' (fun k_ => P0_ k_) := by
 have HO0 := Aside0.mk (show Kd.R k72 72 w w0.heap.size (fun k_ => (P0_ k_ ∨ w.heap.size ≤ k_)) u9000_ l0 from Kd.R_mono ho0 (fun k_ hk => (.inl hk)))
 have HK := Aside0.mk (Kept.refl w (fun k_ => P0_ k_))
 have HW0 := Aside0.mk hB.size
 have HB := Aside0.mk hB
 clear hB
 have H : (laws_markTripleS.l0 k l0 a1 0) = some (r1, r2) := h
 clear h
 have H' := Aside0.mk H
 clear H
 go_enter Try.func72, Try.ntmps72
 go_wp2
 go_loopg [1, 5] k (fun kq v1 v5 w' => ∃ (x0_1 : List (S72)) (x1_1 : Int) (x5_1 : Int), v1 = .int .i64 x1_1 ∧ v5 = .int .i64 x5_1 ∧ Aside0 (laws_markTripleS.l0 kq x0_1 x1_1 x5_1 = some (r1, r2)) ∧ Aside0 (kq ≤ k) ∧ Aside0 (Kd.R k72 72 w' w0.heap.size (fun k_ => (P0_ k_ ∨ w.heap.size ≤ k_)) u9000_ x0_1) ∧ Aside0 (Kept w w' (fun k_ => P0_ k_)) ∧ Aside0 (Below w0.heap.size w0 w'))
 case atStart => exact ⟨(l0), (a1), (0), (by first | rfl | (simp; done) | (simp [*]; done)), (by first | rfl | (simp; done) | (simp [*]; done)), H', ⟨Nat.le_refl _⟩, ⟨by (with_reducible repeat (first | apply Kd.R_alloc | apply Kd.R_drewN | apply Kd.R_drew)); exact HO0.out⟩, ⟨by repeat (first | (with_reducible first | exact HK.out | apply Kept.alloc | apply Kept.drewN | apply Kept.drew) | exact HK.out)⟩, ⟨by repeat (first | (with_reducible first | exact HB.out | apply below_alloc | apply pw_below_drewN | apply below_drew1) | exact HB.out)⟩⟩
 case round =>
  clear H'
  try clear p2
  obtain ⟨x0_1, x1_1, x5_1, rfl, rfl, HA, HK1, HO_0, HK, HB⟩ := hrel
  cases gk with
  | zero => exact absurd HA.out (by simp [laws_markTripleS.l0])
  | succ k1 =>
   have H := HA.out
   clear HA
   simp only [laws_markTripleS.l0] at H
   by_cases c3 : x5_1 < (x0_1.length : Int)
   ·rw [if_pos c3] at H
    have c3b0 : decide (x5_1 < (x0_1.length : Int)) = true := decide_eq_true c3
    clear c3
    by_cases c4 : 0 ≤ x5_1
    ·rw [if_pos c4] at H
     have c4b0 : decide (0 ≤ x5_1) = true := decide_eq_true c4
     clear c4
     obtain ⟨y101, hy101⟩ : ∃ y_ : List (S72), y_ = (x0_1.set (x5_1 : Int).toNat (⟨x1_1, (rd_T72 x0_1 x5_1).f1, (rd_T72 x0_1 x5_1).f2⟩ : S72)) := ⟨_, rfl⟩
     replace H : ((some (y101.set (x5_1 : Int).toNat (⟨(rd_T72 y101 x5_1).f0, wrap64 (x1_1 + 1), (rd_T72 y101 x5_1).f2⟩ : S72) : List (S72))).bind fun y102 => (laws_markTripleS.l0 k1 (y102.set (x5_1 : Int).toNat (⟨(rd_T72 y102 x5_1).f0, (rd_T72 y102 x5_1).f1, wrap64 ((wrap64 (x1_1 + 1)) + 1)⟩ : S72)) (wrap64 ((wrap64 ((wrap64 (x1_1 + 1)) + 1)) + 1)) (wrap64 (x5_1 + 1)))) = some (r1, r2) := by first | (rw [hy101]; with_reducible exact H) | (have H2_ := (Option.bind_some _ _).symm.trans H; rw [hy101]; with_reducible exact H2_) | (have H2_ := (Option.bind_some _ _).symm.trans H; with_reducible exact H2_) | with_reducible exact H | (rw [hy101]; exact H) | exact H
     have Ny101 := Aside0.mk hy101
     clear hy101
     obtain ⟨y102, hy102⟩ : ∃ y_ : List (S72), y_ = (y101.set (x5_1 : Int).toNat (⟨(rd_T72 y101 x5_1).f0, wrap64 (x1_1 + 1), (rd_T72 y101 x5_1).f2⟩ : S72)) := ⟨_, rfl⟩
     replace H : (laws_markTripleS.l0 k1 (y102.set (x5_1 : Int).toNat (⟨(rd_T72 y102 x5_1).f0, (rd_T72 y102 x5_1).f1, wrap64 ((wrap64 (x1_1 + 1)) + 1)⟩ : S72)) (wrap64 ((wrap64 ((wrap64 (x1_1 + 1)) + 1)) + 1)) (wrap64 (x5_1 + 1))) = some (r1, r2) := by first | (rw [hy102]; with_reducible exact H) | (have H2_ := (Option.bind_some _ _).symm.trans H; rw [hy102]; with_reducible exact H2_) | (have H2_ := (Option.bind_some _ _).symm.trans H; with_reducible exact H2_) | with_reducible exact H | (rw [hy102]; exact H) | exact H
     have Ny102 := Aside0.mk hy102
     clear hy102
     obtain ⟨y103, hy103⟩ : ∃ y_ : List (S72), y_ = (y102.set (x5_1 : Int).toNat (⟨(rd_T72 y102 x5_1).f0, (rd_T72 y102 x5_1).f1, wrap64 ((wrap64 (x1_1 + 1)) + 1)⟩ : S72)) := ⟨_, rfl⟩
     replace H : (laws_markTripleS.l0 k1 y103 (wrap64 ((wrap64 ((wrap64 (x1_1 + 1)) + 1)) + 1)) (wrap64 (x5_1 + 1))) = some (r1, r2) := by first | (rw [hy103]; with_reducible exact H) | (have H2_ := (Option.bind_some _ _).symm.trans H; rw [hy103]; with_reducible exact H2_) | (have H2_ := (Option.bind_some _ _).symm.trans H; with_reducible exact H2_) | with_reducible exact H | (rw [hy103]; exact H) | exact H
     have Ny103 := Aside0.mk hy103
     clear hy103
     have H' := Aside0.mk H
     clear H
     obtain ⟨Ao8, co8, eo8⟩ := Kd.R_slice HO_0.out
     subst eo8
     have p5 : 0 ≤ (x5_1 : Int) := of_decide_eq_true (by first | (with_reducible assumption) | assumption)
     have q5 : (x5_1 : Int) < ((x0_1.length : Int) : Int) := of_decide_eq_true (by first | (with_reducible assumption) | assumption)
     obtain ⟨go5, co5, eo5, gb5, gl5, cl5, HG5⟩ := Kd.R_form HO_0.out (by omega)
     (first | cases eo5 | (injection eo5 with ea_ en_ ec_; (first | subst ea_ | (injection ea_ with ea_; subst ea_)); subst ec_; clear en_))
     have GB5 := Aside0.mk gb5
     have GG5 := Aside0.mk HG5
     clear gb5 gl5 HG5
     have HMgo5 := Aside0.mk (show (P0_ go5 ∨ w.heap.size ≤ go5) from (HO_0.out.1 _ rfl))
     obtain ⟨ce5, hcl5, hM5, hcc5, hfr5⟩ := Kd.R_elem HO_0.out z72 (x5_1 : Int) p5 q5
     obtain rfl := k72_openM hM5
     have hx5_0 : wr.cell? ⟨go5, (x5_1 : Int).toNat * 3, none⟩ = some (.int .i64 ((rd_T72 x0_1 x5_1).f0)) := hcc5 0 _ rfl
     have hx5_1 : wr.cell? ⟨go5, (x5_1 : Int).toNat * 3 + 1, none⟩ = some (.int .i64 ((rd_T72 x0_1 x5_1).f1)) := hcc5 1 _ rfl
     have hx5_2 : wr.cell? ⟨go5, (x5_1 : Int).toNat * 3 + 2, none⟩ = some (.int .i64 ((rd_T72 x0_1 x5_1).f2)) := hcc5 2 _ rfl
     have hf5_0 : wr.frozen? ⟨go5, (x5_1 : Int).toNat * 3, none⟩ = false := hfr5 0
     have hf5_1 : wr.frozen? ⟨go5, (x5_1 : Int).toNat * 3 + 1, none⟩ = false := hfr5 1
     have hf5_2 : wr.frozen? ⟨go5, (x5_1 : Int).toNat * 3 + 2, none⟩ = false := hfr5 2
     clear hcl5 hcc5 hfr5 hM5
     replace p5 := eq_true p5
     replace q5 := eq_true q5
     have HX9 := Aside0.mk (show Kd.R k72 72 wr w0.heap.size (fun k_ => (P0_ k_ ∨ w.heap.size ≤ k_)) (.slice (some ⟨go5, 0, none⟩) x0_1.length co8) x0_1 from (by (with_reducible repeat (first | apply Kd.R_alloc | apply Kd.R_drewN | apply Kd.R_drew)); exact HO_0.out))
     obtain ⟨ce9, hcl9, hM9, hcc9, hfr9⟩ := Kd.R_elem HX9.out z72 (x5_1 : Int) (of_decide_eq_true (by first | (with_reducible assumption) | assumption)) (by have h_ : (x5_1 : Int) < ((x0_1.length : Int) : Int) := of_decide_eq_true (by first | (with_reducible assumption) | assumption); first | exact h_ | (have e_ := (Kd.R_reads' HO_0.out).1; omega) | simpa using h_)
     obtain rfl := k72_openM hM9
     have HP9 := Kd.R_seg HX9.out (x5_1 : Int) (of_decide_eq_true (by first | (with_reducible assumption) | assumption)) (by have h_ : (x5_1 : Int) < ((x0_1.length : Int) : Int) := of_decide_eq_true (by first | (with_reducible assumption) | assumption); first | exact h_ | (have e_ := (Kd.R_reads' HO_0.out).1; omega) | simpa using h_) (seg := [.int .i64 x1_1]) (j := 0) hcl9 hcc9 (show 1 ≤ 3 from by decide) (x' := (⟨x1_1, (rd_T72 x0_1 x5_1).f1, (rd_T72 x0_1 x5_1).f2⟩ : S72)) (k72_mkM _ _ _ (⟨x1_1, (rd_T72 x0_1 x5_1).f1, (rd_T72 x0_1 x5_1).f2⟩ : S72) ) (fun _ hk => hk)
     have hx9_0 := hcc9 0 _ rfl
     (try simp only [show (k72).sz = 3 from rfl, Nat.mul_one, Nat.add_zero] at hx9_0)
     have hf9_0 := hfr9 0
     (try simp only [show (k72).sz = 3 from rfl, Nat.mul_one, Nat.add_zero] at hf9_0)
     clear hcl9 hcc9 hfr9 hM9
     go_wp2_with (first | ((with_reducible refine gate_store (t := 3) (p := 16) rfl ?_); refine store_event (t := 3) (p := 16) (v := ?vo_w10) (w1 := (wr.setCell ⟨go5, (x5_1 : Int).toNat * 3, none⟩ (.int .i64 x1_1))) ?hg ?ho ?hn ?hr ?_; (case ho => rfl); (case hg => rfl); (case hn => rfl); (case hr => first | (go_simp; done) | (go_simp; rfl)); intro w10 hw; have hg : wr.grownBy w10 (some go5) := (by rw [hw]; exact HP9.2); have hp_ : Kd.R k72 72 w10 w0.heap.size (fun k_ => (P0_ k_ ∨ w.heap.size ≤ k_)) (.slice (some ⟨go5, 0, none⟩) x0_1.length co8) y101 := (by rw [hw, Ny101.out]; exact HP9.1); clear HP9; have n0_ := Aside0.mk (hp_); have n1_ := Aside0.mk ((by rw [hw]; exact below_set (HB.out) GB5.out : Below w0.heap.size w0 w10)); have n2_ := Aside0.mk (Kept.of_grown (S := (fun k_ => P0_ k_)) hg (by repeat (first | (with_reducible first | exact HK.out | apply Kept.alloc | apply Kept.drewN | apply Kept.drew) | exact HK.out)) (fun k_ e_ => (HO_0.out.1 k_ e_))); clear HO_0; clear HB; clear HK; have HO_0 := n0_; have HB := n1_; have HK := n2_; clear n0_ n1_ n2_; clear hg hw hp_; have p6 : 0 ≤ (x5_1 : Int) := of_decide_eq_true (by first | (with_reducible assumption) | assumption); have q6 : (x5_1 : Int) < ((x0_1.length : Int) : Int) := of_decide_eq_true (by first | (with_reducible assumption) | assumption); obtain ⟨ce6, hcl6, hM6, hcc6, hfr6⟩ := Kd.R_elem HO_0.out z72 (x5_1 : Int) p6 q6; obtain rfl := k72_openM hM6; have hx6_0 : w10.cell? ⟨go5, (x5_1 : Int).toNat * 3, none⟩ = some (.int .i64 ((rd_T72 y101 x5_1).f0)) := hcc6 0 _ rfl; have hx6_1 : w10.cell? ⟨go5, (x5_1 : Int).toNat * 3 + 1, none⟩ = some (.int .i64 ((rd_T72 y101 x5_1).f1)) := hcc6 1 _ rfl; have hx6_2 : w10.cell? ⟨go5, (x5_1 : Int).toNat * 3 + 2, none⟩ = some (.int .i64 ((rd_T72 y101 x5_1).f2)) := hcc6 2 _ rfl; have hf6_0 : w10.frozen? ⟨go5, (x5_1 : Int).toNat * 3, none⟩ = false := hfr6 0; have hf6_1 : w10.frozen? ⟨go5, (x5_1 : Int).toNat * 3 + 1, none⟩ = false := hfr6 1; have hf6_2 : w10.frozen? ⟨go5, (x5_1 : Int).toNat * 3 + 2, none⟩ = false := hfr6 2; clear hcl6 hcc6 hfr6 hM6; replace p6 := eq_true p6; replace q6 := eq_true q6; have HX11 := Aside0.mk (show Kd.R k72 72 w10 w0.heap.size (fun k_ => (P0_ k_ ∨ w.heap.size ≤ k_)) (.slice (some ⟨go5, 0, none⟩) x0_1.length co8) y101 from (by (with_reducible repeat (first | apply Kd.R_alloc | apply Kd.R_drewN | apply Kd.R_drew)); exact HO_0.out)); obtain ⟨ce11, hcl11, hM11, hcc11, hfr11⟩ := Kd.R_elem HX11.out z72 (x5_1 : Int) (of_decide_eq_true (by first | (with_reducible assumption) | assumption)) (by have h_ : (x5_1 : Int) < ((x0_1.length : Int) : Int) := of_decide_eq_true (by first | (with_reducible assumption) | assumption); first | exact h_ | (have e_ := (Kd.R_reads' HO_0.out).1; omega) | simpa using h_); obtain rfl := k72_openM hM11; have HP11 := Kd.R_seg HX11.out (x5_1 : Int) (of_decide_eq_true (by first | (with_reducible assumption) | assumption)) (by have h_ : (x5_1 : Int) < ((x0_1.length : Int) : Int) := of_decide_eq_true (by first | (with_reducible assumption) | assumption); first | exact h_ | (have e_ := (Kd.R_reads' HO_0.out).1; omega) | simpa using h_) (seg := [.int .i64 (wrap64 (x1_1 + 1))]) (j := 1) hcl11 hcc11 (show 2 ≤ 3 from by decide) (x' := (⟨(rd_T72 y101 x5_1).f0, wrap64 (x1_1 + 1), (rd_T72 y101 x5_1).f2⟩ : S72)) (k72_mkM _ _ _ (⟨(rd_T72 y101 x5_1).f0, wrap64 (x1_1 + 1), (rd_T72 y101 x5_1).f2⟩ : S72) ) (fun _ hk => hk); have hx11_1 := hcc11 1 _ rfl; (try simp only [show (k72).sz = 3 from rfl, Nat.mul_one, Nat.add_zero] at hx11_1); have hf11_1 := hfr11 1; (try simp only [show (k72).sz = 3 from rfl, Nat.mul_one, Nat.add_zero] at hf11_1); clear hcl11 hcc11 hfr11 hM11) | ((with_reducible refine gate_store (t := 3) (p := 23) rfl ?_); refine store_event (t := 3) (p := 23) (v := ?vo_w12) (w1 := (w10.setCell ⟨go5, (x5_1 : Int).toNat * 3 + 1, none⟩ (.int .i64 (wrap64 (x1_1 + 1))))) ?hg ?ho ?hn ?hr ?_; (case ho => rfl); (case hg => rfl); (case hn => rfl); (case hr => first | (go_simp; done) | (go_simp; rfl)); intro w12 hw; have hg : w10.grownBy w12 (some go5) := (by rw [hw]; exact HP11.2); have hp_ : Kd.R k72 72 w12 w0.heap.size (fun k_ => (P0_ k_ ∨ w.heap.size ≤ k_)) (.slice (some ⟨go5, 0, none⟩) x0_1.length co8) y102 := (by rw [hw, Ny102.out]; exact HP11.1); clear HP11; have n0_ := Aside0.mk (hp_); have n1_ := Aside0.mk ((by rw [hw]; exact below_set (HB.out) GB5.out : Below w0.heap.size w0 w12)); have n2_ := Aside0.mk (Kept.of_grown (S := (fun k_ => P0_ k_)) hg (by repeat (first | (with_reducible first | exact HK.out | apply Kept.alloc | apply Kept.drewN | apply Kept.drew) | exact HK.out)) (fun k_ e_ => (HO_0.out.1 k_ e_))); clear HO_0; clear HB; clear HK; have HO_0 := n0_; have HB := n1_; have HK := n2_; clear n0_ n1_ n2_; clear hg hw hp_; have p7 : 0 ≤ (x5_1 : Int) := of_decide_eq_true (by first | (with_reducible assumption) | assumption); have q7 : (x5_1 : Int) < ((x0_1.length : Int) : Int) := of_decide_eq_true (by first | (with_reducible assumption) | assumption); obtain ⟨ce7, hcl7, hM7, hcc7, hfr7⟩ := Kd.R_elem HO_0.out z72 (x5_1 : Int) p7 q7; obtain rfl := k72_openM hM7; have hx7_0 : w12.cell? ⟨go5, (x5_1 : Int).toNat * 3, none⟩ = some (.int .i64 ((rd_T72 y102 x5_1).f0)) := hcc7 0 _ rfl; have hx7_1 : w12.cell? ⟨go5, (x5_1 : Int).toNat * 3 + 1, none⟩ = some (.int .i64 ((rd_T72 y102 x5_1).f1)) := hcc7 1 _ rfl; have hx7_2 : w12.cell? ⟨go5, (x5_1 : Int).toNat * 3 + 2, none⟩ = some (.int .i64 ((rd_T72 y102 x5_1).f2)) := hcc7 2 _ rfl; have hf7_0 : w12.frozen? ⟨go5, (x5_1 : Int).toNat * 3, none⟩ = false := hfr7 0; have hf7_1 : w12.frozen? ⟨go5, (x5_1 : Int).toNat * 3 + 1, none⟩ = false := hfr7 1; have hf7_2 : w12.frozen? ⟨go5, (x5_1 : Int).toNat * 3 + 2, none⟩ = false := hfr7 2; clear hcl7 hcc7 hfr7 hM7; replace p7 := eq_true p7; replace q7 := eq_true q7; have HX13 := Aside0.mk (show Kd.R k72 72 w12 w0.heap.size (fun k_ => (P0_ k_ ∨ w.heap.size ≤ k_)) (.slice (some ⟨go5, 0, none⟩) x0_1.length co8) y102 from (by (with_reducible repeat (first | apply Kd.R_alloc | apply Kd.R_drewN | apply Kd.R_drew)); exact HO_0.out)); obtain ⟨ce13, hcl13, hM13, hcc13, hfr13⟩ := Kd.R_elem HX13.out z72 (x5_1 : Int) (of_decide_eq_true (by first | (with_reducible assumption) | assumption)) (by have h_ : (x5_1 : Int) < ((x0_1.length : Int) : Int) := of_decide_eq_true (by first | (with_reducible assumption) | assumption); first | exact h_ | (have e_ := (Kd.R_reads' HO_0.out).1; omega) | simpa using h_); obtain rfl := k72_openM hM13; have HP13 := Kd.R_seg HX13.out (x5_1 : Int) (of_decide_eq_true (by first | (with_reducible assumption) | assumption)) (by have h_ : (x5_1 : Int) < ((x0_1.length : Int) : Int) := of_decide_eq_true (by first | (with_reducible assumption) | assumption); first | exact h_ | (have e_ := (Kd.R_reads' HO_0.out).1; omega) | simpa using h_) (seg := [.int .i64 (wrap64 ((wrap64 (x1_1 + 1)) + 1))]) (j := 2) hcl13 hcc13 (show 3 ≤ 3 from by decide) (x' := (⟨(rd_T72 y102 x5_1).f0, (rd_T72 y102 x5_1).f1, wrap64 ((wrap64 (x1_1 + 1)) + 1)⟩ : S72)) (k72_mkM _ _ _ (⟨(rd_T72 y102 x5_1).f0, (rd_T72 y102 x5_1).f1, wrap64 ((wrap64 (x1_1 + 1)) + 1)⟩ : S72) ) (fun _ hk => hk); have hx13_2 := hcc13 2 _ rfl; (try simp only [show (k72).sz = 3 from rfl, Nat.mul_one, Nat.add_zero] at hx13_2); have hf13_2 := hfr13 2; (try simp only [show (k72).sz = 3 from rfl, Nat.mul_one, Nat.add_zero] at hf13_2); clear hcl13 hcc13 hfr13 hM13) | ((with_reducible refine gate_store (t := 3) (p := 30) rfl ?_); refine store_event (t := 3) (p := 30) (v := ?vo_w14) (w1 := (w12.setCell ⟨go5, (x5_1 : Int).toNat * 3 + 2, none⟩ (.int .i64 (wrap64 ((wrap64 (x1_1 + 1)) + 1))))) ?hg ?ho ?hn ?hr ?_; (case ho => rfl); (case hg => rfl); (case hn => rfl); (case hr => first | (go_simp; done) | (go_simp; rfl)); intro w14 hw; have hg : w12.grownBy w14 (some go5) := (by rw [hw]; exact HP13.2); have hp_ : Kd.R k72 72 w14 w0.heap.size (fun k_ => (P0_ k_ ∨ w.heap.size ≤ k_)) (.slice (some ⟨go5, 0, none⟩) x0_1.length co8) y103 := (by rw [hw, Ny103.out]; exact HP13.1); clear HP13; have n0_ := Aside0.mk (hp_); have n1_ := Aside0.mk ((by rw [hw]; exact below_set (HB.out) GB5.out : Below w0.heap.size w0 w14)); have n2_ := Aside0.mk (Kept.of_grown (S := (fun k_ => P0_ k_)) hg (by repeat (first | (with_reducible first | exact HK.out | apply Kept.alloc | apply Kept.drewN | apply Kept.drew) | exact HK.out)) (fun k_ e_ => (HO_0.out.1 k_ e_))); clear HO_0; clear HB; clear HK; have HO_0 := n0_; have HB := n1_; have HK := n2_; clear n0_ n1_ n2_; clear hg hw hp_))
     go_roundg k1
     case measure => have := HK1.out; omega
     case rel => exact ⟨(y103), (wrap64 ((wrap64 ((wrap64 (x1_1 + 1)) + 1)) + 1)), (wrap64 (x5_1 + 1)), (by first | rfl | (simp; done) | (simp [*]; done)), (by first | rfl | (simp; done) | (simp [*]; done)), H', ⟨by have := HK1.out; omega⟩, ⟨by (with_reducible repeat (first | apply Kd.R_alloc | apply Kd.R_drewN | apply Kd.R_drew)); exact HO_0.out⟩, ⟨by repeat (first | (with_reducible first | exact HK.out | apply Kept.alloc | apply Kept.drewN | apply Kept.drew) | exact HK.out)⟩, ⟨by repeat (first | (with_reducible first | exact HB.out | apply below_alloc | apply pw_below_drewN | apply below_drew1) | exact HB.out)⟩⟩
    ·rw [if_neg c4] at H
     exact absurd H (by simp)
   ·rw [if_neg c3] at H
    have c3b0 : decide (x5_1 < (x0_1.length : Int)) = false := decide_eq_false c3
    clear c3
    simp only [Option.some.injEq, Prod.mk.injEq] at H
    obtain ⟨rfl, rfl⟩ := H
    obtain ⟨Ao15, co15, eo15⟩ := Kd.R_slice HO_0.out
    subst eo15
    go_wp2
    go_ret
    exact ⟨by first | rfl | (simp [errW_none, errW_some] <;> rfl) | (simp [*, errW_none, errW_some] <;> rfl), by (with_reducible repeat (first | apply Kd.R_alloc | apply Kd.R_drewN | apply Kd.R_drew)); exact HO_0.out, by repeat (first | (with_reducible first | exact HB.out | apply below_alloc | apply pw_below_drewN | apply below_drew1) | exact HB.out), by repeat (first | (with_reducible first | exact HK.out | apply Kept.alloc | apply Kept.drewN | apply Kept.drew) | exact HK.out)⟩

end Go.Proofs.Ytldcckcljjlglaa.P

namespace Go.Proofs.Ytldcckcljjlglaa.P
open Go.RowKit Go.Proofs.YtldcckcljjlglaaW.PrintWords Go.Proofs.YtldcckcljjlglaaW.PrintLast Go.Proofs.YtldcckcljjlglaaW.PrintMore
attribute [local go_sem] max2_int min2_int max_two min_two max_three min_three max_four min_four   -- for this text's walks alone
set_option linter.unusedVariables false
set_option linter.unusedSimpArgs false

/-! ### laws_heldTripleS: function 73 -/
def laws_heldTripleS.l0 : Nat → List (S72) → Int → Int → Option (Int)
 | 0, _, _, _ => none
 | k + 1, x0, x1, x5 => if x5 < (x0.length : Int) then (if 0 ≤ x5 then (if ((rd_T72 x0 x5).f0) = x1 then (if ((rd_T72 x0 x5).f1) = (wrap64 (x1 + 1)) then (if ((rd_T72 x0 x5).f2) = (wrap64 ((wrap64 (x1 + 1)) + 1)) then (laws_heldTripleS.l0 k x0 (wrap64 ((wrap64 ((wrap64 (x1 + 1)) + 1)) + 1)) (wrap64 (x5 + 1))) else (some (-1))) else (some (-1))) else (some (-1))) else (none)) else (some x1)
def laws_heldTripleS.f (k : Nat) (l0 : List (S72)) (a1 : Int) : Option (Int) := laws_heldTripleS.l0 k l0 a1 0
theorem laws_heldTripleS.mono_l : ∀ k, (∀ y0 y1 y2, LeO (laws_heldTripleS.l0 k y0 y1 y2) (laws_heldTripleS.l0 (k + 1) y0 y1 y2))
 | 0 => fun _ _ _ r h => by simp [laws_heldTripleS.l0] at h
 | k + 1 => by
  have ih0 := laws_heldTripleS.mono_l k
  ·intro y0 y1 y2
   unfold laws_heldTripleS.l0
   repeat' first
   | (with_reducible exact ih0 _ _ _)
   | (with_reducible exact LeO.refl _)
   | (with_reducible exact LeO.none _)
   | (with_reducible refine LeO.ite ?_ ?_)
   | (with_reducible refine LeO.bind ?_ (fun _ => ?_))
   | exact ih0 _ _ _
   | exact LeO.none _
   | refine LeO.ite ?_ ?_
   | refine LeO.bind ?_ (fun _ => ?_)
theorem laws_heldTripleS.mono : ∀ a0 a1 k, LeO (laws_heldTripleS.f k a0 a1) (laws_heldTripleS.f (k + 1) a0 a1) := by
 intro a0 a1 k
 have ih0 := laws_heldTripleS.mono_l k
 unfold laws_heldTripleS.f
 repeat' first
   | (with_reducible exact ih0 _ _ _)
   | (with_reducible exact LeO.refl _)
   | (with_reducible exact LeO.none _)
   | (with_reducible refine LeO.ite ?_ ?_)
   | (with_reducible refine LeO.bind ?_ (fun _ => ?_))
   | exact ih0 _ _ _
   | exact LeO.none _
   | refine LeO.ite ?_ ?_
   | refine LeO.bind ?_ (fun _ => ?_)
set_option maxHeartbeats 8000000 in
set_option maxRecDepth 100000 in
theorem laws_heldTripleS.calls (k : Nat) (A0 : Option Addr) (c0 : Nat) (l0 : List (S72)) (a1 : Int) (r : Int) (w : World) (hr0 : Kd.C k72 w A0 l0.length l0) (hc0 : l0.length ≤ c0) (h : laws_heldTripleS.f k l0 a1 = some r) :
  Calls Try.prog 73 #[.slice A0 l0.length c0, .int .i64 a1] w fun e w' => e = .returned (.int .i64 r) ∧ Drawn0 w w' := by
 have HR0 := Aside0.mk hr0
 have HC0 := Aside0.mk hc0
 clear hr0 hc0
 have H : (laws_heldTripleS.l0 k l0 a1 0) = some r := h
 clear h
 have H' := Aside0.mk H
 clear H
 go_enter Try.func73, Try.ntmps73
 go_wp2
 go_loopg [1, 5] k (fun kq v1 v5 w' => ∃ (x1_1 : Int) (x5_1 : Int), v1 = .int .i64 x1_1 ∧ v5 = .int .i64 x5_1 ∧ Aside0 (laws_heldTripleS.l0 kq l0 x1_1 x5_1 = some r) ∧ Aside0 (kq ≤ k) ∧ Drawn0 w w')
 case atStart => exact ⟨(a1), (0), (by first | rfl | (simp; done) | (simp [*]; done)), (by first | rfl | (simp; done) | (simp [*]; done)), H', ⟨Nat.le_refl _⟩, by repeat (first | exact Drawn0.refl _ | apply Drawn0.step)⟩
 case round =>
  clear H'
  try clear p2
  obtain ⟨x1_1, x5_1, rfl, rfl, HA, HK1, ⟨m1, rfl⟩⟩ := hrel
  cases gk with
  | zero => exact absurd HA.out (by simp [laws_heldTripleS.l0])
  | succ k1 =>
   have H := HA.out
   clear HA
   simp only [laws_heldTripleS.l0] at H
   by_cases c3 : x5_1 < (l0.length : Int)
   ·rw [if_pos c3] at H
    have c3b0 : decide (x5_1 < (l0.length : Int)) = true := decide_eq_true c3
    clear c3
    by_cases c4 : 0 ≤ x5_1
    ·rw [if_pos c4] at H
     have c4b0 : decide (0 ≤ x5_1) = true := decide_eq_true c4
     clear c4
     by_cases c5 : ((rd_T72 l0 x5_1).f0) = x1_1
     ·rw [if_pos c5] at H
      have c5b0 : (((rd_T72 l0 x5_1).f0) == x1_1) = true := beq_iff_eq.mpr c5
      have c5b1 : (((rd_T72 l0 x5_1).f0) != x1_1) = false := bne_eq_false_iff_eq.mpr c5
      clear c5
      by_cases c6 : ((rd_T72 l0 x5_1).f1) = (wrap64 (x1_1 + 1))
      ·rw [if_pos c6] at H
       have c6b0 : (((rd_T72 l0 x5_1).f1) == (wrap64 (x1_1 + 1))) = true := beq_iff_eq.mpr c6
       have c6b1 : (((rd_T72 l0 x5_1).f1) != (wrap64 (x1_1 + 1))) = false := bne_eq_false_iff_eq.mpr c6
       clear c6
       by_cases c7 : ((rd_T72 l0 x5_1).f2) = (wrap64 ((wrap64 (x1_1 + 1)) + 1))
       ·rw [if_pos c7] at H
        have c7b0 : (((rd_T72 l0 x5_1).f2) == (wrap64 ((wrap64 (x1_1 + 1)) + 1))) = true := beq_iff_eq.mpr c7
        have c7b1 : (((rd_T72 l0 x5_1).f2) != (wrap64 ((wrap64 (x1_1 + 1)) + 1))) = false := bne_eq_false_iff_eq.mpr c7
        clear c7
        have H' := Aside0.mk H
        clear H
        have p101 : 0 ≤ (x5_1 : Int) := of_decide_eq_true (by first | (with_reducible assumption) | assumption)
        have q101 : x5_1 < (l0.length : Int) := of_decide_eq_true (by first | (with_reducible assumption) | assumption)
        obtain ⟨ad101, e101, hx101_0, hx101_1, hx101_2⟩ := at_T72 HR0.out x5_1 p101 q101
        cases e101
        replace p101 := eq_true p101
        replace q101 := eq_true q101
        have p102 : 0 ≤ (x5_1 : Int) := of_decide_eq_true (by first | (with_reducible assumption) | assumption)
        have q102 : x5_1 < (l0.length : Int) := of_decide_eq_true (by first | (with_reducible assumption) | assumption)
        obtain ⟨ad102, e102, hx102_0, hx102_1, hx102_2⟩ := at_T72 HR0.out x5_1 p102 q102
        obtain rfl : ad101 = ad102 := (by injection e102)
        replace p102 := eq_true p102
        replace q102 := eq_true q102
        have p103 : 0 ≤ (x5_1 : Int) := of_decide_eq_true (by first | (with_reducible assumption) | assumption)
        have q103 : x5_1 < (l0.length : Int) := of_decide_eq_true (by first | (with_reducible assumption) | assumption)
        obtain ⟨ad103, e103, hx103_0, hx103_1, hx103_2⟩ := at_T72 HR0.out x5_1 p103 q103
        obtain rfl : ad101 = ad103 := (by injection e103)
        replace p103 := eq_true p103
        replace q103 := eq_true q103
        go_wp2
        go_roundg k1
        case measure => have := HK1.out; omega
        case rel => exact ⟨(wrap64 ((wrap64 ((wrap64 (x1_1 + 1)) + 1)) + 1)), (wrap64 (x5_1 + 1)), (by first | rfl | (simp; done) | (simp [*]; done)), (by first | rfl | (simp; done) | (simp [*]; done)), H', ⟨by have := HK1.out; omega⟩, by repeat (first | exact Drawn0.refl _ | apply Drawn0.step)⟩
       ·rw [if_neg c7] at H
        have c7b0 : (((rd_T72 l0 x5_1).f2) == (wrap64 ((wrap64 (x1_1 + 1)) + 1))) = false := beq_eq_false_iff_ne.mpr c7
        have c7b1 : (((rd_T72 l0 x5_1).f2) != (wrap64 ((wrap64 (x1_1 + 1)) + 1))) = true := bne_iff_ne.mpr c7
        obtain rfl := Option.some.inj H
        have p101 : 0 ≤ (x5_1 : Int) := of_decide_eq_true (by first | (with_reducible assumption) | assumption)
        have q101 : x5_1 < (l0.length : Int) := of_decide_eq_true (by first | (with_reducible assumption) | assumption)
        obtain ⟨ad101, e101, hx101_0, hx101_1, hx101_2⟩ := at_T72 HR0.out x5_1 p101 q101
        cases e101
        replace p101 := eq_true p101
        replace q101 := eq_true q101
        have p102 : 0 ≤ (x5_1 : Int) := of_decide_eq_true (by first | (with_reducible assumption) | assumption)
        have q102 : x5_1 < (l0.length : Int) := of_decide_eq_true (by first | (with_reducible assumption) | assumption)
        obtain ⟨ad102, e102, hx102_0, hx102_1, hx102_2⟩ := at_T72 HR0.out x5_1 p102 q102
        obtain rfl : ad101 = ad102 := (by injection e102)
        replace p102 := eq_true p102
        replace q102 := eq_true q102
        have p103 : 0 ≤ (x5_1 : Int) := of_decide_eq_true (by first | (with_reducible assumption) | assumption)
        have q103 : x5_1 < (l0.length : Int) := of_decide_eq_true (by first | (with_reducible assumption) | assumption)
        obtain ⟨ad103, e103, hx103_0, hx103_1, hx103_2⟩ := at_T72 HR0.out x5_1 p103 q103
        obtain rfl : ad101 = ad103 := (by injection e103)
        replace p103 := eq_true p103
        replace q103 := eq_true q103
        go_wp2
        go_ret
        exact ⟨by first | rfl | (simp; done) | (simp [*]; done), by repeat (first | exact Drawn0.refl _ | apply Drawn0.step)⟩
      ·rw [if_neg c6] at H
       have c6b0 : (((rd_T72 l0 x5_1).f1) == (wrap64 (x1_1 + 1))) = false := beq_eq_false_iff_ne.mpr c6
       have c6b1 : (((rd_T72 l0 x5_1).f1) != (wrap64 (x1_1 + 1))) = true := bne_iff_ne.mpr c6
       obtain rfl := Option.some.inj H
       have p101 : 0 ≤ (x5_1 : Int) := of_decide_eq_true (by first | (with_reducible assumption) | assumption)
       have q101 : x5_1 < (l0.length : Int) := of_decide_eq_true (by first | (with_reducible assumption) | assumption)
       obtain ⟨ad101, e101, hx101_0, hx101_1, hx101_2⟩ := at_T72 HR0.out x5_1 p101 q101
       cases e101
       replace p101 := eq_true p101
       replace q101 := eq_true q101
       have p102 : 0 ≤ (x5_1 : Int) := of_decide_eq_true (by first | (with_reducible assumption) | assumption)
       have q102 : x5_1 < (l0.length : Int) := of_decide_eq_true (by first | (with_reducible assumption) | assumption)
       obtain ⟨ad102, e102, hx102_0, hx102_1, hx102_2⟩ := at_T72 HR0.out x5_1 p102 q102
       obtain rfl : ad101 = ad102 := (by injection e102)
       replace p102 := eq_true p102
       replace q102 := eq_true q102
       go_wp2
       go_ret
       exact ⟨by first | rfl | (simp; done) | (simp [*]; done), by repeat (first | exact Drawn0.refl _ | apply Drawn0.step)⟩
     ·rw [if_neg c5] at H
      have c5b0 : (((rd_T72 l0 x5_1).f0) == x1_1) = false := beq_eq_false_iff_ne.mpr c5
      have c5b1 : (((rd_T72 l0 x5_1).f0) != x1_1) = true := bne_iff_ne.mpr c5
      obtain rfl := Option.some.inj H
      have p101 : 0 ≤ (x5_1 : Int) := of_decide_eq_true (by first | (with_reducible assumption) | assumption)
      have q101 : x5_1 < (l0.length : Int) := of_decide_eq_true (by first | (with_reducible assumption) | assumption)
      obtain ⟨ad101, e101, hx101_0, hx101_1, hx101_2⟩ := at_T72 HR0.out x5_1 p101 q101
      cases e101
      replace p101 := eq_true p101
      replace q101 := eq_true q101
      go_wp2
      go_ret
      exact ⟨by first | rfl | (simp; done) | (simp [*]; done), by repeat (first | exact Drawn0.refl _ | apply Drawn0.step)⟩
    ·rw [if_neg c4] at H
     exact absurd H (by simp)
   ·rw [if_neg c3] at H
    have c3b0 : decide (x5_1 < (l0.length : Int)) = false := decide_eq_false c3
    clear c3
    obtain rfl := Option.some.inj H
    go_wp2
    go_ret
    exact ⟨by first | rfl | (simp; done) | (simp [*]; done), by repeat (first | exact Drawn0.refl _ | apply Drawn0.step)⟩

end Go.Proofs.Ytldcckcljjlglaa.P

namespace Go.Proofs.Ytldcckcljjlglaa.P
open Go.RowKit Go.Proofs.YtldcckcljjlglaaW.PrintWords Go.Proofs.YtldcckcljjlglaaW.PrintLast Go.Proofs.YtldcckcljjlglaaW.PrintMore
attribute [local go_sem] max2_int min2_int max_two min_two max_three min_three max_four min_four   -- for this text's walks alone
set_option linter.unusedVariables false
set_option linter.unusedSimpArgs false

/-! ### laws_FnExactPappusOf: function 12 -/
mutual
def laws_FnExactPappusOf.j0 : Nat → List (S114) → List (S72) → Bool → List (S80) → List (S72) → Bool → Bool → Option (Bool)
 | 0, _, _, _, _, _, _, _ => none
 | k + 1, x0, x4, x5, x6, x7, x8, x40 => if x40 = true then (some false) else ((laws_toPointS.f k x0).bind fun t117 => ((laws_eqPointS.f k x6 t117).bind fun t120 => (if t120 = true then ((laws_markPointS.f k x6 1).bind fun bt121 => (if bt121.1 < 0 then (laws_FnExactPappusOf.j1 k x0 x4 x5 x7 true) else ((laws_eqTripleS.f k x7 x4).bind fun t123 => (if t123 = true then (laws_FnExactPappusOf.j1 k x0 x4 x5 x7 (x8 != x5)) else (laws_FnExactPappusOf.j1 k x0 x4 x5 x7 true))))) else (some false))))
def laws_FnExactPappusOf.j1 : Nat → List (S114) → List (S72) → Bool → List (S72) → Bool → Option (Bool)
 | 0, _, _, _, _, _ => none
 | k + 1, x0, x4, x5, x7, x61 => if x61 = true then (some false) else ((laws_markTripleS.f k x7 1).bind fun bt124 => ((laws_heldTripleS.f k bt124.2 1).bind fun t126 => (if t126 < 0 then (some false) else (if t126 = bt124.1 then ((laws_toPointS.f k x0).bind fun t127 => ((impl_PappusOf.f k t127).bind fun bt130 => ((laws_eqTripleS.f k bt130.1 x4).bind fun t134 => (if t134 = true then (laws_FnExactPappusOf.j2 k bt124.2 bt124.1 (bt130.2 != x5)) else (laws_FnExactPappusOf.j2 k bt124.2 bt124.1 true))))) else (some false)))))
def laws_FnExactPappusOf.j2 : Nat → List (S72) → Int → Bool → Option (Bool)
 | 0, _, _, _ => none
 | k + 1, x7, x10, x87 => if x87 = true then (some false) else ((laws_heldTripleS.f k x7 1).bind fun t135 => (if t135 < 0 then (some false) else (if t135 = x10 then (some true) else (some false))))
end
def laws_FnExactPappusOf.f (k : Nat) (l0 : List (S114)) : Option (Bool) := (laws_szPointS.f l0 1048576).bind fun t101 => (if t101 < 0 then (some true) else ((laws_toPointS.f k l0).bind fun t102 => ((spec_PappusOf.f k t102).bind fun bt105 => ((laws_toPointS.f k l0).bind fun t109 => ((impl_PappusOf.f k t109).bind fun bt112 => ((laws_eqTripleS.f k bt112.1 bt105.1).bind fun t116 => (if t116 = true then (laws_FnExactPappusOf.j0 k l0 bt105.1 bt105.2 t109 bt112.1 bt112.2 (bt112.2 != bt105.2)) else (laws_FnExactPappusOf.j0 k l0 bt105.1 bt105.2 t109 bt112.1 bt112.2 true))))))))
theorem laws_FnExactPappusOf.mono_l : ∀ k, (∀ y0 y1 y2 y3 y4 y5 y6, LeO (laws_FnExactPappusOf.j0 k y0 y1 y2 y3 y4 y5 y6) (laws_FnExactPappusOf.j0 (k + 1) y0 y1 y2 y3 y4 y5 y6)) ∧ (∀ y0 y1 y2 y3 y4, LeO (laws_FnExactPappusOf.j1 k y0 y1 y2 y3 y4) (laws_FnExactPappusOf.j1 (k + 1) y0 y1 y2 y3 y4)) ∧ (∀ y0 y1 y2, LeO (laws_FnExactPappusOf.j2 k y0 y1 y2) (laws_FnExactPappusOf.j2 (k + 1) y0 y1 y2))
 | 0 => ⟨fun _ _ _ _ _ _ _ r h => by simp [laws_FnExactPappusOf.j0] at h, fun _ _ _ _ _ r h => by simp [laws_FnExactPappusOf.j1] at h, fun _ _ _ r h => by simp [laws_FnExactPappusOf.j2] at h⟩
 | k + 1 => by
  obtain ⟨ih0, ih1, ih2⟩ := laws_FnExactPappusOf.mono_l k
  refine ⟨?_, ?_, ?_⟩
  ·intro y0 y1 y2 y3 y4 y5 y6
   unfold laws_FnExactPappusOf.j0
   repeat' first
   | (with_reducible exact ih0 _ _ _ _ _ _ _)
   | (with_reducible exact ih1 _ _ _ _ _)
   | (with_reducible exact ih2 _ _ _)
   | (with_reducible exact impl_PappusOf.mono _ _)
   | (with_reducible exact laws_eqPointS.mono _ _ _)
   | (with_reducible exact laws_eqTripleS.mono _ _ _)
   | (with_reducible exact laws_heldTripleS.mono _ _ _)
   | (with_reducible exact laws_markPointS.mono _ _ _)
   | (with_reducible exact laws_markTripleS.mono _ _ _)
   | (with_reducible exact laws_toPointS.mono _ _)
   | (with_reducible exact spec_PappusOf.mono _ _)
   | (with_reducible exact LeO.refl _)
   | (with_reducible exact LeO.none _)
   | (with_reducible refine LeO.ite ?_ ?_)
   | (with_reducible refine LeO.bind ?_ (fun _ => ?_))
   | exact ih0 _ _ _ _ _ _ _
   | exact ih1 _ _ _ _ _
   | exact ih2 _ _ _
   | exact impl_PappusOf.mono _ _
   | exact laws_eqPointS.mono _ _ _
   | exact laws_eqTripleS.mono _ _ _
   | exact laws_heldTripleS.mono _ _ _
   | exact laws_markPointS.mono _ _ _
   | exact laws_markTripleS.mono _ _ _
   | exact laws_toPointS.mono _ _
   | exact spec_PappusOf.mono _ _
   | exact LeO.none _
   | refine LeO.ite ?_ ?_
   | refine LeO.bind ?_ (fun _ => ?_)
  ·intro y0 y1 y2 y3 y4
   unfold laws_FnExactPappusOf.j1
   repeat' first
   | (with_reducible exact ih0 _ _ _ _ _ _ _)
   | (with_reducible exact ih1 _ _ _ _ _)
   | (with_reducible exact ih2 _ _ _)
   | (with_reducible exact impl_PappusOf.mono _ _)
   | (with_reducible exact laws_eqPointS.mono _ _ _)
   | (with_reducible exact laws_eqTripleS.mono _ _ _)
   | (with_reducible exact laws_heldTripleS.mono _ _ _)
   | (with_reducible exact laws_markPointS.mono _ _ _)
   | (with_reducible exact laws_markTripleS.mono _ _ _)
   | (with_reducible exact laws_toPointS.mono _ _)
   | (with_reducible exact spec_PappusOf.mono _ _)
   | (with_reducible exact LeO.refl _)
   | (with_reducible exact LeO.none _)
   | (with_reducible refine LeO.ite ?_ ?_)
   | (with_reducible refine LeO.bind ?_ (fun _ => ?_))
   | exact ih0 _ _ _ _ _ _ _
   | exact ih1 _ _ _ _ _
   | exact ih2 _ _ _
   | exact impl_PappusOf.mono _ _
   | exact laws_eqPointS.mono _ _ _
   | exact laws_eqTripleS.mono _ _ _
   | exact laws_heldTripleS.mono _ _ _
   | exact laws_markPointS.mono _ _ _
   | exact laws_markTripleS.mono _ _ _
   | exact laws_toPointS.mono _ _
   | exact spec_PappusOf.mono _ _
   | exact LeO.none _
   | refine LeO.ite ?_ ?_
   | refine LeO.bind ?_ (fun _ => ?_)
  ·intro y0 y1 y2
   unfold laws_FnExactPappusOf.j2
   repeat' first
   | (with_reducible exact ih0 _ _ _ _ _ _ _)
   | (with_reducible exact ih1 _ _ _ _ _)
   | (with_reducible exact ih2 _ _ _)
   | (with_reducible exact impl_PappusOf.mono _ _)
   | (with_reducible exact laws_eqPointS.mono _ _ _)
   | (with_reducible exact laws_eqTripleS.mono _ _ _)
   | (with_reducible exact laws_heldTripleS.mono _ _ _)
   | (with_reducible exact laws_markPointS.mono _ _ _)
   | (with_reducible exact laws_markTripleS.mono _ _ _)
   | (with_reducible exact laws_toPointS.mono _ _)
   | (with_reducible exact spec_PappusOf.mono _ _)
   | (with_reducible exact LeO.refl _)
   | (with_reducible exact LeO.none _)
   | (with_reducible refine LeO.ite ?_ ?_)
   | (with_reducible refine LeO.bind ?_ (fun _ => ?_))
   | exact ih0 _ _ _ _ _ _ _
   | exact ih1 _ _ _ _ _
   | exact ih2 _ _ _
   | exact impl_PappusOf.mono _ _
   | exact laws_eqPointS.mono _ _ _
   | exact laws_eqTripleS.mono _ _ _
   | exact laws_heldTripleS.mono _ _ _
   | exact laws_markPointS.mono _ _ _
   | exact laws_markTripleS.mono _ _ _
   | exact laws_toPointS.mono _ _
   | exact spec_PappusOf.mono _ _
   | exact LeO.none _
   | refine LeO.ite ?_ ?_
   | refine LeO.bind ?_ (fun _ => ?_)
theorem laws_FnExactPappusOf.mono : ∀ a0 k, LeO (laws_FnExactPappusOf.f k a0) (laws_FnExactPappusOf.f (k + 1) a0) := by
 intro a0 k
 obtain ⟨ih0, ih1, ih2⟩ := laws_FnExactPappusOf.mono_l k
 unfold laws_FnExactPappusOf.f
 repeat' first
   | (with_reducible exact ih0 _ _ _ _ _ _ _)
   | (with_reducible exact ih1 _ _ _ _ _)
   | (with_reducible exact ih2 _ _ _)
   | (with_reducible exact impl_PappusOf.mono _ _)
   | (with_reducible exact laws_eqPointS.mono _ _ _)
   | (with_reducible exact laws_eqTripleS.mono _ _ _)
   | (with_reducible exact laws_heldTripleS.mono _ _ _)
   | (with_reducible exact laws_markPointS.mono _ _ _)
   | (with_reducible exact laws_markTripleS.mono _ _ _)
   | (with_reducible exact laws_toPointS.mono _ _)
   | (with_reducible exact spec_PappusOf.mono _ _)
   | (with_reducible exact LeO.refl _)
   | (with_reducible exact LeO.none _)
   | (with_reducible refine LeO.ite ?_ ?_)
   | (with_reducible refine LeO.bind ?_ (fun _ => ?_))
   | exact ih0 _ _ _ _ _ _ _
   | exact ih1 _ _ _ _ _
   | exact ih2 _ _ _
   | exact impl_PappusOf.mono _ _
   | exact laws_eqPointS.mono _ _ _
   | exact laws_eqTripleS.mono _ _ _
   | exact laws_heldTripleS.mono _ _ _
   | exact laws_markPointS.mono _ _ _
   | exact laws_markTripleS.mono _ _ _
   | exact laws_toPointS.mono _ _
   | exact spec_PappusOf.mono _ _
   | exact LeO.none _
   | refine LeO.ite ?_ ?_
   | refine LeO.bind ?_ (fun _ => ?_)
set_option maxHeartbeats 8000000 in
set_option maxRecDepth 100000 in
theorem laws_FnExactPappusOf.calls (k : Nat) (A0 : Option Addr) (c0 : Nat) (l0 : List (S114)) (r : Bool) (w : World) (hr0 : Kd.C k114 w A0 l0.length l0) (hc0 : l0.length ≤ c0) (h : laws_FnExactPappusOf.f k l0 = some true) :
  Calls Try.prog 12 #[.slice A0 l0.length c0] w fun e w' => e = .returned (.bool true) ∧ Below w.heap.size w w' := by
 have HR0 := Aside0.mk hr0
 have HC0 := Aside0.mk hc0
 clear hr0 hc0
 have HB := Aside0.mk (Below.refl w.heap.size w)
 have H : ((laws_szPointS.f l0 1048576).bind fun t101 => (if t101 < 0 then (some true) else ((laws_toPointS.f k l0).bind fun t102 => ((spec_PappusOf.f k t102).bind fun bt105 => ((laws_toPointS.f k l0).bind fun t109 => ((impl_PappusOf.f k t109).bind fun bt112 => ((laws_eqTripleS.f k bt112.1 bt105.1).bind fun t116 => (if t116 = true then (laws_FnExactPappusOf.j0 k l0 bt105.1 bt105.2 t109 bt112.1 bt112.2 (bt112.2 != bt105.2)) else (laws_FnExactPappusOf.j0 k l0 bt105.1 bt105.2 t109 bt112.1 bt112.2 true))))))))) = some true := h
 clear h
 replace H := Option.bind_eq_some_iff.mp H
 obtain ⟨t101, A20, H⟩ := H
 replace H : (if t101 < 0 then (some true) else ((laws_toPointS.f k l0).bind fun t102 => ((spec_PappusOf.f k t102).bind fun bt105 => ((laws_toPointS.f k l0).bind fun t109 => ((impl_PappusOf.f k t109).bind fun bt112 => ((laws_eqTripleS.f k bt112.1 bt105.1).bind fun t116 => (if t116 = true then (laws_FnExactPappusOf.j0 k l0 bt105.1 bt105.2 t109 bt112.1 bt112.2 (bt112.2 != bt105.2)) else (laws_FnExactPappusOf.j0 k l0 bt105.1 bt105.2 t109 bt112.1 bt112.2 true)))))))) = some true := H
 have A2 := Aside0.mk A20
 clear A20
 by_cases c3 : t101 < 0
 ·rw [if_pos c3] at H
  have c3b0 : decide (t101 < 0) = true := decide_eq_true c3
  clear c3
  clear H
  go_enter Try.func12, Try.ntmps12
  go_wp2_with (first | ((with_reducible refine gate_callee (f := 63) rfl ?_); refine goesL_ (some 16) rfl rfl Try.func63 (by kernel_rfl) rfl #[.slice A0 l0.length c0, .int .i64 1048576] rfl (by (try simp only [List.map_toArray, List.map_cons, List.map_nil]); first | done | rfl | (simp only [List.length_drop, List.length_take]; rfl)) ?_; (with_reducible refine (laws_szPointS.calls _ _ l0 1048576 t101 _ ?side1 ?side2 A2.out).mono ?_); (case side1 => repeat (first | exact HR0.out | (with_reducible refine Kd.C_alloc ?_ _) | (with_reducible refine Kd.C_drewN ?_ _) | (with_reducible refine Kd.C_drew ?_))); (case side2 => exact HC0.out); rintro e w' ⟨rfl, ⟨nd, rfl⟩⟩; refine ⟨_, rfl, ?_⟩))
  go_ret
  exact ⟨by first | rfl | (simp [errW_none, errW_some] <;> rfl) | (simp [*, errW_none, errW_some] <;> rfl), by repeat (first | (with_reducible first | exact HB.out | apply below_alloc | apply pw_below_drewN | apply below_drew1) | exact HB.out)⟩
 ·rw [if_neg c3] at H
  have c3b0 : decide (t101 < 0) = false := decide_eq_false c3
  clear c3
  replace H := Option.bind_eq_some_iff.mp H
  obtain ⟨t102, A40, H⟩ := H
  replace H : ((spec_PappusOf.f k t102).bind fun bt105 => ((laws_toPointS.f k l0).bind fun t109 => ((impl_PappusOf.f k t109).bind fun bt112 => ((laws_eqTripleS.f k bt112.1 bt105.1).bind fun t116 => (if t116 = true then (laws_FnExactPappusOf.j0 k l0 bt105.1 bt105.2 t109 bt112.1 bt112.2 (bt112.2 != bt105.2)) else (laws_FnExactPappusOf.j0 k l0 bt105.1 bt105.2 t109 bt112.1 bt112.2 true)))))) = some true := H
  have A4 := Aside0.mk A40
  clear A40
  replace H := Option.bind_eq_some_iff.mp H
  obtain ⟨⟨t105, t106⟩, A50, H⟩ := H
  replace H : ((laws_toPointS.f k l0).bind fun t109 => ((impl_PappusOf.f k t109).bind fun bt112 => ((laws_eqTripleS.f k bt112.1 t105).bind fun t116 => (if t116 = true then (laws_FnExactPappusOf.j0 k l0 t105 t106 t109 bt112.1 bt112.2 (bt112.2 != t106)) else (laws_FnExactPappusOf.j0 k l0 t105 t106 t109 bt112.1 bt112.2 true))))) = some true := H
  have A5 := Aside0.mk A50
  clear A50
  replace H := Option.bind_eq_some_iff.mp H
  obtain ⟨t109, A60, H⟩ := H
  replace H : ((impl_PappusOf.f k t109).bind fun bt112 => ((laws_eqTripleS.f k bt112.1 t105).bind fun t116 => (if t116 = true then (laws_FnExactPappusOf.j0 k l0 t105 t106 t109 bt112.1 bt112.2 (bt112.2 != t106)) else (laws_FnExactPappusOf.j0 k l0 t105 t106 t109 bt112.1 bt112.2 true)))) = some true := H
  have A6 := Aside0.mk A60
  clear A60
  replace H := Option.bind_eq_some_iff.mp H
  obtain ⟨⟨t112, t113⟩, A70, H⟩ := H
  replace H : ((laws_eqTripleS.f k t112 t105).bind fun t116 => (if t116 = true then (laws_FnExactPappusOf.j0 k l0 t105 t106 t109 t112 t113 (t113 != t106)) else (laws_FnExactPappusOf.j0 k l0 t105 t106 t109 t112 t113 true))) = some true := H
  have A7 := Aside0.mk A70
  clear A70
  have HC8 := Aside0.mk H
  clear H
  go_enter Try.func12, Try.ntmps12
  go_upto_region 8 with (first | ((with_reducible refine gate_callee (f := 63) rfl ?_); refine goesL_ (some 16) rfl rfl Try.func63 (by kernel_rfl) rfl #[.slice A0 l0.length c0, .int .i64 1048576] rfl (by (try simp only [List.map_toArray, List.map_cons, List.map_nil]); first | done | rfl | (simp only [List.length_drop, List.length_take]; rfl)) ?_; (with_reducible refine (laws_szPointS.calls _ _ l0 1048576 t101 _ ?side1 ?side2 A2.out).mono ?_); (case side1 => repeat (first | exact HR0.out | (with_reducible refine Kd.C_alloc ?_ _) | (with_reducible refine Kd.C_drewN ?_ _) | (with_reducible refine Kd.C_drew ?_))); (case side2 => exact HC0.out); rintro e w' ⟨rfl, ⟨nd, rfl⟩⟩; refine ⟨_, rfl, ?_⟩) | ((with_reducible refine gate_callee (f := 65) rfl ?_); refine goesL_ (some 21) rfl rfl Try.func65 (by kernel_rfl) rfl #[.slice A0 l0.length c0] rfl (by (try simp only [List.map_toArray, List.map_cons, List.map_nil]); first | done | rfl | (simp only [List.length_drop, List.length_take]; rfl)) ?_; (with_reducible refine (laws_toPointS.calls k _ _ l0 t102 _ ?side1 ?side2 A4.out).mono ?_); (case side1 => repeat (first | exact HR0.out | (with_reducible refine Kd.C_alloc ?_ _) | (with_reducible refine Kd.C_drewN ?_ _) | (with_reducible refine Kd.C_drew ?_))); (case side2 => exact HC0.out); rintro e w9 ⟨v103, rfl, ho0, hb⟩; refine ⟨_, rfl, ?_⟩; have n0_ := Aside0.mk (Kd.R_lower ho0 (below_size (by repeat (first | (with_reducible first | exact HB.out | apply below_alloc | apply pw_below_drewN | apply below_drew1) | exact HB.out)))); have n1_ := Aside0.mk (below_step (by repeat (first | (with_reducible first | exact HB.out | apply below_alloc | apply pw_below_drewN | apply below_drew1) | exact HB.out)) hb); clear HB; have HO104 := n0_; have HB := n1_; clear n0_ n1_; (try clear hb); (try clear hb2); (try clear hk); (try clear hi); (try clear ho0); obtain ⟨Ao10, co10, eo10⟩ := Kd.R_slice HO104.out; subst eo10) | ((with_reducible refine gate_callee (f := 68) rfl ?_); refine goesL_ (some 22) rfl rfl Try.func68 (by kernel_rfl) rfl #[.slice Ao10 t102.length co10] rfl (by (try simp only [List.map_toArray, List.map_cons, List.map_nil]); first | done | rfl | (simp only [List.length_drop, List.length_take]; rfl)) ?_; (with_reducible refine (spec_PappusOf.calls k _ _ t102 t105 t106 _ ?side1 ?side2 A5.out).mono ?_); (case side1 => repeat (first | exact (Kd.R_reads' HO104.out).2.2 | (with_reducible refine Kd.C_alloc ?_ _) | (with_reducible refine Kd.C_drewN ?_ _) | (with_reducible refine Kd.C_drew ?_))); (case side2 => exact (Kd.R_reads' HO104.out).2.1); rintro e w11 ⟨v107, rfl, ho0, hb⟩; refine ⟨_, rfl, ?_⟩; have n0_ := Aside0.mk (Kd.R_below (by (with_reducible repeat (first | apply Kd.R_alloc | apply Kd.R_drewN | apply Kd.R_drew)); exact HO104.out) hb); have n1_ := Aside0.mk (Kd.R_lower ho0 (below_size (by repeat (first | (with_reducible first | exact HB.out | apply below_alloc | apply pw_below_drewN | apply below_drew1) | exact HB.out)))); have n2_ := Aside0.mk (below_step (by repeat (first | (with_reducible first | exact HB.out | apply below_alloc | apply pw_below_drewN | apply below_drew1) | exact HB.out)) hb); clear HO104; clear HB; have HO104 := n0_; have HO108 := n1_; have HB := n2_; clear n0_ n1_ n2_; (try clear hb); (try clear hb2); (try clear hk); (try clear hi); (try clear ho0)) | ((with_reducible refine gate_callee (f := 65) rfl ?_); refine goesL_ (some 26) rfl rfl Try.func65 (by kernel_rfl) rfl #[.slice A0 l0.length c0] rfl (by (try simp only [List.map_toArray, List.map_cons, List.map_nil]); first | done | rfl | (simp only [List.length_drop, List.length_take]; rfl)) ?_; (with_reducible refine (laws_toPointS.calls k _ _ l0 t109 _ ?side1 ?side2 A6.out).mono ?_); (case side1 => repeat (first | exact (Kd.C_below HR0.out HB.out) | (with_reducible refine Kd.C_alloc ?_ _) | (with_reducible refine Kd.C_drewN ?_ _) | (with_reducible refine Kd.C_drew ?_))); (case side2 => exact HC0.out); rintro e w12 ⟨v110, rfl, ho0, hb⟩; refine ⟨_, rfl, ?_⟩; have n0_ := Aside0.mk (Kd.R_elder' (by (with_reducible repeat (first | apply Kd.R_alloc | apply Kd.R_drewN | apply Kd.R_drew)); exact HO104.out) (Kd.R_base ho0) hb); have n1_ := Aside0.mk (Kd.R_below (by (with_reducible repeat (first | apply Kd.R_alloc | apply Kd.R_drewN | apply Kd.R_drew)); exact HO108.out) hb); have n2_ := Aside0.mk (Kd.R_lower (Kd.R_new' ho0 (Kd.R_lt (by (with_reducible repeat (first | apply Kd.R_alloc | apply Kd.R_drewN | apply Kd.R_drew)); exact HO104.out))) (below_size (by repeat (first | (with_reducible first | exact HB.out | apply below_alloc | apply pw_below_drewN | apply below_drew1) | exact HB.out)))); have n3_ := Aside0.mk (below_step (by repeat (first | (with_reducible first | exact HB.out | apply below_alloc | apply pw_below_drewN | apply below_drew1) | exact HB.out)) hb); clear HO104; clear HO108; clear HB; have HO104 := n0_; have HO108 := n1_; have HO111 := n2_; have HB := n3_; clear n0_ n1_ n2_ n3_; (try clear hb); (try clear hb2); (try clear hk); (try clear hi); (try clear ho0); obtain ⟨Ao13, co13, eo13⟩ := Kd.R_slice HO111.out; subst eo13) | ((with_reducible refine gate_callee (f := 69) rfl ?_); refine goesL_ (some 29) rfl rfl Try.func69 (by kernel_rfl) rfl #[.slice Ao13 t109.length co13] rfl (by (try simp only [List.map_toArray, List.map_cons, List.map_nil]); first | done | rfl | (simp only [List.length_drop, List.length_take]; rfl)) ?_; (with_reducible refine (impl_PappusOf.calls k _ _ t109 t112 t113 _ ?side1 ?side2 A7.out).mono ?_); (case side1 => repeat (first | exact (Kd.R_reads' HO111.out).2.2 | (with_reducible refine Kd.C_alloc ?_ _) | (with_reducible refine Kd.C_drewN ?_ _) | (with_reducible refine Kd.C_drew ?_))); (case side2 => exact (Kd.R_reads' HO111.out).2.1); rintro e w14 ⟨v114, rfl, ho0, hb⟩; refine ⟨_, rfl, ?_⟩; have n0_ := Aside0.mk (Kd.R_below (by (with_reducible repeat (first | apply Kd.R_alloc | apply Kd.R_drewN | apply Kd.R_drew)); exact HO104.out) hb); have n1_ := Aside0.mk (Kd.R_elder' (by (with_reducible repeat (first | apply Kd.R_alloc | apply Kd.R_drewN | apply Kd.R_drew)); exact HO108.out) (Kd.R_base ho0) hb); have n2_ := Aside0.mk (Kd.R_below (by (with_reducible repeat (first | apply Kd.R_alloc | apply Kd.R_drewN | apply Kd.R_drew)); exact HO111.out) hb); have n3_ := Aside0.mk (Kd.R_lower (Kd.R_new' ho0 (Kd.R_lt (by (with_reducible repeat (first | apply Kd.R_alloc | apply Kd.R_drewN | apply Kd.R_drew)); exact HO108.out))) (below_size (by repeat (first | (with_reducible first | exact HB.out | apply below_alloc | apply pw_below_drewN | apply below_drew1) | exact HB.out)))); have n4_ := Aside0.mk (below_step (by repeat (first | (with_reducible first | exact HB.out | apply below_alloc | apply pw_below_drewN | apply below_drew1) | exact HB.out)) hb); clear HO104; clear HO108; clear HO111; clear HB; have HO104 := n0_; have HO108 := n1_; have HO111 := n2_; have HO115 := n3_; have HB := n4_; clear n0_ n1_ n2_ n3_ n4_; (try clear hb); (try clear hb2); (try clear hk); (try clear hi); (try clear ho0)))
  (try simp only [Act.put, List.setIfInBounds_toArray, List.set_cons_zero, List.set_cons_succ])
  go_cut [40] (fun v40 wc => ∃ (kq : Nat) (x40_7 : Bool), v40 = .bool x40_7 ∧ Aside0 (laws_FnExactPappusOf.j0 kq l0 t105 t106 t109 t112 t113 x40_7 = some true) ∧ Aside0 (kq ≤ k) ∧ Aside0 (Kd.R k72 72 wc w.heap.size (fun k_ => some k_ ≠ (v114 : Value).ownBlock) v107 t105) ∧ Aside0 (Kd.R k80 80 wc w.heap.size (fun _ => True) (.slice Ao13 t109.length co13) t109) ∧ Aside0 (Kd.R k72 72 wc w.heap.size (fun k_ => some k_ ≠ (v107 : Value).ownBlock) v114 t112) ∧ Aside0 (Below w.heap.size w wc))
  case first =>
   have H := HC8.out
   clear HC8
   replace H := Option.bind_eq_some_iff.mp H
   obtain ⟨t116, A150, H⟩ := H
   replace H : (if t116 = true then (laws_FnExactPappusOf.j0 k l0 t105 t106 t109 t112 t113 (t113 != t106)) else (laws_FnExactPappusOf.j0 k l0 t105 t106 t109 t112 t113 true)) = some true := H
   have A15 := Aside0.mk A150
   clear A150
   by_cases c16 : t116 = true
   ·subst c16
    have H1 : (laws_FnExactPappusOf.j0 k l0 t105 t106 t109 t112 t113 (t113 != t106)) = some true := by rw [if_pos rfl] at H; exact H
    clear H
    have H := H1
    clear H1
    have H' := Aside0.mk H
    clear H
    obtain ⟨Ao17, co17, eo17⟩ := Kd.R_slice HO115.out
    subst eo17
    obtain ⟨Ao18, co18, eo18⟩ := Kd.R_slice HO108.out
    subst eo18
    go_wp2_with (first | ((with_reducible refine gate_callee (f := 70) rfl ?_); refine goesL_ (some 34) rfl rfl Try.func70 (by kernel_rfl) rfl #[.slice Ao17 t112.length co17, .slice Ao18 t105.length co18] rfl (by (try simp only [List.map_toArray, List.map_cons, List.map_nil]); first | done | rfl | (simp only [List.length_drop, List.length_take]; rfl)) ?_; (with_reducible refine (laws_eqTripleS.calls k _ _ t112 _ _ t105 true _ ?side1 ?side2 ?side3 ?side4 A15.out).mono ?_); (case side1 => repeat (first | exact (Kd.R_reads' HO115.out).2.2 | (with_reducible refine Kd.C_alloc ?_ _) | (with_reducible refine Kd.C_drewN ?_ _) | (with_reducible refine Kd.C_drew ?_))); (case side2 => exact (Kd.R_reads' HO115.out).2.1); (case side3 => repeat (first | exact (Kd.R_reads' HO108.out).2.2 | (with_reducible refine Kd.C_alloc ?_ _) | (with_reducible refine Kd.C_drewN ?_ _) | (with_reducible refine Kd.C_drew ?_))); (case side4 => exact (Kd.R_reads' HO108.out).2.1); rintro e w19 ⟨rfl, hb⟩; refine ⟨_, rfl, ?_⟩; have n0_ := Aside0.mk (Kd.R_below (by (with_reducible repeat (first | apply Kd.R_alloc | apply Kd.R_drewN | apply Kd.R_drew)); exact HO104.out) hb); have n1_ := Aside0.mk (Kd.R_below (by (with_reducible repeat (first | apply Kd.R_alloc | apply Kd.R_drewN | apply Kd.R_drew)); exact HO108.out) hb); have n2_ := Aside0.mk (Kd.R_below (by (with_reducible repeat (first | apply Kd.R_alloc | apply Kd.R_drewN | apply Kd.R_drew)); exact HO111.out) hb); have n3_ := Aside0.mk (Kd.R_below (by (with_reducible repeat (first | apply Kd.R_alloc | apply Kd.R_drewN | apply Kd.R_drew)); exact HO115.out) hb); have n4_ := Aside0.mk (below_step (by repeat (first | (with_reducible first | exact HB.out | apply below_alloc | apply pw_below_drewN | apply below_drew1) | exact HB.out)) hb); clear HO104; clear HO108; clear HO111; clear HO115; clear HB; have HO104 := n0_; have HO108 := n1_; have HO111 := n2_; have HO115 := n3_; have HB := n4_; clear n0_ n1_ n2_ n3_ n4_; (try clear hb); (try clear hb2); (try clear hk); (try clear hi)))
    go_meet
    case rel => exact ⟨_, ((t113 != t106)), (by first | rfl | (simp; done) | (simp [*]; done)), H', ⟨by first | omega | exact Nat.le_refl _⟩, ⟨by (with_reducible repeat (first | apply Kd.R_alloc | apply Kd.R_drewN | apply Kd.R_drew)); exact Kd.R_mono HO108.out (fun _ hk => hk.2)⟩, ⟨by (with_reducible repeat (first | apply Kd.R_alloc | apply Kd.R_drewN | apply Kd.R_drew)); exact Kd.R_mono HO111.out (fun _ hk => trivial)⟩, ⟨by (with_reducible repeat (first | apply Kd.R_alloc | apply Kd.R_drewN | apply Kd.R_drew)); exact Kd.R_mono HO115.out (fun _ hk => hk.2)⟩, ⟨by repeat (first | (with_reducible first | exact HB.out | apply below_alloc | apply pw_below_drewN | apply below_drew1) | exact HB.out)⟩⟩
   ·replace c16 := Bool.eq_false_iff.mpr c16
    subst c16
    have H1 : (laws_FnExactPappusOf.j0 k l0 t105 t106 t109 t112 t113 true) = some true := by rw [if_neg (show ¬ (false = true) by decide)] at H; exact H
    clear H
    have H := H1
    clear H1
    have H' := Aside0.mk H
    clear H
    obtain ⟨Ao20, co20, eo20⟩ := Kd.R_slice HO115.out
    subst eo20
    obtain ⟨Ao21, co21, eo21⟩ := Kd.R_slice HO108.out
    subst eo21
    go_wp2_with (first | ((with_reducible refine gate_callee (f := 70) rfl ?_); refine goesL_ (some 34) rfl rfl Try.func70 (by kernel_rfl) rfl #[.slice Ao20 t112.length co20, .slice Ao21 t105.length co21] rfl (by (try simp only [List.map_toArray, List.map_cons, List.map_nil]); first | done | rfl | (simp only [List.length_drop, List.length_take]; rfl)) ?_; (with_reducible refine (laws_eqTripleS.calls k _ _ t112 _ _ t105 false _ ?side1 ?side2 ?side3 ?side4 A15.out).mono ?_); (case side1 => repeat (first | exact (Kd.R_reads' HO115.out).2.2 | (with_reducible refine Kd.C_alloc ?_ _) | (with_reducible refine Kd.C_drewN ?_ _) | (with_reducible refine Kd.C_drew ?_))); (case side2 => exact (Kd.R_reads' HO115.out).2.1); (case side3 => repeat (first | exact (Kd.R_reads' HO108.out).2.2 | (with_reducible refine Kd.C_alloc ?_ _) | (with_reducible refine Kd.C_drewN ?_ _) | (with_reducible refine Kd.C_drew ?_))); (case side4 => exact (Kd.R_reads' HO108.out).2.1); rintro e w22 ⟨rfl, hb⟩; refine ⟨_, rfl, ?_⟩; have n0_ := Aside0.mk (Kd.R_below (by (with_reducible repeat (first | apply Kd.R_alloc | apply Kd.R_drewN | apply Kd.R_drew)); exact HO104.out) hb); have n1_ := Aside0.mk (Kd.R_below (by (with_reducible repeat (first | apply Kd.R_alloc | apply Kd.R_drewN | apply Kd.R_drew)); exact HO108.out) hb); have n2_ := Aside0.mk (Kd.R_below (by (with_reducible repeat (first | apply Kd.R_alloc | apply Kd.R_drewN | apply Kd.R_drew)); exact HO111.out) hb); have n3_ := Aside0.mk (Kd.R_below (by (with_reducible repeat (first | apply Kd.R_alloc | apply Kd.R_drewN | apply Kd.R_drew)); exact HO115.out) hb); have n4_ := Aside0.mk (below_step (by repeat (first | (with_reducible first | exact HB.out | apply below_alloc | apply pw_below_drewN | apply below_drew1) | exact HB.out)) hb); clear HO104; clear HO108; clear HO111; clear HO115; clear HB; have HO104 := n0_; have HO108 := n1_; have HO111 := n2_; have HO115 := n3_; have HB := n4_; clear n0_ n1_ n2_ n3_ n4_; (try clear hb); (try clear hb2); (try clear hk); (try clear hi)))
    go_meet
    case rel => exact ⟨_, (true), (by first | rfl | (simp; done) | (simp [*]; done)), H', ⟨by first | omega | exact Nat.le_refl _⟩, ⟨by (with_reducible repeat (first | apply Kd.R_alloc | apply Kd.R_drewN | apply Kd.R_drew)); exact Kd.R_mono HO108.out (fun _ hk => hk.2)⟩, ⟨by (with_reducible repeat (first | apply Kd.R_alloc | apply Kd.R_drewN | apply Kd.R_drew)); exact Kd.R_mono HO111.out (fun _ hk => trivial)⟩, ⟨by (with_reducible repeat (first | apply Kd.R_alloc | apply Kd.R_drewN | apply Kd.R_drew)); exact Kd.R_mono HO115.out (fun _ hk => hk.2)⟩, ⟨by repeat (first | (with_reducible first | exact HB.out | apply below_alloc | apply pw_below_drewN | apply below_drew1) | exact HB.out)⟩⟩
  case rest =>
   clear HC8
   try clear c1
   try clear p2
   try clear c3
   try clear c3b0
   try clear c6
   try clear c7
   try clear c12
   try clear c16
   obtain ⟨kq, x40_7, rfl, HA, HJ7, HO_4, HO_6, HO_7, HB⟩ := hcut
   cases kq with
   | zero => exact absurd HA.out (by simp [laws_FnExactPappusOf.j0])
   | succ kj7 =>
    have H := HA.out
    clear HA
    simp only [laws_FnExactPappusOf.j0] at H
    by_cases c23 : x40_7 = true
    ·subst c23
     have H1 : (some false) = some true := by rw [if_pos rfl] at H; exact H
     clear H
     have H := H1
     clear H1
     exact absurd H (by simp)
    ·replace c23 := Bool.eq_false_iff.mpr c23
     subst c23
     have H1 : ((laws_toPointS.f kj7 l0).bind fun t117 => ((laws_eqPointS.f kj7 t109 t117).bind fun t120 => (if t120 = true then ((laws_markPointS.f kj7 t109 1).bind fun bt121 => (if bt121.1 < 0 then (laws_FnExactPappusOf.j1 kj7 l0 t105 t106 t112 true) else ((laws_eqTripleS.f kj7 t112 t105).bind fun t123 => (if t123 = true then (laws_FnExactPappusOf.j1 kj7 l0 t105 t106 t112 (t113 != t106)) else (laws_FnExactPappusOf.j1 kj7 l0 t105 t106 t112 true))))) else (some false)))) = some true := by rw [if_neg (show ¬ (false = true) by decide)] at H; exact H
     clear H
     have H := H1
     clear H1
     replace H := Option.bind_eq_some_iff.mp H
     obtain ⟨t117, A240, H⟩ := H
     replace H : ((laws_eqPointS.f kj7 t109 t117).bind fun t120 => (if t120 = true then ((laws_markPointS.f kj7 t109 1).bind fun bt121 => (if bt121.1 < 0 then (laws_FnExactPappusOf.j1 kj7 l0 t105 t106 t112 true) else ((laws_eqTripleS.f kj7 t112 t105).bind fun t123 => (if t123 = true then (laws_FnExactPappusOf.j1 kj7 l0 t105 t106 t112 (t113 != t106)) else (laws_FnExactPappusOf.j1 kj7 l0 t105 t106 t112 true))))) else (some false))) = some true := H
     have A24 := Aside0.mk A240
     clear A240
     replace H := Option.bind_eq_some_iff.mp H
     obtain ⟨t120, A250, H⟩ := H
     replace H : (if t120 = true then ((laws_markPointS.f kj7 t109 1).bind fun bt121 => (if bt121.1 < 0 then (laws_FnExactPappusOf.j1 kj7 l0 t105 t106 t112 true) else ((laws_eqTripleS.f kj7 t112 t105).bind fun t123 => (if t123 = true then (laws_FnExactPappusOf.j1 kj7 l0 t105 t106 t112 (t113 != t106)) else (laws_FnExactPappusOf.j1 kj7 l0 t105 t106 t112 true))))) else (some false)) = some true := H
     have A25 := Aside0.mk A250
     clear A250
     by_cases c26 : t120 = true
     ·subst c26
      have H1 : ((laws_markPointS.f kj7 t109 1).bind fun bt121 => (if bt121.1 < 0 then (laws_FnExactPappusOf.j1 kj7 l0 t105 t106 t112 true) else ((laws_eqTripleS.f kj7 t112 t105).bind fun t123 => (if t123 = true then (laws_FnExactPappusOf.j1 kj7 l0 t105 t106 t112 (t113 != t106)) else (laws_FnExactPappusOf.j1 kj7 l0 t105 t106 t112 true))))) = some true := by rw [if_pos rfl] at H; exact H
      clear H
      have H := H1
      clear H1
      replace H := Option.bind_eq_some_iff.mp H
      obtain ⟨⟨t121, t122⟩, A270, H⟩ := H
      replace H : (if t121 < 0 then (laws_FnExactPappusOf.j1 kj7 l0 t105 t106 t112 true) else ((laws_eqTripleS.f kj7 t112 t105).bind fun t123 => (if t123 = true then (laws_FnExactPappusOf.j1 kj7 l0 t105 t106 t112 (t113 != t106)) else (laws_FnExactPappusOf.j1 kj7 l0 t105 t106 t112 true)))) = some true := H
      have A27 := Aside0.mk A270
      clear A270
      have HC28 := Aside0.mk H
      clear H
      go_upto_region 14 with (first | ((with_reducible refine gate_callee (f := 65) rfl ?_); refine goesL_ (some 43) rfl rfl Try.func65 (by kernel_rfl) rfl #[.slice A0 l0.length c0] rfl (by (try simp only [List.map_toArray, List.map_cons, List.map_nil]); first | done | rfl | (simp only [List.length_drop, List.length_take]; rfl)) ?_; (with_reducible refine (laws_toPointS.calls kj7 _ _ l0 t117 _ ?side1 ?side2 A24.out).mono ?_); (case side1 => repeat (first | exact (Kd.C_below HR0.out HB.out) | (with_reducible refine Kd.C_alloc ?_ _) | (with_reducible refine Kd.C_drewN ?_ _) | (with_reducible refine Kd.C_drew ?_))); (case side2 => exact HC0.out); rintro e w29 ⟨v118, rfl, ho0, hb⟩; refine ⟨_, rfl, ?_⟩; have n0_ := Aside0.mk (Kd.R_below (by (with_reducible repeat (first | apply Kd.R_alloc | apply Kd.R_drewN | apply Kd.R_drew)); exact HO_4.out) hb); have n1_ := Aside0.mk (Kd.R_elder' (by (with_reducible repeat (first | apply Kd.R_alloc | apply Kd.R_drewN | apply Kd.R_drew)); exact HO_6.out) (Kd.R_base ho0) hb); have n2_ := Aside0.mk (Kd.R_below (by (with_reducible repeat (first | apply Kd.R_alloc | apply Kd.R_drewN | apply Kd.R_drew)); exact HO_7.out) hb); have n3_ := Aside0.mk (Kd.R_lower (Kd.R_new' ho0 (Kd.R_lt (by (with_reducible repeat (first | apply Kd.R_alloc | apply Kd.R_drewN | apply Kd.R_drew)); exact HO_6.out))) (below_size (by repeat (first | (with_reducible first | exact HB.out | apply below_alloc | apply pw_below_drewN | apply below_drew1) | exact HB.out)))); have n4_ := Aside0.mk (below_step (by repeat (first | (with_reducible first | exact HB.out | apply below_alloc | apply pw_below_drewN | apply below_drew1) | exact HB.out)) hb); clear HO_4; clear HO_6; clear HO_7; clear HB; have HO_4 := n0_; have HO_6 := n1_; have HO_7 := n2_; have HO119 := n3_; have HB := n4_; clear n0_ n1_ n2_ n3_ n4_; (try clear hb); (try clear hb2); (try clear hk); (try clear hi); (try clear ho0); obtain ⟨Ao30, co30, eo30⟩ := Kd.R_slice HO119.out; subst eo30) | ((with_reducible refine gate_callee (f := 67) rfl ?_); refine goesL_ (some 44) rfl rfl Try.func67 (by kernel_rfl) rfl #[.slice Ao13 t109.length co13, .slice Ao30 t117.length co30] rfl (by (try simp only [List.map_toArray, List.map_cons, List.map_nil]); first | done | rfl | (simp only [List.length_drop, List.length_take]; rfl)) ?_; (with_reducible refine (laws_eqPointS.calls kj7 _ _ t109 _ _ t117 true _ ?side1 ?side2 ?side3 ?side4 A25.out).mono ?_); (case side1 => repeat (first | exact (Kd.R_reads' HO_6.out).2.2 | (with_reducible refine Kd.C_alloc ?_ _) | (with_reducible refine Kd.C_drewN ?_ _) | (with_reducible refine Kd.C_drew ?_))); (case side2 => exact (Kd.R_reads' HO_6.out).2.1); (case side3 => repeat (first | exact (Kd.R_reads' HO119.out).2.2 | (with_reducible refine Kd.C_alloc ?_ _) | (with_reducible refine Kd.C_drewN ?_ _) | (with_reducible refine Kd.C_drew ?_))); (case side4 => exact (Kd.R_reads' HO119.out).2.1); rintro e w31 ⟨rfl, hb⟩; refine ⟨_, rfl, ?_⟩; have n0_ := Aside0.mk (Kd.R_below (by (with_reducible repeat (first | apply Kd.R_alloc | apply Kd.R_drewN | apply Kd.R_drew)); exact HO_4.out) hb); have n1_ := Aside0.mk (Kd.R_below (by (with_reducible repeat (first | apply Kd.R_alloc | apply Kd.R_drewN | apply Kd.R_drew)); exact HO_6.out) hb); have n2_ := Aside0.mk (Kd.R_below (by (with_reducible repeat (first | apply Kd.R_alloc | apply Kd.R_drewN | apply Kd.R_drew)); exact HO_7.out) hb); have n3_ := Aside0.mk (Kd.R_below (by (with_reducible repeat (first | apply Kd.R_alloc | apply Kd.R_drewN | apply Kd.R_drew)); exact HO119.out) hb); have n4_ := Aside0.mk (below_step (by repeat (first | (with_reducible first | exact HB.out | apply below_alloc | apply pw_below_drewN | apply below_drew1) | exact HB.out)) hb); clear HO_4; clear HO_6; clear HO_7; clear HO119; clear HB; have HO_4 := n0_; have HO_6 := n1_; have HO_7 := n2_; have HO119 := n3_; have HB := n4_; clear n0_ n1_ n2_ n3_ n4_; (try clear hb); (try clear hb2); (try clear hk); (try clear hi)) | ((with_reducible refine gate_callee (f := 71) rfl ?_); refine goesL_ (some 48) rfl rfl Try.func71 (by kernel_rfl) rfl #[.slice Ao13 t109.length co13, .int .i64 1] rfl (by (try simp only [List.map_toArray, List.map_cons, List.map_nil]); first | done | rfl | (simp only [List.length_drop, List.length_take]; rfl)) ?_; (with_reducible refine (laws_markPointS.calls kj7 (fun k_ => some k_ = (.slice Ao13 t109.length co13 : Value).ownBlock) (.slice Ao13 t109.length co13) t109 1 t121 t122 w _ ?side1 ?side2 A27.out).mono ?_); (case side1 => repeat (first | (with_reducible first | exact HB.out | apply below_alloc | apply pw_below_drewN | apply below_drew1) | exact HB.out)); (case side2 => exact Kd.R_tight rfl HO_6.out); rintro e w32 ⟨rfl, hy0, hb, hkp⟩; refine ⟨_, rfl, ?_⟩; have n0_ := Aside0.mk (Kd.R_mono (ok' := fun k_ => some k_ ≠ (v114 : Value).ownBlock) (Kd.R_keptB ((Kd.R_apart' HO_4.out (Kd.R_typed HO_6.out) (by decide))) hkp (fun k_ hk_ hs_ => (hk_.2) hs_)) (fun k_ hk_ => hk_.1.1)); have n1_ := Aside0.mk (Kd.R_reok rfl hy0 (fun k_ e_ => HO_6.out.1 k_ e_)); have n2_ := Aside0.mk (Kd.R_mono (ok' := fun k_ => some k_ ≠ (v107 : Value).ownBlock) (Kd.R_keptB ((Kd.R_apart' HO_7.out (Kd.R_typed HO_6.out) (by decide))) hkp (fun k_ hk_ hs_ => (hk_.2) hs_)) (fun k_ hk_ => hk_.1.1)); have n3_ := Aside0.mk (Kd.R_mono (ok' := fun k_ => some k_ ≠ (.slice Ao13 t109.length co13 : Value).ownBlock) (Kd.R_keptB (HO119.out) hkp (fun k_ hk_ hs_ => (hk_.2) hs_)) (fun k_ hk_ => hk_.1.2)); have n4_ := Aside0.mk (hb); clear HO_4; clear HO_6; clear HO_7; clear HO119; clear HB; have HO_4 := n0_; have HO_6 := n1_; have HO_7 := n2_; have HO119 := n3_; have HB := n4_; clear n0_ n1_ n2_ n3_ n4_; (try clear hb); (try clear hkp); (try clear hy0)))
      (try simp only [Act.put, List.setIfInBounds_toArray, List.set_cons_zero, List.set_cons_succ])
      go_cut [61] (fun v61 wc => ∃ (kq : Nat) (x61_27 : Bool), v61 = .bool x61_27 ∧ Aside0 (laws_FnExactPappusOf.j1 kq l0 t105 t106 t112 x61_27 = some true) ∧ Aside0 (kq ≤ kj7) ∧ Aside0 (Kd.R k72 72 wc w.heap.size (fun k_ => some k_ ≠ (v114 : Value).ownBlock) v107 t105) ∧ Aside0 (Kd.R k72 72 wc w.heap.size (fun k_ => some k_ ≠ (v107 : Value).ownBlock) v114 t112) ∧ Aside0 (Below w.heap.size w wc))
      case first =>
       have H := HC28.out
       clear HC28
       by_cases c33 : t121 < 0
       ·rw [if_pos c33] at H
        have c33b0 : decide (t121 < 0) = true := decide_eq_true c33
        clear c33
        (first | rw [c33b0] | (simp only [i64_w, i32_w]; rw [c33b0]) | skip)
        have H' := Aside0.mk H
        clear H
        go_wp2
        go_meet
        case rel => exact ⟨_, (true), (by first | rfl | (simp; done) | (simp [*]; done)), H', ⟨by have := HJ7.out; first | omega | exact Nat.le_refl _⟩, ⟨by (with_reducible repeat (first | apply Kd.R_alloc | apply Kd.R_drewN | apply Kd.R_drew)); exact HO_4.out⟩, ⟨by (with_reducible repeat (first | apply Kd.R_alloc | apply Kd.R_drewN | apply Kd.R_drew)); exact HO_7.out⟩, ⟨by repeat (first | (with_reducible first | exact HB.out | apply below_alloc | apply pw_below_drewN | apply below_drew1) | exact HB.out)⟩⟩
       ·rw [if_neg c33] at H
        have c33b0 : decide (t121 < 0) = false := decide_eq_false c33
        clear c33
        (first | rw [c33b0] | (simp only [i64_w, i32_w]; rw [c33b0]) | skip)
        replace H := Option.bind_eq_some_iff.mp H
        obtain ⟨t123, A340, H⟩ := H
        replace H : (if t123 = true then (laws_FnExactPappusOf.j1 kj7 l0 t105 t106 t112 (t113 != t106)) else (laws_FnExactPappusOf.j1 kj7 l0 t105 t106 t112 true)) = some true := H
        have A34 := Aside0.mk A340
        clear A340
        by_cases c35 : t123 = true
        ·subst c35
         have H1 : (laws_FnExactPappusOf.j1 kj7 l0 t105 t106 t112 (t113 != t106)) = some true := by rw [if_pos rfl] at H; exact H
         clear H
         have H := H1
         clear H1
         have H' := Aside0.mk H
         clear H
         obtain ⟨Ao36, co36, eo36⟩ := Kd.R_slice HO_7.out
         subst eo36
         obtain ⟨Ao37, co37, eo37⟩ := Kd.R_slice HO_4.out
         subst eo37
         go_wp2_with (first | (go_at_call 70; (with_reducible refine (laws_eqTripleS.calls kj7 _ _ t112 _ _ t105 true _ ?side1 ?side2 ?side3 ?side4 A34.out).mono ?_); (case side1 => repeat (first | exact (Kd.R_reads' HO_7.out).2.2 | (with_reducible refine Kd.C_alloc ?_ _) | (with_reducible refine Kd.C_drewN ?_ _) | (with_reducible refine Kd.C_drew ?_))); (case side2 => exact (Kd.R_reads' HO_7.out).2.1); (case side3 => repeat (first | exact (Kd.R_reads' HO_4.out).2.2 | (with_reducible refine Kd.C_alloc ?_ _) | (with_reducible refine Kd.C_drewN ?_ _) | (with_reducible refine Kd.C_drew ?_))); (case side4 => exact (Kd.R_reads' HO_4.out).2.1); rintro e w38 ⟨rfl, hb⟩; have n0_ := Aside0.mk (Kd.R_below (by (with_reducible repeat (first | apply Kd.R_alloc | apply Kd.R_drewN | apply Kd.R_drew)); exact HO_4.out) hb); have n1_ := Aside0.mk (Kd.R_below (by (with_reducible repeat (first | apply Kd.R_alloc | apply Kd.R_drewN | apply Kd.R_drew)); exact HO_6.out) hb); have n2_ := Aside0.mk (Kd.R_below (by (with_reducible repeat (first | apply Kd.R_alloc | apply Kd.R_drewN | apply Kd.R_drew)); exact HO_7.out) hb); have n3_ := Aside0.mk (Kd.R_below (by (with_reducible repeat (first | apply Kd.R_alloc | apply Kd.R_drewN | apply Kd.R_drew)); exact HO119.out) hb); have n4_ := Aside0.mk (below_step (by repeat (first | (with_reducible first | exact HB.out | apply below_alloc | apply pw_below_drewN | apply below_drew1) | exact HB.out)) hb); clear HO_4; clear HO_6; clear HO_7; clear HO119; clear HB; have HO_4 := n0_; have HO_6 := n1_; have HO_7 := n2_; have HO119 := n3_; have HB := n4_; clear n0_ n1_ n2_ n3_ n4_; (try clear hb); (try clear hb2); (try clear hk); (try clear hi)))
         go_meet
         case rel => exact ⟨_, ((t113 != t106)), (by first | rfl | (simp; done) | (simp [*]; done)), H', ⟨by have := HJ7.out; first | omega | exact Nat.le_refl _⟩, ⟨by (with_reducible repeat (first | apply Kd.R_alloc | apply Kd.R_drewN | apply Kd.R_drew)); exact HO_4.out⟩, ⟨by (with_reducible repeat (first | apply Kd.R_alloc | apply Kd.R_drewN | apply Kd.R_drew)); exact HO_7.out⟩, ⟨by repeat (first | (with_reducible first | exact HB.out | apply below_alloc | apply pw_below_drewN | apply below_drew1) | exact HB.out)⟩⟩
        ·replace c35 := Bool.eq_false_iff.mpr c35
         subst c35
         have H1 : (laws_FnExactPappusOf.j1 kj7 l0 t105 t106 t112 true) = some true := by rw [if_neg (show ¬ (false = true) by decide)] at H; exact H
         clear H
         have H := H1
         clear H1
         have H' := Aside0.mk H
         clear H
         obtain ⟨Ao39, co39, eo39⟩ := Kd.R_slice HO_7.out
         subst eo39
         obtain ⟨Ao40, co40, eo40⟩ := Kd.R_slice HO_4.out
         subst eo40
         go_wp2_with (first | (go_at_call 70; (with_reducible refine (laws_eqTripleS.calls kj7 _ _ t112 _ _ t105 false _ ?side1 ?side2 ?side3 ?side4 A34.out).mono ?_); (case side1 => repeat (first | exact (Kd.R_reads' HO_7.out).2.2 | (with_reducible refine Kd.C_alloc ?_ _) | (with_reducible refine Kd.C_drewN ?_ _) | (with_reducible refine Kd.C_drew ?_))); (case side2 => exact (Kd.R_reads' HO_7.out).2.1); (case side3 => repeat (first | exact (Kd.R_reads' HO_4.out).2.2 | (with_reducible refine Kd.C_alloc ?_ _) | (with_reducible refine Kd.C_drewN ?_ _) | (with_reducible refine Kd.C_drew ?_))); (case side4 => exact (Kd.R_reads' HO_4.out).2.1); rintro e w41 ⟨rfl, hb⟩; have n0_ := Aside0.mk (Kd.R_below (by (with_reducible repeat (first | apply Kd.R_alloc | apply Kd.R_drewN | apply Kd.R_drew)); exact HO_4.out) hb); have n1_ := Aside0.mk (Kd.R_below (by (with_reducible repeat (first | apply Kd.R_alloc | apply Kd.R_drewN | apply Kd.R_drew)); exact HO_6.out) hb); have n2_ := Aside0.mk (Kd.R_below (by (with_reducible repeat (first | apply Kd.R_alloc | apply Kd.R_drewN | apply Kd.R_drew)); exact HO_7.out) hb); have n3_ := Aside0.mk (Kd.R_below (by (with_reducible repeat (first | apply Kd.R_alloc | apply Kd.R_drewN | apply Kd.R_drew)); exact HO119.out) hb); have n4_ := Aside0.mk (below_step (by repeat (first | (with_reducible first | exact HB.out | apply below_alloc | apply pw_below_drewN | apply below_drew1) | exact HB.out)) hb); clear HO_4; clear HO_6; clear HO_7; clear HO119; clear HB; have HO_4 := n0_; have HO_6 := n1_; have HO_7 := n2_; have HO119 := n3_; have HB := n4_; clear n0_ n1_ n2_ n3_ n4_; (try clear hb); (try clear hb2); (try clear hk); (try clear hi)))
         go_meet
         case rel => exact ⟨_, (true), (by first | rfl | (simp; done) | (simp [*]; done)), H', ⟨by have := HJ7.out; first | omega | exact Nat.le_refl _⟩, ⟨by (with_reducible repeat (first | apply Kd.R_alloc | apply Kd.R_drewN | apply Kd.R_drew)); exact HO_4.out⟩, ⟨by (with_reducible repeat (first | apply Kd.R_alloc | apply Kd.R_drewN | apply Kd.R_drew)); exact HO_7.out⟩, ⟨by repeat (first | (with_reducible first | exact HB.out | apply below_alloc | apply pw_below_drewN | apply below_drew1) | exact HB.out)⟩⟩
      case rest =>
       clear HC28
       try clear c1
       try clear c2
       try clear p2
       try clear c3
       try clear c3b0
       try clear c6
       try clear c7
       try clear c12
       try clear c16
       try clear c23
       try clear c26
       try clear c33
       try clear c33b0
       try clear c35
       try clear p2
       obtain ⟨kq, x61_27, rfl, HA, HJ27, HO_4, HO_7, HB⟩ := hcut
       cases kq with
       | zero => exact absurd HA.out (by simp [laws_FnExactPappusOf.j1])
       | succ kj27 =>
        have H := HA.out
        clear HA
        simp only [laws_FnExactPappusOf.j1] at H
        by_cases c42 : x61_27 = true
        ·subst c42
         have H1 : (some false) = some true := by rw [if_pos rfl] at H; exact H
         clear H
         have H := H1
         clear H1
         exact absurd H (by simp)
        ·replace c42 := Bool.eq_false_iff.mpr c42
         subst c42
         have H1 : ((laws_markTripleS.f kj27 t112 1).bind fun bt124 => ((laws_heldTripleS.f kj27 bt124.2 1).bind fun t126 => (if t126 < 0 then (some false) else (if t126 = bt124.1 then ((laws_toPointS.f kj27 l0).bind fun t127 => ((impl_PappusOf.f kj27 t127).bind fun bt130 => ((laws_eqTripleS.f kj27 bt130.1 t105).bind fun t134 => (if t134 = true then (laws_FnExactPappusOf.j2 kj27 bt124.2 bt124.1 (bt130.2 != t106)) else (laws_FnExactPappusOf.j2 kj27 bt124.2 bt124.1 true))))) else (some false))))) = some true := by rw [if_neg (show ¬ (false = true) by decide)] at H; exact H
         clear H
         have H := H1
         clear H1
         replace H := Option.bind_eq_some_iff.mp H
         obtain ⟨⟨t124, t125⟩, A430, H⟩ := H
         replace H : ((laws_heldTripleS.f kj27 t125 1).bind fun t126 => (if t126 < 0 then (some false) else (if t126 = t124 then ((laws_toPointS.f kj27 l0).bind fun t127 => ((impl_PappusOf.f kj27 t127).bind fun bt130 => ((laws_eqTripleS.f kj27 bt130.1 t105).bind fun t134 => (if t134 = true then (laws_FnExactPappusOf.j2 kj27 t125 t124 (bt130.2 != t106)) else (laws_FnExactPappusOf.j2 kj27 t125 t124 true))))) else (some false)))) = some true := H
         have A43 := Aside0.mk A430
         clear A430
         replace H := Option.bind_eq_some_iff.mp H
         obtain ⟨t126, A440, H⟩ := H
         replace H : (if t126 < 0 then (some false) else (if t126 = t124 then ((laws_toPointS.f kj27 l0).bind fun t127 => ((impl_PappusOf.f kj27 t127).bind fun bt130 => ((laws_eqTripleS.f kj27 bt130.1 t105).bind fun t134 => (if t134 = true then (laws_FnExactPappusOf.j2 kj27 t125 t124 (bt130.2 != t106)) else (laws_FnExactPappusOf.j2 kj27 t125 t124 true))))) else (some false))) = some true := H
         have A44 := Aside0.mk A440
         clear A440
         by_cases c45 : t126 < 0
         ·rw [if_pos c45] at H
          have c45b0 : decide (t126 < 0) = true := decide_eq_true c45
          clear c45
          exact absurd H (by simp)
         ·rw [if_neg c45] at H
          have c45b0 : decide (t126 < 0) = false := decide_eq_false c45
          clear c45
          by_cases c48 : t126 = t124
          ·rw [if_pos c48] at H
           have c48b0 : (t126 == t124) = true := beq_iff_eq.mpr c48
           have c48b1 : (t126 != t124) = false := bne_eq_false_iff_eq.mpr c48
           clear c48
           replace H := Option.bind_eq_some_iff.mp H
           obtain ⟨t127, A490, H⟩ := H
           replace H : ((impl_PappusOf.f kj27 t127).bind fun bt130 => ((laws_eqTripleS.f kj27 bt130.1 t105).bind fun t134 => (if t134 = true then (laws_FnExactPappusOf.j2 kj27 t125 t124 (bt130.2 != t106)) else (laws_FnExactPappusOf.j2 kj27 t125 t124 true)))) = some true := H
           have A49 := Aside0.mk A490
           clear A490
           replace H := Option.bind_eq_some_iff.mp H
           obtain ⟨⟨t130, t131⟩, A500, H⟩ := H
           replace H : ((laws_eqTripleS.f kj27 t130 t105).bind fun t134 => (if t134 = true then (laws_FnExactPappusOf.j2 kj27 t125 t124 (t131 != t106)) else (laws_FnExactPappusOf.j2 kj27 t125 t124 true))) = some true := H
           have A50 := Aside0.mk A500
           clear A500
           have HC51 := Aside0.mk H
           clear H
           obtain ⟨Ao52, co52, eo52⟩ := Kd.R_slice HO_7.out
           subst eo52
           go_upto_region 25 with (first | ((with_reducible refine gate_callee (f := 72) rfl ?_); refine goesL_ (some 64) rfl rfl Try.func72 (by kernel_rfl) rfl #[.slice Ao52 t112.length co52, .int .i64 1] rfl (by (try simp only [List.map_toArray, List.map_cons, List.map_nil]); first | done | rfl | (simp only [List.length_drop, List.length_take]; rfl)) ?_; (with_reducible refine (laws_markTripleS.calls kj27 (fun k_ => some k_ = (.slice Ao52 t112.length co52 : Value).ownBlock) (.slice Ao52 t112.length co52) t112 1 t124 t125 w _ ?side1 ?side2 A43.out).mono ?_); (case side1 => repeat (first | (with_reducible first | exact HB.out | apply below_alloc | apply pw_below_drewN | apply below_drew1) | exact HB.out)); (case side2 => exact Kd.R_tight rfl HO_7.out); rintro e w53 ⟨rfl, hy0, hb, hkp⟩; refine ⟨_, rfl, ?_⟩; have n0_ := Aside0.mk (Kd.R_mono (ok' := fun k_ => some k_ ≠ (.slice Ao52 t112.length co52 : Value).ownBlock) (Kd.R_keptB (HO_4.out) hkp (fun k_ hk_ hs_ => (hk_) hs_)) (fun k_ hk_ => hk_.1)); have n1_ := Aside0.mk (Kd.R_reok rfl hy0 (fun k_ e_ => HO_7.out.1 k_ e_)); have n2_ := Aside0.mk (hb); clear HO_4; clear HO_7; clear HB; have HO_4 := n0_; have HO_7 := n1_; have HB := n2_; clear n0_ n1_ n2_; (try clear hb); (try clear hkp); (try clear hy0)) | ((with_reducible refine gate_callee (f := 73) rfl ?_); refine goesL_ (some 67) rfl rfl Try.func73 (by kernel_rfl) rfl #[.slice Ao52 t125.length co52, .int .i64 1] rfl (by (try simp only [List.map_toArray, List.map_cons, List.map_nil]); first | done | (rw [show t125.length = t112.length from (Kd.R_reads' HO_7.out).1.symm] <;> rfl) | rfl | (simp only [List.length_drop, List.length_take]; rfl)) ?_; (with_reducible refine (laws_heldTripleS.calls kj27 _ _ t125 1 t126 _ ?side1 ?side2 A44.out).mono ?_); (case side1 => repeat (first | exact (Kd.R_reads' HO_7.out).2.2 | (with_reducible refine Kd.C_alloc ?_ _) | (with_reducible refine Kd.C_drewN ?_ _) | (with_reducible refine Kd.C_drew ?_))); (case side2 => rw [show t125.length = t112.length from (Kd.R_reads' HO_7.out).1.symm]; exact (Kd.R_reads' HO_7.out).2.1); rintro e w' ⟨rfl, ⟨nd, rfl⟩⟩; refine ⟨_, rfl, ?_⟩) | ((with_reducible refine gate_callee (f := 65) rfl ?_); refine goesL_ (some 75) rfl rfl Try.func65 (by kernel_rfl) rfl #[.slice A0 l0.length c0] rfl (by (try simp only [List.map_toArray, List.map_cons, List.map_nil]); first | done | rfl | (simp only [List.length_drop, List.length_take]; rfl)) ?_; (with_reducible refine (laws_toPointS.calls kj27 _ _ l0 t127 _ ?side1 ?side2 A49.out).mono ?_); (case side1 => repeat (first | exact (Kd.C_below HR0.out (by repeat (first | (with_reducible first | exact HB.out | apply below_alloc | apply pw_below_drewN | apply below_drew1) | exact HB.out))) | (with_reducible refine Kd.C_alloc ?_ _) | (with_reducible refine Kd.C_drewN ?_ _) | (with_reducible refine Kd.C_drew ?_))); (case side2 => exact HC0.out); rintro e w54 ⟨v128, rfl, ho0, hb⟩; refine ⟨_, rfl, ?_⟩; have n0_ := Aside0.mk (Kd.R_below (by (with_reducible repeat (first | apply Kd.R_alloc | apply Kd.R_drewN | apply Kd.R_drew)); exact HO_4.out) hb); have n1_ := Aside0.mk (Kd.R_below (by (with_reducible repeat (first | apply Kd.R_alloc | apply Kd.R_drewN | apply Kd.R_drew)); exact HO_7.out) hb); have n2_ := Aside0.mk (Kd.R_lower ho0 (below_size (by repeat (first | (with_reducible first | exact HB.out | apply below_alloc | apply pw_below_drewN | apply below_drew1) | exact HB.out)))); have n3_ := Aside0.mk (below_step (by repeat (first | (with_reducible first | exact HB.out | apply below_alloc | apply pw_below_drewN | apply below_drew1) | exact HB.out)) hb); clear HO_4; clear HO_7; clear HB; have HO_4 := n0_; have HO_7 := n1_; have HO129 := n2_; have HB := n3_; clear n0_ n1_ n2_ n3_; (try clear hb); (try clear hb2); (try clear hk); (try clear hi); (try clear ho0); obtain ⟨Ao55, co55, eo55⟩ := Kd.R_slice HO129.out; subst eo55) | ((with_reducible refine gate_callee (f := 69) rfl ?_); refine goesL_ (some 76) rfl rfl Try.func69 (by kernel_rfl) rfl #[.slice Ao55 t127.length co55] rfl (by (try simp only [List.map_toArray, List.map_cons, List.map_nil]); first | done | rfl | (simp only [List.length_drop, List.length_take]; rfl)) ?_; (with_reducible refine (impl_PappusOf.calls kj27 _ _ t127 t130 t131 _ ?side1 ?side2 A50.out).mono ?_); (case side1 => repeat (first | exact (Kd.R_reads' HO129.out).2.2 | (with_reducible refine Kd.C_alloc ?_ _) | (with_reducible refine Kd.C_drewN ?_ _) | (with_reducible refine Kd.C_drew ?_))); (case side2 => exact (Kd.R_reads' HO129.out).2.1); rintro e w56 ⟨v132, rfl, ho0, hb⟩; refine ⟨_, rfl, ?_⟩; have n0_ := Aside0.mk (Kd.R_elder' (by (with_reducible repeat (first | apply Kd.R_alloc | apply Kd.R_drewN | apply Kd.R_drew)); exact HO_4.out) (Kd.R_base ho0) hb); have n1_ := Aside0.mk (Kd.R_elder' (by (with_reducible repeat (first | apply Kd.R_alloc | apply Kd.R_drewN | apply Kd.R_drew)); exact HO_7.out) (Kd.R_base ho0) hb); have n2_ := Aside0.mk (Kd.R_below (by (with_reducible repeat (first | apply Kd.R_alloc | apply Kd.R_drewN | apply Kd.R_drew)); exact HO129.out) hb); have n3_ := Aside0.mk (Kd.R_lower (Kd.R_new' (Kd.R_new' ho0 (Kd.R_lt (by (with_reducible repeat (first | apply Kd.R_alloc | apply Kd.R_drewN | apply Kd.R_drew)); exact HO_4.out))) (Kd.R_lt (by (with_reducible repeat (first | apply Kd.R_alloc | apply Kd.R_drewN | apply Kd.R_drew)); exact HO_7.out))) (below_size (by repeat (first | (with_reducible first | exact HB.out | apply below_alloc | apply pw_below_drewN | apply below_drew1) | exact HB.out)))); have n4_ := Aside0.mk (below_step (by repeat (first | (with_reducible first | exact HB.out | apply below_alloc | apply pw_below_drewN | apply below_drew1) | exact HB.out)) hb); clear HO_4; clear HO_7; clear HO129; clear HB; have HO_4 := n0_; have HO_7 := n1_; have HO129 := n2_; have HO133 := n3_; have HB := n4_; clear n0_ n1_ n2_ n3_ n4_; (try clear hb); (try clear hb2); (try clear hk); (try clear hi); (try clear ho0)))
           (try simp only [Act.put, List.setIfInBounds_toArray, List.set_cons_zero, List.set_cons_succ])
           go_cut [87] (fun v87 wc => ∃ (kq : Nat) (x87_50 : Bool), v87 = .bool x87_50 ∧ Aside0 (laws_FnExactPappusOf.j2 kq t125 t124 x87_50 = some true) ∧ Aside0 (kq ≤ kj27) ∧ Aside0 (Kd.R k72 72 wc w.heap.size (fun _ => True) (.slice Ao52 t112.length co52) t125) ∧ Aside0 (Below w.heap.size w wc))
           case first =>
            have H := HC51.out
            clear HC51
            replace H := Option.bind_eq_some_iff.mp H
            obtain ⟨t134, A570, H⟩ := H
            replace H : (if t134 = true then (laws_FnExactPappusOf.j2 kj27 t125 t124 (t131 != t106)) else (laws_FnExactPappusOf.j2 kj27 t125 t124 true)) = some true := H
            have A57 := Aside0.mk A570
            clear A570
            by_cases c58 : t134 = true
            ·subst c58
             have H1 : (laws_FnExactPappusOf.j2 kj27 t125 t124 (t131 != t106)) = some true := by rw [if_pos rfl] at H; exact H
             clear H
             have H := H1
             clear H1
             have H' := Aside0.mk H
             clear H
             obtain ⟨Ao59, co59, eo59⟩ := Kd.R_slice HO133.out
             subst eo59
             obtain ⟨Ao60, co60, eo60⟩ := Kd.R_slice HO_4.out
             subst eo60
             go_wp2_with (first | ((with_reducible refine gate_callee (f := 70) rfl ?_); refine goesL_ (some 81) rfl rfl Try.func70 (by kernel_rfl) rfl #[.slice Ao59 t130.length co59, .slice Ao60 t105.length co60] rfl (by (try simp only [List.map_toArray, List.map_cons, List.map_nil]); first | done | rfl | (simp only [List.length_drop, List.length_take]; rfl)) ?_; (with_reducible refine (laws_eqTripleS.calls kj27 _ _ t130 _ _ t105 true _ ?side1 ?side2 ?side3 ?side4 A57.out).mono ?_); (case side1 => repeat (first | exact (Kd.R_reads' HO133.out).2.2 | (with_reducible refine Kd.C_alloc ?_ _) | (with_reducible refine Kd.C_drewN ?_ _) | (with_reducible refine Kd.C_drew ?_))); (case side2 => exact (Kd.R_reads' HO133.out).2.1); (case side3 => repeat (first | exact (Kd.R_reads' HO_4.out).2.2 | (with_reducible refine Kd.C_alloc ?_ _) | (with_reducible refine Kd.C_drewN ?_ _) | (with_reducible refine Kd.C_drew ?_))); (case side4 => exact (Kd.R_reads' HO_4.out).2.1); rintro e w61 ⟨rfl, hb⟩; refine ⟨_, rfl, ?_⟩; have n0_ := Aside0.mk (Kd.R_below (by (with_reducible repeat (first | apply Kd.R_alloc | apply Kd.R_drewN | apply Kd.R_drew)); exact HO_4.out) hb); have n1_ := Aside0.mk (Kd.R_below (by (with_reducible repeat (first | apply Kd.R_alloc | apply Kd.R_drewN | apply Kd.R_drew)); exact HO_7.out) hb); have n2_ := Aside0.mk (Kd.R_below (by (with_reducible repeat (first | apply Kd.R_alloc | apply Kd.R_drewN | apply Kd.R_drew)); exact HO129.out) hb); have n3_ := Aside0.mk (Kd.R_below (by (with_reducible repeat (first | apply Kd.R_alloc | apply Kd.R_drewN | apply Kd.R_drew)); exact HO133.out) hb); have n4_ := Aside0.mk (below_step (by repeat (first | (with_reducible first | exact HB.out | apply below_alloc | apply pw_below_drewN | apply below_drew1) | exact HB.out)) hb); clear HO_4; clear HO_7; clear HO129; clear HO133; clear HB; have HO_4 := n0_; have HO_7 := n1_; have HO129 := n2_; have HO133 := n3_; have HB := n4_; clear n0_ n1_ n2_ n3_ n4_; (try clear hb); (try clear hb2); (try clear hk); (try clear hi)))
             go_meet
             case rel => exact ⟨_, ((t131 != t106)), (by first | rfl | (simp; done) | (simp [*]; done)), H', ⟨by have := HJ7.out; have := HJ27.out; first | omega | exact Nat.le_refl _⟩, ⟨by (with_reducible repeat (first | apply Kd.R_alloc | apply Kd.R_drewN | apply Kd.R_drew)); exact Kd.R_mono HO_7.out (fun _ hk => trivial)⟩, ⟨by repeat (first | (with_reducible first | exact HB.out | apply below_alloc | apply pw_below_drewN | apply below_drew1) | exact HB.out)⟩⟩
            ·replace c58 := Bool.eq_false_iff.mpr c58
             subst c58
             have H1 : (laws_FnExactPappusOf.j2 kj27 t125 t124 true) = some true := by rw [if_neg (show ¬ (false = true) by decide)] at H; exact H
             clear H
             have H := H1
             clear H1
             have H' := Aside0.mk H
             clear H
             obtain ⟨Ao62, co62, eo62⟩ := Kd.R_slice HO133.out
             subst eo62
             obtain ⟨Ao63, co63, eo63⟩ := Kd.R_slice HO_4.out
             subst eo63
             go_wp2_with (first | ((with_reducible refine gate_callee (f := 70) rfl ?_); refine goesL_ (some 81) rfl rfl Try.func70 (by kernel_rfl) rfl #[.slice Ao62 t130.length co62, .slice Ao63 t105.length co63] rfl (by (try simp only [List.map_toArray, List.map_cons, List.map_nil]); first | done | rfl | (simp only [List.length_drop, List.length_take]; rfl)) ?_; (with_reducible refine (laws_eqTripleS.calls kj27 _ _ t130 _ _ t105 false _ ?side1 ?side2 ?side3 ?side4 A57.out).mono ?_); (case side1 => repeat (first | exact (Kd.R_reads' HO133.out).2.2 | (with_reducible refine Kd.C_alloc ?_ _) | (with_reducible refine Kd.C_drewN ?_ _) | (with_reducible refine Kd.C_drew ?_))); (case side2 => exact (Kd.R_reads' HO133.out).2.1); (case side3 => repeat (first | exact (Kd.R_reads' HO_4.out).2.2 | (with_reducible refine Kd.C_alloc ?_ _) | (with_reducible refine Kd.C_drewN ?_ _) | (with_reducible refine Kd.C_drew ?_))); (case side4 => exact (Kd.R_reads' HO_4.out).2.1); rintro e w64 ⟨rfl, hb⟩; refine ⟨_, rfl, ?_⟩; have n0_ := Aside0.mk (Kd.R_below (by (with_reducible repeat (first | apply Kd.R_alloc | apply Kd.R_drewN | apply Kd.R_drew)); exact HO_4.out) hb); have n1_ := Aside0.mk (Kd.R_below (by (with_reducible repeat (first | apply Kd.R_alloc | apply Kd.R_drewN | apply Kd.R_drew)); exact HO_7.out) hb); have n2_ := Aside0.mk (Kd.R_below (by (with_reducible repeat (first | apply Kd.R_alloc | apply Kd.R_drewN | apply Kd.R_drew)); exact HO129.out) hb); have n3_ := Aside0.mk (Kd.R_below (by (with_reducible repeat (first | apply Kd.R_alloc | apply Kd.R_drewN | apply Kd.R_drew)); exact HO133.out) hb); have n4_ := Aside0.mk (below_step (by repeat (first | (with_reducible first | exact HB.out | apply below_alloc | apply pw_below_drewN | apply below_drew1) | exact HB.out)) hb); clear HO_4; clear HO_7; clear HO129; clear HO133; clear HB; have HO_4 := n0_; have HO_7 := n1_; have HO129 := n2_; have HO133 := n3_; have HB := n4_; clear n0_ n1_ n2_ n3_ n4_; (try clear hb); (try clear hb2); (try clear hk); (try clear hi)))
             go_meet
             case rel => exact ⟨_, (true), (by first | rfl | (simp; done) | (simp [*]; done)), H', ⟨by have := HJ7.out; have := HJ27.out; first | omega | exact Nat.le_refl _⟩, ⟨by (with_reducible repeat (first | apply Kd.R_alloc | apply Kd.R_drewN | apply Kd.R_drew)); exact Kd.R_mono HO_7.out (fun _ hk => trivial)⟩, ⟨by repeat (first | (with_reducible first | exact HB.out | apply below_alloc | apply pw_below_drewN | apply below_drew1) | exact HB.out)⟩⟩
           case rest =>
            clear HC51
            try clear c1
            try clear c2
            try clear p2
            try clear c3
            try clear c3b0
            try clear c4
            try clear c5
            try clear c6
            try clear c7
            try clear c12
            try clear c16
            try clear c23
            try clear c26
            try clear c33
            try clear c33b0
            try clear c35
            try clear c42
            try clear c45
            try clear c45b0
            try clear c48
            try clear c48b0
            try clear c48b1
            try clear c58
            try clear c63
            try clear p2
            obtain ⟨kq, x87_50, rfl, HA, HJ50, HO_7, HB⟩ := hcut
            have hl7_50 := (Kd.R_reads' HO_7.out).1
            rw [hl7_50] at HO_7
            (try simp only [hl7_50])
            cases kq with
            | zero => exact absurd HA.out (by simp [laws_FnExactPappusOf.j2])
            | succ kj50 =>
             have H := HA.out
             clear HA
             simp only [laws_FnExactPappusOf.j2] at H
             by_cases c65 : x87_50 = true
             ·subst c65
              have H1 : (some false) = some true := by rw [if_pos rfl] at H; exact H
              clear H
              have H := H1
              clear H1
              exact absurd H (by simp)
             ·replace c65 := Bool.eq_false_iff.mpr c65
              subst c65
              have H1 : ((laws_heldTripleS.f kj50 t125 1).bind fun t135 => (if t135 < 0 then (some false) else (if t135 = t124 then (some true) else (some false)))) = some true := by rw [if_neg (show ¬ (false = true) by decide)] at H; exact H
              clear H
              have H := H1
              clear H1
              replace H := Option.bind_eq_some_iff.mp H
              obtain ⟨t135, A660, H⟩ := H
              replace H : (if t135 < 0 then (some false) else (if t135 = t124 then (some true) else (some false))) = some true := H
              have A66 := Aside0.mk A660
              clear A660
              by_cases c67 : t135 < 0
              ·rw [if_pos c67] at H
               have c67b0 : decide (t135 < 0) = true := decide_eq_true c67
               clear c67
               exact absurd H (by simp)
              ·rw [if_neg c67] at H
               have c67b0 : decide (t135 < 0) = false := decide_eq_false c67
               clear c67
               by_cases c68 : t135 = t124
               ·rw [if_pos c68] at H
                have c68b0 : (t135 == t124) = true := beq_iff_eq.mpr c68
                have c68b1 : (t135 != t124) = false := bne_eq_false_iff_eq.mpr c68
                clear c68
                clear H
                go_wp2_with (first | ((with_reducible refine gate_callee (f := 73) rfl ?_); refine goesL_ (some 90) rfl rfl Try.func73 (by kernel_rfl) rfl #[.slice Ao52 t125.length co52, .int .i64 1] rfl (by (try simp only [List.map_toArray, List.map_cons, List.map_nil]); first | done | rfl | (simp only [List.length_drop, List.length_take]; rfl)) ?_; (with_reducible refine (laws_heldTripleS.calls kj50 _ _ t125 1 t135 _ ?side1 ?side2 A66.out).mono ?_); (case side1 => repeat (first | exact (Kd.R_reads' HO_7.out).2.2 | (with_reducible refine Kd.C_alloc ?_ _) | (with_reducible refine Kd.C_drewN ?_ _) | (with_reducible refine Kd.C_drew ?_))); (case side2 => exact (Kd.R_reads' HO_7.out).2.1); rintro e w' ⟨rfl, ⟨nd, rfl⟩⟩; refine ⟨_, rfl, ?_⟩))
                go_ret
                exact ⟨by first | rfl | (simp [errW_none, errW_some] <;> rfl) | (simp [*, errW_none, errW_some] <;> rfl), by repeat (first | (with_reducible first | exact HB.out | apply below_alloc | apply pw_below_drewN | apply below_drew1) | exact HB.out)⟩
               ·rw [if_neg c68] at H
                have c68b0 : (t135 == t124) = false := beq_eq_false_iff_ne.mpr c68
                have c68b1 : (t135 != t124) = true := bne_iff_ne.mpr c68
                exact absurd H (by simp)
          ·rw [if_neg c48] at H
           have c48b0 : (t126 == t124) = false := beq_eq_false_iff_ne.mpr c48
           have c48b1 : (t126 != t124) = true := bne_iff_ne.mpr c48
           exact absurd H (by simp)
     ·replace c26 := Bool.eq_false_iff.mpr c26
      subst c26
      have H1 : (some false) = some true := by rw [if_neg (show ¬ (false = true) by decide)] at H; exact H
      clear H
      have H := H1
      clear H1
      exact absurd H (by simp)
/-- THE ONE PURE STATEMENT of laws_FnExactPappusOf. -/
def laws_FnExactPappusOf.Pure : Prop := ∀ (x0 : List (S114)), (x0.length ≤ maxLen ∧ ∀ y0 ∈ x0, ((Lit.int .i64 y0.f0).wf = true ∧ (Lit.int .i64 y0.f1).wf = true)) → ∃ k, laws_FnExactPappusOf.f k x0 = some true

end Go.Proofs.Ytldcckcljjlglaa.P

namespace Go.Proofs.Ytldcckcljjlglaa.Com
open Go.RowKit Go.Proofs.YtldcckcljjlglaaW.PrintWords
set_option linter.unusedSimpArgs false
set_option linter.unusedVariables false

theorem w64 {x : Int} (h0 : -9223372036854775808 ≤ x) (h1 : x ≤ 9223372036854775807) : wrap64 x = x := by unfold wrap64; omega
theorem set_take_succ {α : Type} (l : List α) (n : Nat) (v : α) (h : n < l.length) : (l.set n v).take (n + 1) = l.take n ++ [v] := by
  rw [List.take_succ_eq_append_getElem (by simpa using h), List.take_set_of_le (Nat.le_refl n)]; simp
theorem drop_cons {α : Type} (l : List α) (n : Nat) (d : α) (h : n < l.length) : l.drop n = l.getD n d :: l.drop (n + 1) := by
  rw [List.drop_eq_getElem_cons h]; simp [List.getD, List.getElem?_eq_getElem h]
theorem getD_set {α : Type} (l : List α) (n : Nat) (d v : α) (h : n < l.length) : (l.set n v).getD n d = v := by
  simp [List.getD, List.getElem?_set, h]
theorem getD_mem {α : Type} (l : List α) (n : Nat) (d : α) (h : n < l.length) : l.getD n d ∈ l := by
  simp [List.getD, List.getElem?_eq_getElem h]
theorem getD_map {α β : Type} (f : α → β) (l : List α) (n : Nat) (d : α) (e : β) (h : n < l.length) : (l.map f).getD n e = f (l.getD n d) := by
  simp [List.getD, h]
theorem succ_of_lt {d k : Nat} (h : d < k) : ∃ m, k = m + 1 ∧ d ≤ m := ⟨k - 1, by omega, by omega⟩
theorem Ev.iteT {α : Type} {c : Prop} [Decidable c] {g f : Nat → Option α} {r : α} (hc : c) (h : Ev g r) : Ev (fun k => if c then g k else f k) r := by simpa only [if_pos hc] using h
theorem Ev.iteF {α : Type} {c : Prop} [Decidable c] {g f : Nat → Option α} {r : α} (hc : ¬ c) (h : Ev f r) : Ev (fun k => if c then g k else f k) r := by simpa only [if_neg hc] using h
theorem Ev.const {α : Type} {o : Option α} {r : α} (h : o = some r) : Ev (fun _ => o) r := ⟨0, fun _ _ => h⟩
/-- Rounds enough, told by a bound. -/
theorem Ev.from {α : Type} {g : Nat → Option α} {r : α} (K : Nat) (h : ∀ k, K ≤ k → g k = some r) : Ev g r := ⟨K, h⟩
theorem Ev.bind0 {α β : Type} {o : Option α} {f : Nat → α → Option β} {a : α} {r : β} (h : o = some a) (k : Ev (fun n => f n a) r) : Ev (fun n => o.bind (f n)) r := Ev.bind ⟨0, fun _ _ => h⟩ k
end Go.Proofs.Ytldcckcljjlglaa.Com

namespace Go.Proofs.Ytldcckcljjlglaa.Pure
open Go.RowKit Go.Proofs.Ytldcckcljjlglaa.P Go.Proofs.YtldcckcljjlglaaW.PrintWords Go.Proofs.YtldcckcljjlglaaW.PrintLast
set_option linter.unusedSimpArgs false
set_option linter.unusedVariables false
open Go.Proofs.Ytldcckcljjlglaa.Com
def convPoint (x : S114) : S80 := ⟨x.f0, x.f1⟩
theorem toPointS_l0 (l : List S114) (hm : l.length ≤ 1099511627776) (d : Nat) : ∀ (k : Nat) (i : Int) (out : List S80), 0 ≤ i → i + d = l.length → out.length = l.length → d < k →
    laws_toPointS.l0 k l out i = some (out.take i.toNat ++ (l.drop i.toNat).map convPoint) := by
  induction d with
  | zero =>
    intro k i out h0 hi ho hk
    obtain ⟨k, rfl, _⟩ := succ_of_lt hk
    simp only [laws_toPointS.l0]
    rw [if_neg (by omega), List.take_of_length_le (by omega), List.drop_of_length_le (by omega)]; simp
  | succ d ih =>
    intro k i out h0 hi ho hk
    obtain ⟨k, rfl, hk⟩ := succ_of_lt hk
    have hlt : i.toNat < out.length := by omega
    simp only [laws_toPointS.l0]
    rw [if_pos (by omega), if_pos h0]
    simp only [laws_toPoint.f, Option.bind_some]
    rw [if_pos (by omega), w64 (by omega) (by omega), ih k (i + 1) _ (by omega) (by omega) (by simpa using ho) (by omega)]
    rw [show (i + 1).toNat = i.toNat + 1 from by omega, set_take_succ _ _ _ hlt, drop_cons l i.toNat z114 (by omega)]
    simp [convPoint, rd_T114]
theorem toPointS_eq (l : List S114) (hm : l.length ≤ 1048576) : Ev (fun k => laws_toPointS.f k l) (l.map convPoint) := by
  refine ⟨l.length + 1, fun k hk => ?_⟩
  dsimp only
  unfold laws_toPointS.f
  rw [if_pos (by omega), if_pos (by omega), toPointS_l0 l (by omega) l.length k 0 _ (by omega) (by omega) (by simp) (by omega)]
  simp
theorem eqPointS_l0 (a : List S80) (hm : a.length ≤ 1099511627776) (d : Nat) : ∀ (k : Nat) (i : Int), 0 ≤ i → i + d = a.length → d < k → laws_eqPointS.l0 k a a i = some true := by
  induction d with
  | zero =>
    intro k i h0 hi hk
    obtain ⟨k, rfl, _⟩ := succ_of_lt hk
    simp only [laws_eqPointS.l0]
    rw [if_neg (by omega)]
  | succ d ih =>
    intro k i h0 hi hk
    obtain ⟨k, rfl, hk⟩ := succ_of_lt hk
    simp only [laws_eqPointS.l0]
    rw [if_pos (by omega), if_pos h0, if_pos (by omega)]
    simp only [laws_eqPoint.f, if_true, Option.bind_some]
    rw [w64 (by omega) (by omega), ih k (i + 1) (by omega) (by omega) (by omega)]
theorem eqPointS_refl (a : List S80) (hm : a.length ≤ 1099511627776) : Ev (fun k => laws_eqPointS.f k a a) true := by
  refine ⟨a.length + 1, fun k hk => ?_⟩
  dsimp only
  unfold laws_eqPointS.f
  rw [if_pos rfl, eqPointS_l0 a hm a.length k 0 (by omega) (by omega) (by omega)]
end Go.Proofs.Ytldcckcljjlglaa.Pure

namespace Go.Proofs.Ytldcckcljjlglaa.Pure
open Go.RowKit Go.Proofs.Ytldcckcljjlglaa.P Go.Proofs.YtldcckcljjlglaaW.PrintWords Go.Proofs.YtldcckcljjlglaaW.PrintLast Go.Proofs.Ytldcckcljjlglaa.Com
set_option linter.unusedSimpArgs false
set_option linter.unusedVariables false

theorem szPointS_eq (l : List S114) (hm : l.length ≤ maxLen) : laws_szPointS.f l 1048576 = some (if l.length ≤ 1048576 then 1048576 - (l.length : Int) else -1) := by
  unfold maxLen at hm
  unfold laws_szPointS.f
  rw [w64 (by omega) (by omega)]
  by_cases h : l.length ≤ 1048576
  · rw [if_neg (by omega), if_pos h]
  · rw [if_pos (by omega), if_neg h]
end Go.Proofs.Ytldcckcljjlglaa.Pure

namespace Go.Proofs.Ytldcckcljjlglaa.Pure
open Go.RowKit Go.Proofs.Ytldcckcljjlglaa.P Go.Proofs.YtldcckcljjlglaaW.PrintWords Go.Proofs.YtldcckcljjlglaaW.PrintLast Go.Proofs.Ytldcckcljjlglaa.Com
set_option linter.unusedSimpArgs false
set_option linter.unusedVariables false

def inB (n m : Int) : Bool := decide (-m ≤ n ∧ n ≤ m)
theorem inB_iff {n m : Int} : inB n m = true ↔ -m ≤ n ∧ n ≤ m := by simp [inB]
theorem l1In_eq (a lo hi : Int) : spec_l1In.f a lo hi = some (decide (lo ≤ a ∧ a ≤ hi)) := by
  unfold spec_l1In.f
  by_cases h : a ≥ lo
  · rw [if_pos h]; congr 1; simp only [decide_eq_decide]; omega
  · rw [if_neg h]; congr 1; symm; simp only [decide_eq_false_iff_not]; omega
theorem l1In_inB (a m : Int) (h0 : 0 ≤ m) (h1 : m ≤ 4611686018427387904) : spec_l1In.f a (wrap64 (-m)) m = some (inB a m) := by
  rw [w64 (by omega) (by omega), l1In_eq]; rfl
end Go.Proofs.Ytldcckcljjlglaa.Pure

namespace Go.Proofs.Ytldcckcljjlglaa.Pure
open Go.RowKit Go.Proofs.Ytldcckcljjlglaa.P Go.Proofs.YtldcckcljjlglaaW.PrintWords Go.Proofs.YtldcckcljjlglaaW.PrintLast Go.Proofs.Ytldcckcljjlglaa.Com
set_option linter.unusedSimpArgs false
set_option linter.unusedVariables false

theorem farB_eq (n m : Int) (h0 : 0 ≤ m) (h1 : m ≤ 4611686018427387904) : farB n m = !inB n m := by
  unfold farB impl_isFar.f inB
  rw [w64 (by omega) (by omega)]
  by_cases h : n < -m
  · rw [if_pos h, Option.getD_some, Bool.eq_iff_iff]; simp; omega
  · rw [if_neg h, Option.getD_some, Bool.eq_iff_iff]; simp; omega
theorem l2Fits_eq (x y m : Int) (h0 : 0 ≤ m) (h1 : m ≤ 4611686018427387904) : spec_l2Fits.f x y m = some (inB x m && inB y m) := by
  unfold spec_l2Fits.f
  rw [l1In_inB x m h0 h1, l1In_inB y m h0 h1]
  simp only [Option.bind_some]
  cases inB x m <;> simp
theorem areNear_eq (m : Int) (l : List S80) (h0 : 0 ≤ m) (h1 : m ≤ 4611686018427387904) : impl_areNear.f m l = some (l.all fun p => inB p.f0 m && inB p.f1 m) := by
  unfold impl_areNear.f outPoint
  congr 1
  rw [List.not_any_eq_all_not]
  congr 1
  funext p
  rw [farB_eq _ _ h0 h1, farB_eq _ _ h0 h1]
  simp
end Go.Proofs.Ytldcckcljjlglaa.Pure

namespace Go.Proofs.Ytldcckcljjlglaa.Pure
open Go.RowKit Go.Proofs.YtldcckcljjlglaaW.PrintWords Go.Proofs.YtldcckcljjlglaaW.PrintLast Go.Proofs.Ytldcckcljjlglaa.Com
set_option linter.unusedSimpArgs false
set_option linter.unusedVariables false

theorem ww_add_l (x y : Int) : wrap64 (wrap64 x + y) = wrap64 (x + y) := by unfold wrap64; omega
theorem ww_add_r (x y : Int) : wrap64 (x + wrap64 y) = wrap64 (x + y) := by unfold wrap64; omega
theorem ww_sub_l (x y : Int) : wrap64 (wrap64 x - y) = wrap64 (x - y) := by unfold wrap64; omega
theorem ww_sub_r (x y : Int) : wrap64 (x - wrap64 y) = wrap64 (x - y) := by unfold wrap64; omega
theorem ww_neg (x : Int) : wrap64 (-wrap64 x) = wrap64 (-x) := by unfold wrap64; omega
theorem ww (x : Int) : wrap64 (wrap64 x) = wrap64 x := by unfold wrap64; omega
theorem wrap_is (x : Int) : ∃ q : Int, wrap64 x = x + q * 18446744073709551616 := ⟨-((x + 9223372036854775808) / 18446744073709551616), by unfold wrap64; omega⟩
theorem wrap_shift (x q : Int) : wrap64 (x + q * 18446744073709551616) = wrap64 x := by unfold wrap64; omega
theorem ww_mul_l (x y : Int) : wrap64 (wrap64 x * y) = wrap64 (x * y) := by
  obtain ⟨q, h⟩ := wrap_is x
  rw [h, Int.add_mul, Int.mul_assoc q, Int.mul_comm 18446744073709551616 y, ← Int.mul_assoc q, wrap_shift]
theorem ww_mul_r (x y : Int) : wrap64 (x * wrap64 y) = wrap64 (x * y) := by rw [Int.mul_comm, ww_mul_l, Int.mul_comm]
theorem abs_mul_le {a b : Int} {A B : Nat} (ha : a.natAbs ≤ A) (hb : b.natAbs ≤ B) : (a * b).natAbs ≤ A * B := by
  rw [Int.natAbs_mul]; exact Nat.mul_le_mul ha hb
theorem wrap_abs (x : Int) (h : x.natAbs ≤ 4611686018427387904) : wrap64 x = x := by unfold wrap64; omega
end Go.Proofs.Ytldcckcljjlglaa.Pure

namespace Go.Proofs.Ytldcckcljjlglaa.Pure
open Go.RowKit Go.Proofs.Ytldcckcljjlglaa.P Go.Proofs.YtldcckcljjlglaaW.PrintWords Go.Proofs.YtldcckcljjlglaaW.PrintLast Go.Proofs.Ytldcckcljjlglaa.Com
set_option linter.unusedSimpArgs false
set_option linter.unusedVariables false

abbrev Pt := S80
abbrev Tr := S72
def samePt (l : List Pt) (i j : Int) : Bool := (rd_T80 l i).f0 == (rd_T80 l j).f0 && (rd_T80 l i).f1 == (rd_T80 l j).f1
theorem samePt_symm (l : List Pt) (i j : Int) : samePt l i j = samePt l j i := by unfold samePt; rw [BEq.comm (a := (rd_T80 l i).f0), BEq.comm (a := (rd_T80 l i).f1)]
def fits20 (p : Pt) : Bool := inB p.f0 20 && inB p.f1 20
def toT (p : Pt) : Tr := ⟨p.f0, p.f1, 1⟩
/-- No two of the first n points are the same. -/
def apart (l : List Pt) (n : Int) : Prop := ∀ i j : Int, 0 ≤ i → i < j → j < n → samePt l i j = false
def sixP (l : List Pt) : Prop := l.length = 6 ∧ (∀ i : Int, 0 ≤ i → i < l.length → fits20 (rd_T80 l i) = true) ∧ apart l l.length

theorem six_l1_no (l : List Pt) (out : List Tr) (hl : l.length ≤ 1099511627776) (i : Int) (hi0 : 0 ≤ i) (hin : i < l.length) (ho : out.length = i.toNat) (r : List Tr × Bool)
    (h : Ev (fun k => spec_l26Six.l0 k l (out ++ [toT (rd_T80 l i)]) (i + 1)) r) : ∀ (d : Nat) (j : Int), 0 ≤ j → j + d = i → (∀ m, j ≤ m → m < i → samePt l m i = false) → Ev (fun k => spec_l26Six.l1 k l out i j) r := by
  intro d
  induction d with
  | zero =>
    intro j h0 hd _
    refine Ev.step (fun k => ?_) h
    simp only [spec_l26Six.l1, spec_TripleOf.f, Option.bind_some]
    rw [if_neg (by omega), if_pos hi0, if_pos hin, if_pos (by omega), w64 (by omega) (by omega)]
    rfl
  | succ d ih =>
    intro j h0 hd hn
    refine Ev.step (fun k => ?_) (ih (j + 1) (by omega) (by omega) (fun m h1 h2 => hn m (by omega) h2))
    have e : ((rd_T80 l j).f0 == (rd_T80 l i).f0 && (rd_T80 l j).f1 == (rd_T80 l i).f1) = false := hn j (by omega) (by omega)
    simp only [spec_l26Six.l1]
    rw [if_pos (by omega), if_pos h0, if_pos (by omega), if_pos hi0, if_pos hin, if_neg (Bool.eq_false_iff.1 e), w64 (by omega) (by omega)]
theorem six_l1_yes (l : List Pt) (out : List Tr) (hl : l.length ≤ 1099511627776) (i : Int) (hi0 : 0 ≤ i) (hin : i < l.length) (m : Int) (hm : m < i) (hs : samePt l m i = true) : ∀ (d : Nat) (j : Int), 0 ≤ j → j + d = m →
    Ev (fun k => spec_l26Six.l1 k l out i j) ([], false) := by
  intro d
  induction d with
  | zero =>
    intro j h0 hd
    obtain rfl : j = m := by omega
    refine Ev.step (f := fun _ => some ([], false)) (fun k => ?_) (Ev.now _)
    have e : ((rd_T80 l j).f0 == (rd_T80 l i).f0 && (rd_T80 l j).f1 == (rd_T80 l i).f1) = true := hs
    simp only [spec_l26Six.l1]
    rw [if_pos (by omega), if_pos h0, if_pos (by omega), if_pos hi0, if_pos hin, if_pos e]
  | succ d ih =>
    intro j h0 hd
    by_cases e : samePt l j i = true
    · refine Ev.step (f := fun _ => some ([], false)) (fun k => ?_) (Ev.now _)
      have e : ((rd_T80 l j).f0 == (rd_T80 l i).f0 && (rd_T80 l j).f1 == (rd_T80 l i).f1) = true := e
      simp only [spec_l26Six.l1]
      rw [if_pos (by omega), if_pos h0, if_pos (by omega), if_pos hi0, if_pos hin, if_pos e]
    · refine Ev.step (fun k => ?_) (ih (j + 1) (by omega) (by omega))
      have e : ((rd_T80 l j).f0 == (rd_T80 l i).f0 && (rd_T80 l j).f1 == (rd_T80 l i).f1) = false := by simpa [samePt] using e
      simp only [spec_l26Six.l1]
      rw [if_pos (by omega), if_pos h0, if_pos (by omega), if_pos hi0, if_pos hin, if_neg (Bool.eq_false_iff.1 e), w64 (by omega) (by omega)]
theorem take_map_succ (l : List Pt) (i : Int) (h0 : 0 ≤ i) (h1 : i < l.length) : (l.take i.toNat).map toT ++ [toT (rd_T80 l i)] = (l.take (i + 1).toNat).map toT := by
  rw [show (i + 1).toNat = i.toNat + 1 by omega, List.take_succ_eq_append_getElem (by omega), List.map_append]
  simp [rd_T80, List.getD, List.getElem?_eq_getElem (show i.toNat < l.length by omega)]
theorem six_l0 (l : List Pt) (hl : l.length ≤ 1099511627776) : ∀ (d : Nat) (i : Int), 0 ≤ i → i + d = l.length → (∀ m : Int, 0 ≤ m → m < i → fits20 (rd_T80 l m) = true) → apart l i →
    ∃ r, Ev (fun k => spec_l26Six.l0 k l ((l.take i.toNat).map toT) i) r ∧ (r.2 = true ↔ sixP l) ∧ (r.2 = true → r.1 = l.map toT) := by
  intro d
  induction d with
  | zero =>
    intro i h0 hd hf ha
    have hi : i = l.length := by omega
    refine ⟨(l.map toT, ((l.length : Int) == 6)), Ev.step (f := fun _ => _) (fun k => ?_) (Ev.now _), ?_, fun _ => rfl⟩
    · simp only [spec_l26Six.l0]
      rw [if_neg (by omega), List.take_of_length_le (by omega), List.length_map]
    · subst hi
      simp only [beq_iff_eq]
      exact ⟨fun h => ⟨by omega, hf, ha⟩, fun h => by have := h.1; omega⟩
  | succ d ih =>
    intro i h0 hd hf ha
    have hin : i < (l.length : Int) := by omega
    have st : ∀ (r : List Tr × Bool) (f : Nat → Option (List Tr × Bool)), Ev f r → (∀ k, spec_l26Six.l0 (k + 1) l ((l.take i.toNat).map toT) i = f k) → Ev (fun k => spec_l26Six.l0 k l ((l.take i.toNat).map toT) i) r := fun r f h e => Ev.step e h
    by_cases hfi : fits20 (rd_T80 l i) = true
    · have e1 : ∀ k, spec_l26Six.l0 (k + 1) l ((l.take i.toNat).map toT) i = spec_l26Six.l1 k l ((l.take i.toNat).map toT) i 0 := by
        intro k
        simp only [spec_l26Six.l0]
        rw [if_pos hin, if_pos h0, l2Fits_eq _ _ 20 (by omega) (by omega)]
        have hfi : (inB (rd_T80 l i).f0 20 && inB (rd_T80 l i).f1 20) = true := hfi
        simp only [Option.bind_some, hfi, if_true]
      by_cases hm : ∃ m, 0 ≤ m ∧ m < i ∧ samePt l m i = true
      · obtain ⟨m, hm0, hm1, hm2⟩ := hm
        refine ⟨([], false), st _ _ (six_l1_yes l _ hl i h0 hin m hm1 hm2 m.toNat 0 (by omega) (by omega)) e1, ?_, fun h => (by cases h)⟩
        refine ⟨fun h => (by cases h), fun h => ?_⟩
        rw [h.2.2 m i hm0 hm1 hin] at hm2; cases hm2
      · have hn : ∀ m, 0 ≤ m → m < i → samePt l m i = false := fun m h1 h2 => by
          cases e : samePt l m i with
          | false => rfl
          | true => exact absurd ⟨m, h1, h2, e⟩ hm
        obtain ⟨r, h1, h2, h3⟩ := ih (i + 1) (by omega) (by omega) (fun m hm0 hm1 => by
          by_cases e : m = i
          · rw [e]; exact hfi
          · exact hf m hm0 (by omega)) (fun a b ha0 hab hb => by
          by_cases e : b = i
          · rw [e] at hab ⊢; exact hn a ha0 hab
          · exact ha a b ha0 hab (by omega))
        rw [← take_map_succ l i h0 hin] at h1
        exact ⟨r, st _ _ (six_l1_no l _ hl i h0 hin (by simp; omega) r h1 i.toNat 0 (by omega) (by omega) hn) e1, h2, h3⟩
    · refine ⟨([], false), st _ (fun _ => some ([], false)) (Ev.now _) (fun k => ?_), ⟨fun h => (by cases h), fun h => absurd (h.2.1 i h0 hin) hfi⟩, fun h => (by cases h)⟩
      simp only [spec_l26Six.l0]
      rw [if_pos hin, if_pos h0, l2Fits_eq _ _ 20 (by omega) (by omega)]
      have hfi : (inB (rd_T80 l i).f0 20 && inB (rd_T80 l i).f1 20) = false := by simpa [fits20] using hfi
      simp only [Option.bind_some, hfi, Bool.false_eq_true, if_false]
theorem l26Six_ev (l : List Pt) (hl : l.length ≤ 1099511627776) : ∃ r, Ev (fun k => spec_l26Six.f k l) r ∧ (r.2 = true ↔ sixP l) ∧ (r.2 = true → r.1 = l.map toT) :=
  six_l0 l hl l.length 0 (by omega) (by omega) (fun m h0 h1 => by omega) (fun a b h0 h1 h2 => by omega)

theorem index_ev (l : List Pt) (x y : Int) (hl : l.length ≤ 1099511627776) : ∀ (d : Nat) (i : Int), 0 ≤ i → i + d = l.length →
    ∃ t : Int, Ev (fun k => impl_Point_168.l0 k l l.length i x y) t ∧ (t ≥ 0 ↔ ∃ m : Int, i ≤ m ∧ m < l.length ∧ (x == (rd_T80 l m).f0 && y == (rd_T80 l m).f1) = true) := by
  intro d
  induction d with
  | zero =>
    intro i h0 hd
    refine ⟨-1, Ev.step (f := fun _ => some (-1)) (fun k => ?_) (Ev.now _), ⟨fun h => by omega, fun ⟨m, h1, h2, _⟩ => by omega⟩⟩
    simp only [impl_Point_168.l0]
    rw [if_neg (by omega)]
  | succ d ih =>
    intro i h0 hd
    by_cases e : (x == (rd_T80 l i).f0 && y == (rd_T80 l i).f1) = true
    · refine ⟨i, Ev.step (f := fun _ => some i) (fun k => ?_) (Ev.now _), ⟨fun h => ⟨i, by omega, by omega, e⟩, fun _ => by omega⟩⟩
      simp only [impl_Point_168.l0]
      rw [if_pos (by omega), if_pos h0, if_pos (by omega), if_pos e]
    · obtain ⟨t, h1, h2⟩ := ih (i + 1) (by omega) (by omega)
      refine ⟨t, Ev.step (fun k => ?_) h1, h2.trans ⟨fun ⟨m, a, b, c⟩ => ⟨m, by omega, b, c⟩, fun ⟨m, a, b, c⟩ => ⟨m, ?_, b, c⟩⟩⟩
      · simp only [impl_Point_168.l0]
        rw [if_pos (by omega), if_pos h0, if_pos (by omega), if_neg e, w64 (by omega) (by omega)]
      · by_cases q : m = i
        · subst q; exact absurd c e
        · omega
theorem rdP_take (l : List Pt) (n : Nat) (m : Int) (h0 : 0 ≤ m) (h1 : m < n) : rd_T80 (l.take n) m = rd_T80 l m := by
  unfold rd_T80
  simp only [List.getD, List.getElem?_take, if_pos (show m.toNat < n by omega)]
theorem areSix_l0 (l : List Pt) (hl : l.length ≤ 1099511627776) : ∀ (d : Nat) (i : Int), 0 ≤ i → i + d = l.length → apart l i →
    ∃ b, Ev (fun k => impl_areSix.l0 k l l l.length i) b ∧ (b = true ↔ sixP l) := by
  intro d
  induction d with
  | zero =>
    intro i h0 hd ha
    have hi : i = l.length := by omega
    subst hi
    by_cases h6 : (l.length : Int) = 6
    · refine ⟨l.all fun p => inB p.f0 20 && inB p.f1 20, Ev.step (f := fun _ => _) (fun k => ?_) (Ev.now _), ?_⟩
      · simp only [impl_areSix.l0]
        rw [if_neg (by omega), if_pos h6, areNear_eq 20 l (by omega) (by omega)]; rfl
      · rw [List.all_eq_true]
        constructor
        · intro h
          refine ⟨by omega, fun i h0 h1 => h _ ?_, ha⟩
          exact getD_mem l _ _ (by omega)
        · intro h p hp
          obtain ⟨n, hn, rfl⟩ := List.mem_iff_getElem.1 hp
          have := h.2.1 n (by omega) (by omega)
          simpa [fits20, rd_T80, List.getD, List.getElem?_eq_getElem hn] using this
    · refine ⟨false, Ev.step (f := fun _ => some false) (fun k => ?_) (Ev.now _), ⟨fun h => (by cases h), fun h => by have := h.1; omega⟩⟩
      simp only [impl_areSix.l0]
      rw [if_neg (by omega), if_neg h6]
  | succ d ih =>
    intro i h0 hd ha
    have hin : i < (l.length : Int) := by omega
    have hlt : ((l.take i.toNat).length : Int) = i := by rw [List.length_take]; omega
    obtain ⟨t, ht, hti⟩ := index_ev (l.take i.toNat) (rd_T80 l i).f0 (rd_T80 l i).f1 (by omega) i.toNat 0 (by omega) (by omega)
    have hc : Ev (fun k => impl_Point_149.f k (l.take i.toNat) (rd_T80 l i).f0 (rd_T80 l i).f1) (decide (t ≥ 0)) := by
      simp only [impl_Point_149.f, impl_Point_168.f]
      exact Ev.bind ht (Ev.now _)
    have st : ∀ (f : Nat → Option Bool) (b : Bool), Ev f b → (∀ k, ((impl_Point_149.f k (l.take i.toNat) (rd_T80 l i).f0 (rd_T80 l i).f1).bind fun t => if t = true then some false else impl_areSix.l0 k l l l.length (i + 1)) = f k) → Ev (fun k => impl_areSix.l0 k l l l.length i) b := by
      intro f b hf e
      refine Ev.step (fun k => ?_) hf
      rw [← e k]
      simp only [impl_areSix.l0]
      rw [if_pos hin, if_pos h0, if_pos hin, if_pos (by omega), w64 (by omega) (by omega)]
    by_cases hp : t ≥ 0
    · obtain ⟨m, hm0, hm1, hm2⟩ := hti.1 hp
      rw [hlt] at hm1
      rw [rdP_take l _ m hm0 (by omega)] at hm2
      refine ⟨false, ?_, ⟨fun h => (by cases h), fun h => ?_⟩⟩
      · refine st _ _ (Ev.bind hc ?_) (fun k => rfl)
        exact Ev.iteT (by simpa using hp) (Ev.now _)
      · have := h.2.2 m i hm0 hm1 hin
        rw [samePt_symm] at this
        have e2 : samePt l i m = true := hm2
        rw [e2] at this; cases this
    · obtain ⟨b, h1, h2⟩ := ih (i + 1) (by omega) (by omega) (fun a c ha0 hac hc => by
        by_cases e : c = i
        · subst e
          cases q : samePt l a c with
          | false => rfl
          | true =>
            rw [samePt_symm] at q
            exact absurd (hti.2 ⟨a, ha0, by omega, by rw [rdP_take l _ a ha0 (by omega)]; exact q⟩) hp
        · exact ha a c ha0 hac (by omega))
      refine ⟨b, ?_, h2⟩
      refine st _ _ (Ev.bind hc ?_) (fun k => rfl)
      exact Ev.iteF (by simpa using hp) h1
theorem areSix_ev (l : List Pt) (hl : l.length ≤ 1099511627776) : ∃ b, Ev (fun k => impl_areSix.f k l) b ∧ (b = true ↔ sixP l) :=
  areSix_l0 l hl l.length 0 (by omega) (by omega) (fun a b h0 h1 h2 => by omega)
end Go.Proofs.Ytldcckcljjlglaa.Pure

namespace Go.Proofs.Ytldcckcljjlglaa.Pure
open Go.RowKit Go.Proofs.Ytldcckcljjlglaa.P Go.Proofs.YtldcckcljjlglaaW.PrintWords Go.Proofs.YtldcckcljjlglaaW.PrintLast Go.Proofs.Ytldcckcljjlglaa.Com
set_option linter.unusedSimpArgs false
set_option linter.unusedVariables false

theorem farB_eq' (n m : Int) (h0 : 0 ≤ m) (h1 : m ≤ 4611686018427387904) : farB n m = !inB n m := by
  unfold farB impl_isFar.f inB
  rw [w64 (by omega) (by omega)]
  by_cases h : n < -m
  · rw [if_pos h, Option.getD_some, Bool.eq_iff_iff]; simp; omega
  · rw [if_neg h, Option.getD_some, Bool.eq_iff_iff]; simp; omega
theorem l26Fits_eq (x y z m : Int) (h0 : 0 ≤ m) (h1 : m ≤ 4611686018427387904) : spec_l26Fits.f x y z m = some (inB x m && (inB y m && inB z m)) := by
  unfold spec_l26Fits.f
  rw [l1In_inB x m h0 h1, l1In_inB y m h0 h1, l1In_inB z m h0 h1]
  simp only [Option.bind_some]
  cases inB x m <;> cases inB y m <;> simp
theorem isLimited_eq (m : Int) (l : List S72) (h0 : 0 ≤ m) (h1 : m ≤ 4611686018427387904) : impl_isLimited.f m l = some (l.all fun p => inB p.f0 m && (inB p.f1 m && inB p.f2 m)) := by
  unfold impl_isLimited.f outTriple
  congr 1
  rw [List.not_any_eq_all_not]
  congr 1
  funext p
  rw [farB_eq' _ _ h0 h1, farB_eq' _ _ h0 h1, farB_eq' _ _ h0 h1]
  cases inB p.f0 m <;> cases inB p.f1 m <;> simp
end Go.Proofs.Ytldcckcljjlglaa.Pure

namespace Go.Proofs.Ytldcckcljjlglaa.Pure
open Go.RowKit Go.Proofs.Ytldcckcljjlglaa.P Go.Proofs.YtldcckcljjlglaaW.PrintWords Go.Proofs.YtldcckcljjlglaaW.PrintLast Go.Proofs.Ytldcckcljjlglaa.Com
set_option linter.unusedSimpArgs false
set_option linter.unusedVariables false

theorem tmod_bd (a b : Int) (hb : b ≠ 0) : (Int.tmod a b).natAbs < b.natAbs := by
  rw [Int.natAbs_tmod]; exact Nat.mod_lt _ (by omega)
theorem gcd_step (a b : Int) : Int.gcd b (Int.tmod a b) = Int.gcd a b := by
  unfold Int.gcd
  rw [Int.natAbs_tmod, Nat.gcd_comm b.natAbs, ← Nat.gcd_rec, Nat.gcd_comm]
theorem mx_abs (r : Int) (h : r.natAbs ≤ 4611686018427387904) : mx r (wrap64 (-r)) = (r.natAbs : Int) := by
  rw [w64 (by omega) (by omega)]; unfold mx; omega
theorem gcdLoop (n : Nat) : ∀ (a b : Int), b.natAbs ≤ n → a.natAbs ≤ 4611686018427387904 → b.natAbs ≤ 4611686018427387904 →
    Ev (fun k => spec_l24Gcd.l0 k a b) (Int.gcd a b : Int) := by
  induction n with
  | zero =>
    intro a b hb ha _
    obtain rfl : b = 0 := by omega
    refine Ev.step (f := fun _ => some (Int.gcd a 0 : Int)) (fun k => ?_) (Ev.now _)
    simp only [spec_l24Gcd.l0, if_true, spec_l1Max.f]
    rw [w64 (by omega) (by omega)]
    have hg : Int.gcd a 0 = a.natAbs := by simp
    rw [hg]
    by_cases h : a > -a
    · rw [if_pos h]; simp only [Option.bind_some]; congr 1; omega
    · rw [if_neg h]; simp only [Option.bind_some]; congr 1; omega
  | succ n ih =>
    intro a b hb ha hb2
    by_cases h0 : b = 0
    · subst h0; exact ih a 0 (by omega) ha (by omega)
    have hlt := tmod_bd a b h0
    have := ih b (Int.tmod a b) (by omega) hb2 (by omega)
    rw [gcd_step] at this
    refine Ev.step (f := fun k => spec_l24Gcd.l0 k b (Int.tmod a b)) (fun k => ?_) this
    simp only [spec_l24Gcd.l0]
    rw [if_neg h0]
theorem l24Gcd_ev (a b : Int) (ha : a.natAbs ≤ 4611686018427387904) (hb : b.natAbs ≤ 4611686018427387904) : Ev (fun k => spec_l24Gcd.f k a b) (Int.gcd a b : Int) := gcdLoop _ a b (Nat.le_refl _) ha hb
end Go.Proofs.Ytldcckcljjlglaa.Pure

namespace Go.Proofs.Ytldcckcljjlglaa.Pure
open Go.RowKit Go.Proofs.Ytldcckcljjlglaa.P Go.Proofs.YtldcckcljjlglaaW.PrintWords Go.Proofs.YtldcckcljjlglaaW.PrintLast Go.Proofs.Ytldcckcljjlglaa.Com
set_option linter.unusedSimpArgs false
set_option linter.unusedVariables false

/-- The divisor of a list's rest, from what is divided out so far. -/
def gcdL : Nat → List Int → Nat
  | g, [] => g
  | g, x :: l => gcdL (Nat.gcd g x.natAbs) l
theorem div_inner (n : Nat) : ∀ (o x : Int) (l : List Int) (m i : Int), x.natAbs ≤ n → o.natAbs ≤ 4611686018427387904 → x.natAbs ≤ 4611686018427387904 → ∀ r : Int,
    (∀ o' : Int, o'.natAbs = Int.gcd o x → o'.natAbs ≤ 4611686018427387904 → Ev (fun k => impl_divisor.l0 k o' l m (wrap64 (i + 1))) r) → Ev (fun k => impl_divisor.l1 k o x l m i) r := by
  induction n with
  | zero =>
    intro o x l m i hx ho _ r h
    obtain rfl : x = 0 := by omega
    refine Ev.step (f := fun k => impl_divisor.l0 k o l m (wrap64 (i + 1))) (fun k => by simp only [impl_divisor.l1, if_true]) (h o (by simp) ho)
  | succ n ih =>
    intro o x l m i hx ho hx2 r h
    by_cases h0 : x = 0
    · subst h0; exact ih o 0 l m i (by omega) ho (by omega) r h
    have hlt := tmod_bd o x h0
    refine Ev.step (f := fun k => impl_divisor.l1 k x (Int.tmod o x) l m i) (fun k => by simp only [impl_divisor.l1]; rw [if_neg h0]) ?_
    exact ih x (Int.tmod o x) l m i (by omega) hx2 (by omega) r (fun o' e b => h o' (by rw [e, gcd_step]) b)
theorem gcd_le_max (o x : Int) (ho : o.natAbs ≤ 4611686018427387904) (hx : x.natAbs ≤ 4611686018427387904) : Int.gcd o x ≤ 4611686018427387904 := by
  unfold Int.gcd
  by_cases h : x.natAbs = 0
  · rw [h, Nat.gcd_zero_right]; exact ho
  · exact Nat.le_trans (Nat.le_of_dvd (by omega) (Nat.gcd_dvd_right _ _)) hx
theorem div_outer (l : List Int) (hl : l.length ≤ 1099511627776) (hb : ∀ x ∈ l, x.natAbs ≤ 4611686018427387904) (d : Nat) : ∀ (o i : Int), 0 ≤ i → i + d = l.length → o.natAbs ≤ 4611686018427387904 →
    Ev (fun k => impl_divisor.l0 k o l (l.length : Int) i) (gcdL o.natAbs (l.drop i.toNat) : Int) := by
  induction d with
  | zero =>
    intro o i h0 hi ho
    refine Ev.step (f := fun _ => some (gcdL o.natAbs (l.drop i.toNat) : Int)) (fun k => ?_) (Ev.now _)
    simp only [impl_divisor.l0]
    rw [if_neg (by omega), List.drop_of_length_le (by omega), mx_abs o ho]; rfl
  | succ d ih =>
    intro o i h0 hi ho
    have hlt : i.toNat < l.length := by omega
    have hm : rd l i ∈ l := getD_mem l i.toNat 0 hlt
    refine Ev.step (f := fun k => impl_divisor.l1 k o (rd l i) l (l.length : Int) i) (fun k => by simp only [impl_divisor.l0]; rw [if_pos (by omega), if_pos h0, if_pos (by omega)]) ?_
    refine div_inner _ o (rd l i) l _ i (Nat.le_refl _) ho (hb _ hm) _ (fun o' e b => ?_)
    have := ih o' (i + 1) (by omega) (by omega) b
    rw [w64 (by omega) (by omega), drop_cons l i.toNat 0 hlt]
    rw [show (i + 1).toNat = i.toNat + 1 from by omega] at this
    have e2 : gcdL o.natAbs (l.getD i.toNat 0 :: l.drop (i.toNat + 1)) = gcdL o'.natAbs (l.drop (i.toNat + 1)) := by
      simp only [gcdL]; rw [e]; rfl
    rw [e2]; exact this
theorem divisor_ev (l : List Int) (hl : l.length ≤ 1099511627776) (hb : ∀ x ∈ l, x.natAbs ≤ 4611686018427387904) : Ev (fun k => impl_divisor.f k l) (gcdL 0 l : Int) := by
  have := div_outer l hl hb l.length 0 0 (by omega) (by omega) (by simp)
  simpa [impl_divisor.f] using this
theorem divisor2 (x y : Int) (hx : x.natAbs ≤ 4611686018427387904) (hy : y.natAbs ≤ 4611686018427387904) : Ev (fun k => impl_divisor.f k [x, y]) (Int.gcd x y : Int) := by
  have := divisor_ev [x, y] (by simp) (by simp [hx, hy])
  simpa [gcdL, Int.gcd] using this
theorem divisor3 (x y z : Int) (hx : x.natAbs ≤ 4611686018427387904) (hy : y.natAbs ≤ 4611686018427387904) (hz : z.natAbs ≤ 4611686018427387904) : Ev (fun k => impl_divisor.f k [x, y, z]) (Int.gcd (Int.gcd x y) z : Int) := by
  have := divisor_ev [x, y, z] (by simp) (by simp [hx, hy, hz])
  simpa [gcdL, Int.gcd] using this
end Go.Proofs.Ytldcckcljjlglaa.Pure

namespace Go.Proofs.Ytldcckcljjlglaa.Pure
open Go.RowKit Go.Proofs.Ytldcckcljjlglaa.P Go.Proofs.YtldcckcljjlglaaW.PrintWords Go.Proofs.YtldcckcljjlglaaW.PrintLast Go.Proofs.Ytldcckcljjlglaa.Com
set_option linter.unusedSimpArgs false
set_option linter.unusedVariables false

def fits3 (a b c : Int) (m : Int) : Bool := inB a m && (inB b m && inB c m)
theorem fits3_def (a b c m : Int) : (inB a m && (inB b m && inB c m)) = fits3 a b c m := rfl
theorem fits3_iff {a b c m : Int} : fits3 a b c m = true ↔ (-m ≤ a ∧ a ≤ m) ∧ (-m ≤ b ∧ b ≤ m) ∧ (-m ≤ c ∧ c ≤ m) := by simp [fits3, inB_iff]
/-- The cross product, divided by its divisor. -/
def crossD (x y z : Int) : Int × Int × Int :=
  if (Int.gcd (Int.gcd x y) z : Int) = 0 then (0, 0, 0) else (wrap64 (Int.tdiv x (Int.gcd (Int.gcd x y) z)), wrap64 (Int.tdiv y (Int.gcd (Int.gcd x y) z)), wrap64 (Int.tdiv z (Int.gcd (Int.gcd x y) z)))
def crossT (a b c d e f : Int) : Int × Int × Int :=
  if fits3 a b c 1000000 = true then if fits3 d e f 1000000 = true then crossD (b * f - c * e) (c * d - a * f) (a * e - b * d) else (0, 0, 0) else (0, 0, 0)
theorem det2 {a b c d : Int} (ha : -1000000 ≤ a ∧ a ≤ 1000000) (hb : -1000000 ≤ b ∧ b ≤ 1000000) (hc : -1000000 ≤ c ∧ c ≤ 1000000) (hd : -1000000 ≤ d ∧ d ≤ 1000000) :
    (a * b - c * d).natAbs ≤ 2000000000000 := by
  have h1 : (a * b).natAbs ≤ 1000000 * 1000000 := abs_mul_le (by omega) (by omega)
  have h2 : (c * d).natAbs ≤ 1000000 * 1000000 := abs_mul_le (by omega) (by omega)
  omega
theorem crossT_spec (a b c d e f : Int) : Ev (fun k => spec_CrossOf.f k a b c d e f) (crossT a b c d e f) := by
  simp only [spec_CrossOf.f, l26Fits_eq _ _ _ 1000000 (show (0 : Int) ≤ 1000000 by omega) (by omega), Option.bind_some, crossT, fits3_def]
  have stop : Ev (fun k => spec_CrossOf.j0 k true a b c d e f) (0, 0, 0) := Ev.step (f := fun _ => some (0, 0, 0)) (fun k => by simp only [spec_CrossOf.j0, if_true]) (Ev.now _)
  by_cases h1 : fits3 a b c 1000000 = true
  · simp only [if_pos h1]
    by_cases h2 : fits3 d e f 1000000 = true
    · simp only [if_pos h2, h2, Bool.not_true]
      rw [fits3_iff] at h1 h2
      obtain ⟨ha, hb, hc⟩ := h1
      obtain ⟨hd, he, hf⟩ := h2
      have b1 := det2 hb hf hc he
      have b2 := det2 hc hd ha hf
      have b3 := det2 ha he hb hd
      refine Ev.step (f := fun k => _) (fun k => by simp only [spec_CrossOf.j0, Bool.false_eq_true, if_false, ww_sub_l, ww_sub_r]; rfl) ?_
      simp only [wrap_abs _ (Nat.le_trans b1 (by omega)), wrap_abs _ (Nat.le_trans b2 (by omega)), wrap_abs _ (Nat.le_trans b3 (by omega))]
      refine Ev.bind (l24Gcd_ev _ _ (by omega) (by omega)) (Ev.bind (l24Gcd_ev _ _ (gcd_le_max _ _ (by omega) (by omega)) (by omega)) ?_)
      unfold crossD
      split <;> exact Ev.now _
    · simp only [if_neg h2, Bool.not_eq_true _ ▸ h2, Bool.not_false]
      exact stop
  · simp only [if_neg h1]; exact stop
theorem crossT_impl (a b c d e f : Int) : Ev (fun k => impl_CrossOf.f k a b c d e f) (crossT a b c d e f) := by
  simp only [impl_CrossOf.f, isLimited_eq 1000000 _ (show (0 : Int) ≤ 1000000 by omega) (by omega), Option.bind_some, crossT, List.all_cons, List.all_nil, Bool.and_true, fits3_def]
  by_cases h1 : fits3 a b c 1000000 = true
  · by_cases h2 : fits3 d e f 1000000 = true
    · simp only [h1, h2, Bool.and_self, if_true, ww_sub_l, ww_sub_r]
      rw [fits3_iff] at h1 h2
      obtain ⟨ha, hb, hc⟩ := h1
      obtain ⟨hd, he, hf⟩ := h2
      have b1 := det2 hb hf hc he
      have b2 := det2 hc hd ha hf
      have b3 := det2 ha he hb hd
      simp only [wrap_abs _ (Nat.le_trans b1 (by omega)), wrap_abs _ (Nat.le_trans b2 (by omega)), wrap_abs _ (Nat.le_trans b3 (by omega))]
      refine Ev.bind (divisor3 _ _ _ (by omega) (by omega) (by omega)) ?_
      unfold crossD
      split <;> exact Ev.now _
    · simp only [if_neg h2, Bool.not_eq_true _ ▸ h2, Bool.and_false, Bool.false_eq_true, if_false, ite_self]
      exact Ev.now _
  · simp only [if_neg h1, Bool.not_eq_true _ ▸ h1, Bool.false_and, Bool.false_eq_true, if_false]
    exact Ev.now _
end Go.Proofs.Ytldcckcljjlglaa.Pure

namespace Go.Proofs.Ytldcckcljjlglaa.Pure
open Go.RowKit Go.Proofs.Ytldcckcljjlglaa.P Go.Proofs.YtldcckcljjlglaaW.PrintWords Go.Proofs.YtldcckcljjlglaaW.PrintLast Go.Proofs.Ytldcckcljjlglaa.Com
set_option linter.unusedSimpArgs false
set_option linter.unusedVariables false

def zeroT (c : Int × Int × Int) : Bool := c.1 == 0 && (c.2.1 == 0 && c.2.2 == 0)
def crossTT (a b : Int × Int × Int) : Int × Int × Int := crossT a.1 a.2.1 a.2.2 b.1 b.2.1 b.2.2
/-- The line through two of a list's points. -/
def thrT (l : List Pt) (a b : Int) : Int × Int × Int := crossT (rd_T80 l a).f0 (rd_T80 l a).f1 1 (rd_T80 l b).f0 (rd_T80 l b).f1 1
theorem l26Equal_ev (a b c d e f : Int) : Ev (fun k => spec_l26Equal.f k a b c d e f) (zeroT (crossT a b c d e f)) := by
  simp only [spec_l26Equal.f]
  exact Ev.bind (crossT_spec _ _ _ _ _ _) (Ev.now _)
theorem areOneLine_ev (a b c d e f : Int) : Ev (fun k => impl_areOneLine.f k a b c d e f) (zeroT (crossT a b c d e f)) := by
  simp only [impl_areOneLine.f]
  exact Ev.bind (crossT_impl _ _ _ _ _ _) (Ev.now _)
theorem through_ev (a b c d : Int) : Ev (fun k => impl_through.f k a b c d) (crossT a b 1 c d 1) := by
  simp only [impl_through.f, impl_TripleOf.f, Option.bind_some]
  exact Ev.bind (crossT_impl _ _ _ _ _ _) (Ev.now _)
theorem tr_map (l : List Pt) (i : Int) (h0 : 0 ≤ i) (h1 : i < l.length) : rd_T72 (l.map toT) i = toT (rd_T80 l i) := by
  unfold rd_T72 rd_T80
  exact getD_map toT l i.toNat _ _ (by omega)
def areaP (a b c d e f : Int) : Int := wrap64 (a * d - a * f + c * f - c * b + e * b - e * d)
theorem inB_more {n : Int} (h : inB n 20 = true) : inB n 100000 = true := by rw [inB_iff] at h ⊢; omega
theorem onOne_is (p q r : Pt) (hp : fits20 p = true) (hq : fits20 q = true) (hr : fits20 r = true) : spec_AreOnOne.f p.f0 p.f1 1 q.f0 q.f1 1 r.f0 r.f1 1 = some (areaP p.f0 p.f1 q.f0 q.f1 r.f0 r.f1 == 0) := by
  simp only [fits20, Bool.and_eq_true] at hp hq hr
  simp only [spec_AreOnOne.f, l26Fits_eq _ _ _ 100000 (show (0 : Int) ≤ 100000 by omega) (by omega), Option.bind_some, inB_more hp.1, inB_more hp.2, inB_more hq.1, inB_more hq.2, inB_more hr.1, inB_more hr.2, Bool.true_and, show inB 1 100000 = true from rfl, if_true]
  simp only [ww_sub_l, ww_sub_r, ww_mul_l, ww_mul_r, ww_add_l, ww_add_r, areaP]
  congr 3
  grind
end Go.Proofs.Ytldcckcljjlglaa.Pure

namespace Go.Proofs.Ytldcckcljjlglaa.Pure
open Go.RowKit Go.Proofs.Ytldcckcljjlglaa.P Go.Proofs.YtldcckcljjlglaaW.PrintWords Go.Proofs.YtldcckcljjlglaaW.PrintLast Go.Proofs.Ytldcckcljjlglaa.Com
set_option linter.unusedSimpArgs false
set_option linter.unusedVariables false

abbrev gP (l : List Pt) (i : Int) : Pt := rd_T80 l i
def arP (p q r : Pt) : Int := areaP p.f0 p.f1 q.f0 q.f1 r.f0 r.f1
theorem onL_wrap (t : Int × Int × Int) (p : Pt) : onL t p = (wrap64 (t.1 * p.f0 + t.2.1 * p.f1 + t.2.2) == 0) := by
  unfold onL impl_isOnLine.f
  simp only [Option.getD_some, ww_add_l, ww_add_r]
theorem mul_bound {a b : Int} {A B : Nat} (ha : a.natAbs ≤ A) (hb : b.natAbs ≤ B) : (a * b).natAbs ≤ A * B := abs_mul_le ha hb
/-- The line through two different points near zero: a multiple of the cross product. -/
theorem line_is {a b c d : Int} (ha : -20 ≤ a ∧ a ≤ 20) (hb : -20 ≤ b ∧ b ≤ 20) (hc : -20 ≤ c ∧ c ≤ 20) (hd : -20 ≤ d ∧ d ≤ 20) (hne : ¬ (a = c ∧ b = d)) :
    ∃ g x y z : Int, g ≠ 0 ∧ crossT a b 1 c d 1 = (x, y, z) ∧ x * g = b - d ∧ y * g = c - a ∧ z * g = a * d - b * c ∧ x.natAbs ≤ 40 ∧ y.natAbs ≤ 40 ∧ z.natAbs ≤ 800 := by
  have f1 : fits3 a b 1 1000000 = true := by rw [fits3_iff]; omega
  have f2 : fits3 c d 1 1000000 = true := by rw [fits3_iff]; omega
  have hz1 : (a * d).natAbs ≤ 20 * 20 := abs_mul_le (by omega) (by omega)
  have hz2 : (b * c).natAbs ≤ 20 * 20 := abs_mul_le (by omega) (by omega)
  unfold crossT
  rw [if_pos f1, if_pos f2]
  simp only [Int.mul_one, Int.one_mul]
  unfold crossD
  generalize hZ : a * d - b * c = Z
  have hZb : Z.natAbs ≤ 800 := by omega
  generalize hX : b - d = X
  generalize hY : c - a = Y
  have hXb : X.natAbs ≤ 40 := by omega
  have hYb : Y.natAbs ≤ 40 := by omega
  have hxy : ¬ (X = 0 ∧ Y = 0) := by omega
  have d1 : (Int.gcd (Int.gcd X Y) Z : Int) ∣ X := Int.dvd_trans (Int.gcd_dvd_left _ _) (Int.gcd_dvd_left _ _)
  have d2 : (Int.gcd (Int.gcd X Y) Z : Int) ∣ Y := Int.dvd_trans (Int.gcd_dvd_left _ _) (Int.gcd_dvd_right _ _)
  have d3 : (Int.gcd (Int.gcd X Y) Z : Int) ∣ Z := Int.gcd_dvd_right _ _
  generalize hg : (Int.gcd (Int.gcd X Y) Z : Int) = g at d1 d2 d3
  have hg0 : g ≠ 0 := by
    rintro rfl
    rw [Int.zero_dvd] at d1 d2
    exact hxy ⟨d1, d2⟩
  rw [if_neg hg0]
  obtain ⟨x, rfl⟩ := d1
  obtain ⟨y, rfl⟩ := d2
  obtain ⟨z, rfl⟩ := d3
  rw [Int.mul_tdiv_cancel_left _ hg0, Int.mul_tdiv_cancel_left _ hg0, Int.mul_tdiv_cancel_left _ hg0]
  have small : ∀ u : Int, u.natAbs ≤ (g * u).natAbs := fun u => by
    rw [Int.natAbs_mul]
    exact Nat.le_mul_of_pos_left _ (by omega)
  have sx := small x
  have sy := small y
  have sz := small z
  refine ⟨g, x, y, z, hg0, ?_, Int.mul_comm _ _, Int.mul_comm _ _, Int.mul_comm _ _, by omega, by omega, by omega⟩
  rw [wrap_abs x (by omega), wrap_abs y (by omega), wrap_abs z (by omega)]
theorem fits20_iff (p : Pt) : fits20 p = true ↔ (-20 ≤ p.f0 ∧ p.f0 ≤ 20) ∧ (-20 ≤ p.f1 ∧ p.f1 ≤ 20) := by simp [fits20, inB_iff]
theorem samePt_false (l : List Pt) (i j : Int) (h : samePt l i j = false) : ¬ ((gP l i).f0 = (gP l j).f0 ∧ (gP l i).f1 = (gP l j).f1) := by
  rintro ⟨h1, h2⟩
  unfold samePt at h
  rw [h1, h2] at h
  simp at h
/-- A point is on the line through two others if the area is zero. -/
theorem on_line (l : List Pt) (i j : Int) (p : Pt) (hi : fits20 (gP l i) = true) (hj : fits20 (gP l j) = true) (hp : fits20 p = true) (hne : samePt l i j = false) : onL (thrT l i j) p = (arP (gP l i) (gP l j) p == 0) := by
  rw [fits20_iff] at hi hj hp
  obtain ⟨g, x, y, z, hg, hc, hx, hy, hz, bx, by_, bz⟩ := line_is hi.1 hi.2 hj.1 hj.2 (samePt_false l i j hne)
  have e : thrT l i j = (x, y, z) := hc
  rw [onL_wrap, e]
  unfold arP areaP
  generalize (gP l i).f0 = a at *
  generalize (gP l i).f1 = b at *
  generalize (gP l j).f0 = c at *
  generalize (gP l j).f1 = d at *
  generalize p.f0 = u at *
  generalize p.f1 = v at *
  have m1 : (x * u).natAbs ≤ 40 * 20 := abs_mul_le bx (by omega)
  have m2 : (y * v).natAbs ≤ 40 * 20 := abs_mul_le by_ (by omega)
  have m3 : (a * d).natAbs ≤ 20 * 20 := abs_mul_le (by omega) (by omega)
  have m4 : (a * v).natAbs ≤ 20 * 20 := abs_mul_le (by omega) (by omega)
  have m5 : (c * v).natAbs ≤ 20 * 20 := abs_mul_le (by omega) (by omega)
  have m6 : (c * b).natAbs ≤ 20 * 20 := abs_mul_le (by omega) (by omega)
  have m7 : (u * b).natAbs ≤ 20 * 20 := abs_mul_le (by omega) (by omega)
  have m8 : (u * d).natAbs ≤ 20 * 20 := abs_mul_le (by omega) (by omega)
  simp only
  rw [wrap_abs (x * u + y * v + z) (by omega), wrap_abs _ (by omega)]
  have key : (x * u + y * v + z) * g = a * d - a * v + c * v - c * b + u * b - u * d := by grind
  rw [← key, Bool.eq_iff_iff, beq_iff_eq, beq_iff_eq, Int.mul_eq_zero]
  exact ⟨.inl, fun h => h.resolve_right hg⟩
theorem onT_is (l : List Pt) (hs : sixP l) (i j k : Int) (hi : 0 ≤ i ∧ i < 6) (hj : 0 ≤ j ∧ j < 6) (hk : 0 ≤ k ∧ k < 6) : onT (l.map toT) i j k = some (arP (gP l i) (gP l j) (gP l k) == 0) := by
  have hl := hs.1
  unfold onT trP
  rw [tr_map l i hi.1 (by omega), tr_map l j hj.1 (by omega), tr_map l k hk.1 (by omega)]
  exact onOne_is _ _ _ (hs.2.1 i hi.1 (by omega)) (hs.2.1 j hj.1 (by omega)) (hs.2.1 k hk.1 (by omega))
theorem crossP_ev (l : List Pt) (a b : Int) (ha : 0 ≤ a) (ha' : a < l.length) (hb : 0 ≤ b) (hb' : b < l.length) : Ev (fun k => crossP k (trP (l.map toT) a) (trP (l.map toT) b)) (thrT l a b) := by
  simp only [crossP, trP, tr_map l a ha ha', tr_map l b hb hb']
  exact crossT_spec _ _ _ _ _ _
theorem thrP_ev (l : List Pt) (a b : Int) : Ev (fun k => thrP k (ptP l a) (ptP l b)) (thrT l a b) := through_ev _ _ _ _
def papC (l : List Pt) (i j p q : Int) : Int × Int × Int := crossTT (thrT l i j) (thrT l p q)
theorem pairC_ev (l : List Pt) (i j p q : Int) : Ev (fun k => pairC k l i j p q) (papC l i j p q) := by
  simp only [pairC]
  exact Ev.bind (thrP_ev l i j) (Ev.bind (thrP_ev l p q) (crossT_impl _ _ _ _ _ _))
/-- No point of one line's three is on the other. -/
def badAt (l : List Pt) (i : Int) : Bool := arP (gP l 3) (gP l 4) (gP l i) == 0 || arP (gP l 0) (gP l 1) (gP l (3 + i)) == 0
def papBad (l : List Pt) : Bool := badAt l 0 || (badAt l 1 || badAt l 2)
def papL (l : List Pt) : List Tr := [trOf (papC l 0 4 1 3), trOf (papC l 0 5 2 3), trOf (papC l 1 5 2 4)]
open Classical in
noncomputable def papR (l : List Pt) : List Tr × Bool :=
  if sixP l then if arP (gP l 0) (gP l 1) (gP l 2) = 0 then if arP (gP l 3) (gP l 4) (gP l 5) = 0 then if papBad l = true then ([], false) else if zeroT (crossTT (thrT l 0 1) (thrT l 3 4)) = true then ([], false) else (papL l, true) else ([], false) else ([], false) else ([], false)
theorem papR_length (l : List Pt) : (papR l).1.length ≤ 3 := by
  unfold papR
  repeat' split
  all_goals first | exact Nat.zero_le _ | exact Nat.le_refl _
theorem pap_round (l : List Pt) (h6 : l.length = 6) (i : Nat) (hi : i < 3) (out : List Tr) (ho : out.length < 1000000) (r : List Tr × Bool)
    (h : Ev (fun k => spec_PappusOf.l1 k (l.map toT) (out ++ [trOf (papC l (pp i 0) (pp i 1) (pp i 2) (pp i 3))]) (i + 1)) r) : Ev (fun k => spec_PappusOf.l1 k (l.map toT) out i) r := by
  have b0 := pp_lt i 0
  have b1 := pp_lt i 1
  have b2 := pp_lt i 2
  have b3 := pp_lt i 3
  refine Ev.step (fun k => by simp only [spec_PappusOf.l1]; rw [if_pos hi]) ?_
  exact Ev.bind (crossP_ev l _ _ (by omega) (by omega) (by omega) (by omega)) (Ev.bind (crossP_ev l _ _ (by omega) (by omega) (by omega) (by omega)) (Ev.bind (crossT_spec _ _ _ _ _ _) (Ev.iteT ho h)))
theorem bad_round (l : List Pt) (hs : sixP l) (i : Nat) (hi : i < 3) (a b : Int × Int × Int) (r : List Tr × Bool)
    (h1 : badAt l (i : Int) = true → r = ([], false)) (h : badAt l (i : Int) = false → Ev (fun k => spec_PappusOf.l0 k (l.map toT) a b (i + 1)) r) : Ev (fun k => spec_PappusOf.l0 k (l.map toT) a b i) r := by
  refine Ev.step (fun k => by simp only [spec_PappusOf.l0]; rw [if_pos hi, onT_is l hs 3 4 i (by omega) (by omega) (by omega), onT_is l hs 0 1 (3 + i) (by omega) (by omega) (by omega)]) ?_
  simp only [Option.bind_some]
  unfold badAt at h1 h
  cases e1 : (arP (gP l 3) (gP l 4) (gP l (i : Int)) == 0) with
  | true => rw [h1 (by rw [e1]; rfl)]; exact Ev.iteT rfl (Ev.now _)
  | false =>
    refine Ev.iteF (by decide) ?_
    cases e2 : (arP (gP l 0) (gP l 1) (gP l (3 + (i : Int))) == 0) with
    | true => rw [h1 (by rw [e2, Bool.or_true])]; exact Ev.iteT rfl (Ev.now _)
    | false => exact Ev.iteF (by decide) (h (by rw [e1, e2]; rfl))
theorem spec_Pappus_ev (l : List Pt) (hl : l.length ≤ 1099511627776) : Ev (fun k => spec_PappusOf.f k l) (papR l) := by
  obtain ⟨s, h1, h2, h3⟩ := l26Six_ev l hl
  simp only [spec_PappusOf.f]
  refine Ev.bind h1 ?_
  unfold papR
  by_cases hs : sixP l
  · have e := h3 (h2.2 hs)
    have h6 := hs.1
    rw [if_pos hs]
    refine Ev.iteT (h2.2 hs) (Ev.iteT (by rw [e, List.length_map]; exact hs.1) ?_)
    rw [e, onT_is l hs 0 1 2 (by omega) (by omega) (by omega)]
    simp only [Option.bind_some]
    by_cases z : arP (gP l 0) (gP l 1) (gP l 2) = 0
    · rw [if_pos z]
      refine Ev.iteT (by simpa using z) ?_
      rw [onT_is l hs 3 4 5 (by omega) (by omega) (by omega)]
      simp only [Option.bind_some]
      by_cases z : arP (gP l 3) (gP l 4) (gP l 5) = 0
      · rw [if_pos z]
        refine Ev.iteT (by simpa using z) (Ev.bind (crossP_ev l 0 1 (by omega) (by omega) (by omega) (by omega)) (Ev.bind (crossP_ev l 3 4 (by omega) (by omega) (by omega) (by omega)) ?_))
        refine bad_round l hs 0 (by omega) _ _ _ (fun hb => if_pos (by unfold papBad; rw [show badAt l 0 = true from hb]; rfl)) (fun hb0 => ?_)
        refine bad_round l hs 1 (by omega) _ _ _ (fun hb => if_pos (by unfold papBad; rw [show badAt l 1 = true from hb]; simp)) (fun hb1 => ?_)
        refine bad_round l hs 2 (by omega) _ _ _ (fun hb => if_pos (by unfold papBad; rw [show badAt l 2 = true from hb]; simp)) (fun hb2 => ?_)
        rw [if_neg (show ¬ papBad l = true by unfold papBad; rw [show badAt l 0 = false from hb0, show badAt l 1 = false from hb1, show badAt l 2 = false from hb2]; decide)]
        refine Ev.step (fun k => by simp only [spec_PappusOf.l0]; rw [if_neg (by omega)]) ?_
        refine Ev.bind (l26Equal_ev _ _ _ _ _ _) ?_
        by_cases z : zeroT (crossTT (thrT l 0 1) (thrT l 3 4)) = true
        · rw [if_pos z]; exact Ev.iteT z (Ev.now _)
        · rw [if_neg z]
          refine Ev.iteF z ?_
          refine pap_round l h6 0 (by omega) [] (by simp) _ (pap_round l h6 1 (by omega) _ (by simp) _ (pap_round l h6 2 (by omega) _ (by simp) _ ?_))
          exact Ev.step (f := fun _ => some (papL l, true)) (fun k => by simp only [spec_PappusOf.l1]; rw [if_neg (by omega)]; rfl) (Ev.now _)
      · rw [if_neg z]; exact Ev.iteF (by simpa using z) (Ev.now _)
    · rw [if_neg z]; exact Ev.iteF (by simpa using z) (Ev.now _)
  · rw [if_neg hs]
    exact Ev.iteF (fun h => hs (h2.1 h)) (Ev.now _)
theorem ar_two (p q : Pt) : arP p q p = 0 ∧ arP p q q = 0 := by
  unfold arP areaP
  constructor
  · rw [show p.f0 * q.f1 - p.f0 * p.f1 + q.f0 * p.f1 - q.f0 * p.f1 + p.f0 * p.f1 - p.f0 * q.f1 = 0 by grind]; exact w64 (by omega) (by omega)
  · rw [show p.f0 * q.f1 - p.f0 * q.f1 + q.f0 * q.f1 - q.f0 * p.f1 + q.f0 * p.f1 - q.f0 * q.f1 = 0 by grind]; exact w64 (by omega) (by omega)
theorem six_list (l : List Pt) (h : l.length = 6) : l = [gP l 0, gP l 1, gP l 2, gP l 3, gP l 4, gP l 5] := by
  match l, h with
  | [a, b, c, d, e, f], _ => rfl
theorem any_is (l : List Pt) (hs : sixP l) (h1 : arP (gP l 0) (gP l 1) (gP l 2) = 0) (h2 : arP (gP l 3) (gP l 4) (gP l 5) = 0) : (l.any fun p => onL (thrT l 0 1) p && onL (thrT l 3 4) p) = papBad l := by
  have h6 := hs.1
  have fit : ∀ i : Int, 0 ≤ i → i < 6 → fits20 (gP l i) = true := fun i h0 h1 => hs.2.1 i h0 (by omega)
  have o1 : ∀ i : Int, 0 ≤ i → i < 6 → onL (thrT l 0 1) (gP l i) = (arP (gP l 0) (gP l 1) (gP l i) == 0) := fun i a b => on_line l 0 1 _ (fit 0 (by omega) (by omega)) (fit 1 (by omega) (by omega)) (fit i a b) (hs.2.2 0 1 (by omega) (by omega) (by omega))
  have o2 : ∀ i : Int, 0 ≤ i → i < 6 → onL (thrT l 3 4) (gP l i) = (arP (gP l 3) (gP l 4) (gP l i) == 0) := fun i a b => on_line l 3 4 _ (fit 3 (by omega) (by omega)) (fit 4 (by omega) (by omega)) (fit i a b) (hs.2.2 3 4 (by omega) (by omega) (by omega))
  have e : (l.any fun p => onL (thrT l 0 1) p && onL (thrT l 3 4) p) = ([gP l 0, gP l 1, gP l 2, gP l 3, gP l 4, gP l 5].any fun p => onL (thrT l 0 1) p && onL (thrT l 3 4) p) := congrArg (fun m : List Pt => m.any fun p => onL (thrT l 0 1) p && onL (thrT l 3 4) p) (six_list l h6)
  rw [e]
  simp only [List.any_cons, List.any_nil, Bool.or_false, o1 0 (by omega) (by omega), o1 1 (by omega) (by omega), o1 2 (by omega) (by omega), o1 3 (by omega) (by omega), o1 4 (by omega) (by omega), o1 5 (by omega) (by omega), o2 0 (by omega) (by omega), o2 1 (by omega) (by omega), o2 2 (by omega) (by omega), o2 3 (by omega) (by omega), o2 4 (by omega) (by omega), o2 5 (by omega) (by omega)]
  rw [(ar_two (gP l 0) (gP l 1)).1, (ar_two (gP l 0) (gP l 1)).2, (ar_two (gP l 3) (gP l 4)).1, (ar_two (gP l 3) (gP l 4)).2, h1, h2]
  unfold papBad badAt
  rw [show (3 : Int) + 0 = 3 from rfl, show (3 : Int) + 1 = 4 from rfl, show (3 : Int) + 2 = 5 from rfl]
  cases (arP (gP l 3) (gP l 4) (gP l 0) == 0) <;> cases (arP (gP l 3) (gP l 4) (gP l 1) == 0) <;> cases (arP (gP l 3) (gP l 4) (gP l 2) == 0) <;> cases (arP (gP l 0) (gP l 1) (gP l 3) == 0) <;> cases (arP (gP l 0) (gP l 1) (gP l 4) == 0) <;> cases (arP (gP l 0) (gP l 1) (gP l 5) == 0) <;> rfl
theorem impl_Pappus_ev (l : List Pt) (hl : l.length ≤ 1099511627776) : Ev (fun k => impl_PappusOf.f k l) (papR l) := by
  obtain ⟨b, h1, h2⟩ := areSix_ev l hl
  simp only [impl_PappusOf.f]
  refine Ev.bind h1 ?_
  unfold papR
  by_cases hs : sixP l
  · have h6 := hs.1
    rw [if_pos hs]
    refine Ev.iteT (h2.2 hs) (Ev.iteT hs.1 ?_)
    refine Ev.bind (thrP_ev l 0 1) (Ev.bind (thrP_ev l 3 4) ?_)
    have fit : ∀ i : Int, 0 ≤ i → i < 6 → fits20 (gP l i) = true := fun i h0 h1 => hs.2.1 i h0 (by omega)
    have o1 : onL (thrT l 0 1) (ptP l 2) = (arP (gP l 0) (gP l 1) (gP l 2) == 0) := on_line l 0 1 _ (fit 0 (by omega) (by omega)) (fit 1 (by omega) (by omega)) (fit 2 (by omega) (by omega)) (hs.2.2 0 1 (by omega) (by omega) (by omega))
    have o2 : onL (thrT l 3 4) (ptP l 5) = (arP (gP l 3) (gP l 4) (gP l 5) == 0) := on_line l 3 4 _ (fit 3 (by omega) (by omega)) (fit 4 (by omega) (by omega)) (fit 5 (by omega) (by omega)) (hs.2.2 3 4 (by omega) (by omega) (by omega))
    rw [o1, o2]
    by_cases z : arP (gP l 0) (gP l 1) (gP l 2) = 0
    · rw [if_pos z]
      refine Ev.iteT (by simpa using z) ?_
      by_cases z2 : arP (gP l 3) (gP l 4) (gP l 5) = 0
      · rw [if_pos z2, any_is l hs z z2]
        refine Ev.iteT (by simpa using z2) (Ev.bind (areOneLine_ev _ _ _ _ _ _) ?_)
        by_cases q : zeroT (crossTT (thrT l 0 1) (thrT l 3 4)) = true
        · have e : (if papBad l = true then (([] : List Tr), false) else if zeroT (crossTT (thrT l 0 1) (thrT l 3 4)) = true then ([], false) else (papL l, true)) = ([], false) := by rw [if_pos q]; exact ite_self _
          rw [e]
          exact Ev.iteT q (Ev.now _)
        · refine Ev.iteF q ?_
          by_cases w : papBad l = true
          · rw [if_pos w]; exact Ev.iteT w (Ev.now _)
          · rw [if_neg w, if_neg q]
            exact Ev.iteF w (Ev.bind (pairC_ev l 0 4 1 3) (Ev.bind (pairC_ev l 0 5 2 3) (Ev.bind (pairC_ev l 1 5 2 4) (Ev.now _))))
      · rw [if_neg z2]; exact Ev.iteF (by simpa using z2) (Ev.now _)
    · rw [if_neg z]; exact Ev.iteF (by simpa using z) (Ev.now _)
  · rw [if_neg hs]
    exact Ev.iteF (fun h => hs (h2.1 h)) (Ev.now _)
end Go.Proofs.Ytldcckcljjlglaa.Pure

namespace Go.Proofs.Ytldcckcljjlglaa.Pure
open Go.RowKit Go.Proofs.Ytldcckcljjlglaa.P Go.Proofs.YtldcckcljjlglaaW.PrintWords Go.Proofs.YtldcckcljjlglaaW.PrintLast
set_option linter.unusedSimpArgs false
set_option linter.unusedVariables false
open Go.Proofs.Ytldcckcljjlglaa.Com
theorem eqTripleS_l0 (a : List S72) (hm : a.length ≤ 1099511627776) (d : Nat) : ∀ (k : Nat) (i : Int), 0 ≤ i → i + d = a.length → d < k → laws_eqTripleS.l0 k a a i = some true := by
  induction d with
  | zero =>
    intro k i h0 hi hk
    obtain ⟨k, rfl, _⟩ := succ_of_lt hk
    simp only [laws_eqTripleS.l0]
    rw [if_neg (by omega)]
  | succ d ih =>
    intro k i h0 hi hk
    obtain ⟨k, rfl, hk⟩ := succ_of_lt hk
    simp only [laws_eqTripleS.l0]
    rw [if_pos (by omega), if_pos h0, if_pos (by omega)]
    simp only [laws_eqTriple.f, if_true, Option.bind_some]
    rw [w64 (by omega) (by omega), ih k (i + 1) (by omega) (by omega) (by omega)]
theorem eqTripleS_refl (a : List S72) (hm : a.length ≤ 1099511627776) : Ev (fun k => laws_eqTripleS.f k a a) true := by
  refine ⟨a.length + 1, fun k hk => ?_⟩
  dsimp only
  unfold laws_eqTripleS.f
  rw [if_pos rfl, eqTripleS_l0 a hm a.length k 0 (by omega) (by omega) (by omega)]
end Go.Proofs.Ytldcckcljjlglaa.Pure

namespace Go.Proofs.Ytldcckcljjlglaa.Pure
open Go.RowKit Go.Proofs.Ytldcckcljjlglaa.P Go.Proofs.YtldcckcljjlglaaW.PrintWords Go.Proofs.YtldcckcljjlglaaW.PrintLast
set_option linter.unusedSimpArgs false
set_option linter.unusedVariables false
open Go.Proofs.Ytldcckcljjlglaa.Com
def marksTriple (x : Int) : Nat → List S72
  | 0 => []
  | d + 1 => ⟨x, x + 1, x + 2⟩ :: marksTriple (x + 3) d
theorem marksTriple_length (x : Int) (d : Nat) : (marksTriple x d).length = d := by
  induction d generalizing x with
  | zero => rfl
  | succ d ih => simp [marksTriple, ih]
theorem markTriple_l0 (d : Nat) : ∀ (k : Nat) (i x : Int) (l : List S72), l.length ≤ 1099511627776 → 0 ≤ i → i + d = l.length → 0 ≤ x → x + 3 * d ≤ 4611686018427387904 → d < k →
    laws_markTripleS.l0 k l x i = some (x + 3 * d, l.take i.toNat ++ marksTriple x d) := by
  induction d with
  | zero =>
    intro k i x l hm h0 hi hx hb hk
    obtain ⟨k, rfl, _⟩ := succ_of_lt hk
    simp only [laws_markTripleS.l0]
    rw [if_neg (by omega), List.take_of_length_le (by omega)]; simp [marksTriple]
  | succ d ih =>
    intro k i x l hm h0 hi hx hb hk
    obtain ⟨k, rfl, hk⟩ := succ_of_lt hk
    have hlt : i.toNat < l.length := by omega
    simp only [laws_markTripleS.l0]
    rw [if_pos (by omega), if_pos h0]
    have w1 : wrap64 (x + 1) = x + 1 := w64 (by omega) (by omega)
    have w2 : wrap64 (x + 1 + 1) = x + 2 := by rw [w64 (by omega) (by omega)]; omega
    have w3 : wrap64 (x + 2 + 1) = x + 3 := by rw [w64 (by omega) (by omega)]; omega
    have wi : wrap64 (i + 1) = i + 1 := w64 (by omega) (by omega)
    simp only [Option.bind_some, w1, w2, w3, wi, rd_T72, List.set_set, getD_set _ _ _ _ (show i.toNat < (l.set i.toNat _).length from by simpa using hlt), getD_set _ _ _ _ hlt]
    rw [ih k (i + 1) _ _ (by simpa using hm) (by omega) (by simpa using (by omega : i + 1 + (d : Int) = l.length)) (by omega) (by omega) (by omega)]
    rw [show (i + 1).toNat = i.toNat + 1 from by omega, set_take_succ _ _ _ hlt]
    simp only [marksTriple, List.append_assoc, List.singleton_append]
    congr 2
    omega
theorem heldTriple_l0 (d : Nat) : ∀ (k : Nat) (i x : Int) (l : List S72), l.length ≤ 1099511627776 → 0 ≤ i → i + d = l.length → 0 ≤ x → x + 3 * d ≤ 4611686018427387904 → l.drop i.toNat = marksTriple x d → d < k →
    laws_heldTripleS.l0 k l x i = some (x + 3 * d) := by
  induction d with
  | zero =>
    intro k i x l hm h0 hi hx hb hl hk
    obtain ⟨k, rfl, _⟩ := succ_of_lt hk
    simp only [laws_heldTripleS.l0]
    rw [if_neg (by omega)]; simp
  | succ d ih =>
    intro k i x l hm h0 hi hx hb hl hk
    obtain ⟨k, rfl, hk⟩ := succ_of_lt hk
    have hlt : i.toNat < l.length := by omega
    rw [drop_cons l i.toNat z72 hlt] at hl
    simp only [marksTriple, List.cons.injEq] at hl
    have w1 : wrap64 (x + 1) = x + 1 := w64 (by omega) (by omega)
    have w2 : wrap64 (x + 1 + 1) = x + 2 := by rw [w64 (by omega) (by omega)]; omega
    have w3 : wrap64 (x + 2 + 1) = x + 3 := by rw [w64 (by omega) (by omega)]; omega
    have wi : wrap64 (i + 1) = i + 1 := w64 (by omega) (by omega)
    simp only [laws_heldTripleS.l0, rd_T72, hl.1, w1, w2, w3, wi, if_true]
    rw [if_pos (by omega), if_pos h0, ih k (i + 1) _ l hm (by omega) (by omega) (by omega) (by omega) (by rw [show (i + 1).toNat = i.toNat + 1 from by omega]; exact hl.2) (by omega)]
    congr 1
    omega
theorem markTriple_eq (l : List S72) (hm : l.length ≤ 1099511627776) : Ev (fun k => laws_markTripleS.f k l 1) (1 + 3 * (l.length : Int), marksTriple 1 l.length) := by
  refine ⟨l.length + 1, fun k hk => ?_⟩
  dsimp only
  unfold laws_markTripleS.f
  rw [markTriple_l0 l.length k 0 1 l hm (by omega) (by omega) (by omega) (by omega) (by omega)]; simp
theorem heldTriple_eq (n : Nat) (hm : n ≤ 1099511627776) : Ev (fun k => laws_heldTripleS.f k (marksTriple 1 n) 1) (1 + 3 * (n : Int)) := by
  refine ⟨n + 1, fun k hk => ?_⟩
  dsimp only
  unfold laws_heldTripleS.f
  rw [heldTriple_l0 n k 0 1 _ (by rw [marksTriple_length]; exact hm) (by omega) (by rw [marksTriple_length]; omega) (by omega) (by omega) (by simp) (by omega)]
end Go.Proofs.Ytldcckcljjlglaa.Pure

namespace Go.Proofs.Ytldcckcljjlglaa.Pure
open Go.RowKit Go.Proofs.Ytldcckcljjlglaa.P Go.Proofs.YtldcckcljjlglaaW.PrintWords Go.Proofs.YtldcckcljjlglaaW.PrintLast
set_option linter.unusedSimpArgs false
set_option linter.unusedVariables false
open Go.Proofs.Ytldcckcljjlglaa.Com
def marksPoint (x : Int) : Nat → List S80
  | 0 => []
  | d + 1 => ⟨x, x + 1⟩ :: marksPoint (x + 2) d
theorem marksPoint_length (x : Int) (d : Nat) : (marksPoint x d).length = d := by
  induction d generalizing x with
  | zero => rfl
  | succ d ih => simp [marksPoint, ih]
theorem markPoint_l0 (d : Nat) : ∀ (k : Nat) (i x : Int) (l : List S80), l.length ≤ 1099511627776 → 0 ≤ i → i + d = l.length → 0 ≤ x → x + 2 * d ≤ 4611686018427387904 → d < k →
    laws_markPointS.l0 k l x i = some (x + 2 * d, l.take i.toNat ++ marksPoint x d) := by
  induction d with
  | zero =>
    intro k i x l hm h0 hi hx hb hk
    obtain ⟨k, rfl, _⟩ := succ_of_lt hk
    simp only [laws_markPointS.l0]
    rw [if_neg (by omega), List.take_of_length_le (by omega)]; simp [marksPoint]
  | succ d ih =>
    intro k i x l hm h0 hi hx hb hk
    obtain ⟨k, rfl, hk⟩ := succ_of_lt hk
    have hlt : i.toNat < l.length := by omega
    simp only [laws_markPointS.l0]
    rw [if_pos (by omega), if_pos h0]
    have w1 : wrap64 (x + 1) = x + 1 := w64 (by omega) (by omega)
    have w2 : wrap64 (x + 1 + 1) = x + 2 := by rw [w64 (by omega) (by omega)]; omega
    have wi : wrap64 (i + 1) = i + 1 := w64 (by omega) (by omega)
    simp only [Option.bind_some, w1, w2, wi, rd_T80, List.set_set, getD_set _ _ _ _ (show i.toNat < (l.set i.toNat _).length from by simpa using hlt), getD_set _ _ _ _ hlt]
    rw [ih k (i + 1) _ _ (by simpa using hm) (by omega) (by simpa using (by omega : i + 1 + (d : Int) = l.length)) (by omega) (by omega) (by omega)]
    rw [show (i + 1).toNat = i.toNat + 1 from by omega, set_take_succ _ _ _ hlt]
    simp only [marksPoint, List.append_assoc, List.singleton_append]
    congr 2
    omega
theorem markPoint_eq (l : List S80) (hm : l.length ≤ 1099511627776) : Ev (fun k => laws_markPointS.f k l 1) (1 + 2 * (l.length : Int), marksPoint 1 l.length) := by
  refine ⟨l.length + 1, fun k hk => ?_⟩
  dsimp only
  unfold laws_markPointS.f
  rw [markPoint_l0 l.length k 0 1 l hm (by omega) (by omega) (by omega) (by omega) (by omega)]; simp
end Go.Proofs.Ytldcckcljjlglaa.Pure

namespace Go.Proofs.Ytldcckcljjlglaa.Pure
open Go.RowKit Go.Proofs.Ytldcckcljjlglaa.P Go.Proofs.YtldcckcljjlglaaW.PrintWords Go.Proofs.YtldcckcljjlglaaW.PrintLast Go.Proofs.Ytldcckcljjlglaa.Com
set_option linter.unusedSimpArgs false
set_option linter.unusedVariables false

theorem FnExactPappusOf : laws_FnExactPappusOf.Pure := by
  rintro x ⟨hm, _⟩
  apply Ev.rounds
  simp only [laws_FnExactPappusOf.f, szPointS_eq x hm, Option.bind_some]
  by_cases h : x.length ≤ 1048576
  · rw [if_pos h]
    refine Ev.iteF (by omega) ?_
    have hl : (x.map convPoint).length ≤ 1048576 := by simpa using h
    obtain ⟨⟨r, b⟩, h1, h2, hr⟩ : ∃ r, Ev (fun k => spec_PappusOf.f k (x.map convPoint)) r ∧ Ev (fun k => impl_PappusOf.f k (x.map convPoint)) r ∧ r.1.length ≤ 3 := ⟨_, spec_Pappus_ev _ (by omega), impl_Pappus_ev _ (by omega), papR_length _⟩
    simp only at hr
    have hbb : (b != b) = false := bne_self_eq_false b
    refine Ev.bind (toPointS_eq x h) (Ev.bind h1 (Ev.bind (toPointS_eq x h) (Ev.bind h2 (Ev.bind (eqTripleS_refl r (by omega)) (Ev.iteT rfl ?_)))))
    rw [hbb]
    refine Ev.step (fun q => by simp only [laws_FnExactPappusOf.j0, Bool.false_eq_true, if_false]; rfl) ?_
    refine Ev.bind (toPointS_eq x h) (Ev.bind (eqPointS_refl _ (by omega)) (Ev.iteT rfl (Ev.bind (markPoint_eq _ (by omega)) (Ev.iteF (by simp only []; omega) (Ev.bind (eqTripleS_refl r (by omega)) (Ev.iteT rfl ?_))))))
    rw [hbb]
    refine Ev.step (fun q => by simp only [laws_FnExactPappusOf.j1, Bool.false_eq_true, if_false]; rfl) ?_
    refine Ev.bind (markTriple_eq r (by omega)) (Ev.bind (heldTriple_eq r.length (by omega)) (Ev.iteF (by omega) (Ev.iteT rfl (Ev.bind (toPointS_eq x h) (Ev.bind h2 (Ev.bind (eqTripleS_refl r (by omega)) (Ev.iteT rfl ?_)))))))
    rw [hbb]
    refine Ev.step (fun q => by simp only [laws_FnExactPappusOf.j2, Bool.false_eq_true, if_false]; rfl) ?_
    exact Ev.bind (heldTriple_eq r.length (by omega)) (Ev.iteF (by omega) (Ev.iteT rfl (Ev.now true)))
  · rw [if_neg h]
    exact Ev.iteT (by omega) (Ev.now true)
end Go.Proofs.Ytldcckcljjlglaa.Pure

namespace Go.Proofs.Ytldcckcljjlglaa.Opn
open Go Go.Deep Go.ChangeShapes Go.WideShapes Go.Proofs.YtldcckcljjlglaaW.PrintWords

section
variable {H : Type} (enc : TypeId × Value → H) (P : Program) (w : World) (base : Nat) (spare : Nat → Bool) (held : Bool)
/-- Whatever is read at type t is told by the kind d, and Q holds of it. -/
def Opens {α : Type} (d : Kd α) (t : TypeId) (Q : α → Prop) : Prop :=
  ∀ (fuel : Nat) (cs : List Value) (x : DataW H × List MemPlace), DataW.trod enc P w base spare held fuel t cs = some x → ∃ a, d.K w a cs ∧ Q a
end
section
variable {H : Type} {enc : TypeId × Value → H} {P : Program} {w : World} {base : Nat} {spare : Nat → Bool} {held : Bool}
theorem opens_int {t : TypeId} {k : IntKind} (ht : P.underlying t = some (.int k)) : Opens enc P w base spare held (Kd.int k) t (fun n => (Lit.int k n).wf = true) := fun fuel cs x h => by
  obtain ⟨n, rfl, _, hw⟩ := DataW.trod_int ht h
  exact ⟨n, rfl, hw⟩
theorem opens_bool {t : TypeId} (ht : P.underlying t = some .bool) : Opens enc P w base spare held Kd.bool t (fun _ => True) := fun fuel cs x h => by
  obtain ⟨n, rfl, _⟩ := DataW.trod_bool ht h
  exact ⟨n, rfl, trivial⟩
theorem opens_string {t : TypeId} (ht : P.underlying t = some .string) : Opens enc P w base spare held Kd.string t (fun s => s.size ≤ maxLen) := fun fuel cs x h => by
  obtain ⟨n, rfl, _, hs⟩ := DataW.trod_string ht h
  exact ⟨n, rfl, hs⟩
theorem opens_iso {α β : Type} {d : Kd α} {t : TypeId} {Q : α → Prop} (h : Opens enc P w base spare held d t Q) (f : β → α) (g : α → β) (hfg : ∀ a, f (g a) = a) : Opens enc P w base spare held (Kd.iso d f) t (fun b => Q (f b)) := fun fuel cs x hx => by
  obtain ⟨a, hK, hQ⟩ := h fuel cs x hx
  exact ⟨g a, by show d.K w (f (g a)) cs; rw [hfg]; exact hK, by show Q (f (g a)); rw [hfg]; exact hQ⟩
/-- A list of fields, one behind the other, from the cell o on. -/
def OpensFs (enc : TypeId × Value → H) (P : Program) (w : World) (base : Nat) (spare : Nat → Bool) (held : Bool) {α : Type} (d : Kd α) (o : Nat) (fs : List Field) (Q : α → Prop) : Prop :=
  ∀ (n : Nat) (cs : List Value), cs.length = o + d.sz → (∀ f ∈ fs, ∃ x, DataW.trod enc P w base spare held n f.type ((cs.drop f.offset).take (P.cellsOf f.type)) = some x) → ∃ a, d.K w a (cs.drop o) ∧ Q a
theorem opensFs_one {α : Type} {d : Kd α} {o : Nat} {f : Field} {Q : α → Prop} (h : Opens enc P w base spare held d f.type Q) (ho : f.offset = o) (hc : P.cellsOf f.type = d.sz) : OpensFs enc P w base spare held d o [f] Q := by
  intro n cs hl hf
  obtain ⟨x, hx⟩ := hf f (by simp)
  obtain ⟨a, hK, hQ⟩ := h n _ x hx
  refine ⟨a, ?_, hQ⟩
  rwa [ho, hc, List.take_of_length_le (by rw [List.length_drop]; omega)] at hK
theorem opensFs_cons {α β : Type} {d : Kd α} {e : Kd β} {o : Nat} {f : Field} {fs : List Field} {Q : α → Prop} {R : β → Prop} (h : Opens enc P w base spare held d f.type Q) (hs : OpensFs enc P w base spare held e (o + d.sz) fs R) (ho : f.offset = o) (hc : P.cellsOf f.type = d.sz) :
    OpensFs enc P w base spare held (Kd.pair d e) o (f :: fs) (fun x => Q x.1 ∧ R x.2) := by
  intro n cs hl hf
  have hz : (Kd.pair d e).sz = d.sz + e.sz := rfl
  rw [hz] at hl
  obtain ⟨x, hx⟩ := hf f (by simp)
  obtain ⟨a, hK, hQ⟩ := h n _ x hx
  obtain ⟨b, hK', hR⟩ := hs n cs (by omega) (fun g hg => hf g (by simp [hg]))
  rw [ho, hc] at hK
  refine ⟨(a, b), ⟨(cs.drop o).take d.sz, cs.drop (o + d.sz), ?_, hK, hK'⟩, hQ, hR⟩
  rw [← List.drop_drop, List.take_append_drop]
theorem opens_struct {α : Type} {d : Kd α} {t : TypeId} {fs : Array Field} {Q : α → Prop} (ht : P.underlying t = some (.struct fs)) (hc : P.cellsOf t = d.sz) (h : OpensFs enc P w base spare held d 0 fs.toList Q) : Opens enc P w base spare held d t Q := fun fuel cs x hx => by
  obtain ⟨xs, n, rfl, rfl, hl, hlen, hf⟩ := DataW.trod_struct ht hx
  obtain ⟨a, hK, hQ⟩ := h n cs (by omega) (fun f hm => by
    obtain ⟨i, hi, rfl⟩ := List.mem_iff_getElem.1 hm
    have hi' : i < fs.size := by simpa using hi
    have := hf i fs[i] (by simp [hi'])
    rw [List.getElem?_eq_getElem (by omega)] at this
    exact ⟨_, by simpa using this⟩)
  exact ⟨a, by simpa using hK, hQ⟩
theorem opens_slice {α : Type} {d : Kd α} {t e : TypeId} {Q : α → Prop} (ht : P.underlying t = some (.slice e)) (hc : P.cellsOf e = d.sz) (h : Opens enc P w base spare held d e Q) :
    Opens enc P w base spare held (Kd.slice e d) t (fun xs => xs.length ≤ maxLen ∧ ∀ x ∈ xs, Q x) := fun fuel cs x hx => by
  rcases open_slice ht hx with ⟨rfl, _⟩ | ⟨a, len, cap, m, n, D, Pl, rfl, _, hl, hm, hmm, _, hel⟩
  · exact ⟨[], ⟨none, 0, rfl, Nat.le_refl _, ⟨rfl, by simp, fun h => by simp at h⟩⟩, by simp⟩
  have hlm : len ≤ m := by rw [hmm]; split <;> omega
  have hi : ∀ i : Fin len, ∃ y : α, (∃ cs', w.cells? base (a.add (i.val * P.cellsOf e)) (P.cellsOf e) = some cs' ∧ d.K w y cs') ∧ Q y := fun i => by
    obtain ⟨cs', h1, h2⟩ := hel i.val (by omega)
    obtain ⟨y, hK, hQ⟩ := h _ _ _ h2
    exact ⟨y, ⟨cs', h1, hK⟩, hQ⟩
  let f : Fin len → α := fun i => Classical.choose (hi i)
  have hfs : ∀ i : Fin len, (∃ cs', w.cells? base (a.add (i.val * P.cellsOf e)) (P.cellsOf e) = some cs' ∧ d.K w (f i) cs') ∧ Q (f i) := fun i => Classical.choose_spec (hi i)
  have hlen : (List.ofFn f).length = len := by simp
  have hmax : cap ≤ 9223372036854775807 := by unfold maxLen at hm; omega
  refine ⟨List.ofFn f, ⟨some a, cap, by rw [hlen], by omega, ⟨rfl, by omega, fun _ => ⟨a, rfl, fun j p hj => ?_⟩⟩⟩, by omega, fun y hy => ?_⟩
  · obtain ⟨hj', rfl⟩ := List.getElem?_eq_some_iff.1 hj
    obtain ⟨⟨cs', h1, hK⟩, _⟩ := hfs ⟨j, by omega⟩
    obtain ⟨_, hcl, hcell⟩ := World.cells?_some h1
    refine ⟨cs', by omega, by simpa using hK, fun i u hu => ?_⟩
    have hiu : i < P.cellsOf e := by
      have := (List.getElem?_eq_some_iff.1 hu).1
      omega
    have := hcell i hiu
    rw [Go.Deep.add_add, hu, hc] at this
    exact this
  · obtain ⟨i, rfl⟩ := (List.mem_ofFn).1 hy
    exact (hfs i).2
end
end Go.Proofs.Ytldcckcljjlglaa.Opn

namespace Go.Proofs.Ytldcckcljjlglaa.fnExactPappusOf
open Go.ChangeShapes Go.WideShapes Go.ChangeAt Go.RowKit Go.Proofs.Ytldcckcljjlglaa.P Go.Proofs.Ytldcckcljjlglaa.Opn Go.Proofs.YtldcckcljjlglaaW.PrintWords
open Go.ChangeMaps (open_string shut_string)
set_option linter.unusedVariables false
set_option linter.unusedSimpArgs false
theorem own : ownKnob Try.prog.godebug = none := by kernel_rfl
theorem laidOut : laidOutB Try.prog = true := by kernel_rfl
set_option maxRecDepth 100000 in
theorem lifted (os : Os) (started : os.Started) (H : Type) (enc : TypeId × Value → H) :
  ReturnsInHanded {} Try.checked os 12 .any (Rows.fnExactPappusOfSpec.pre6 enc Try.prog Try.f12 Rows.fnExactPappusOfRow.domain false) (Rows.fnExactPappusOfSpec.post enc Try.prog Try.f12 false true false false) := by
 refine returnsInHanded_of_change_sized (C := Try.checked) own started (by kernel_rfl) Try.func12
  (ChangeSpec.witness6 (enc := enc) (C := Try.checked) false ⟨#[], #[.slice none 0 0], []⟩ 8 (by kernel_rfl) (by kernel_rfl) (by kernel_rfl) (by kernel_rfl)) ?_
 intro W base args ds gs before hval0 hW hcnd hsz0 _
 have hval : ∀ (j : Nat) t v, Try.f12.params[j]? = some t → args[j]? = some v → Value.okWide Try.prog W .any base t v := hval0
 have hW' := hW
 obtain ⟨p, q, hA0, hV, rfl, hfz, hnd⟩ := hW
 have hA : DataW.TrodAll enc Try.prog W 0 (fun _ => true) true Try.f12.params.toList args.toList ds p := hA0
 rw [Try.params12] at hA hval
 obtain ⟨v0, vs0, d0, ds0, p0, q0, hargs, rfl, rfl, h0, r0⟩ := trodAll_cons hA
 obtain ⟨rfl, rfl, rfl⟩ := trodAll_nil r0
 obtain rfl : args = #[v0] := by cases args; simp_all
 obtain ⟨rfl, rfl⟩ := trodVars_none hV
 have k0 := h0
 have lt0 : ∀ x ∈ p0, x.block < W.heap.size := by obtain ⟨m, hm⟩ := k0; exact DataW.trod_lt m _ _ _ hm
 obtain ⟨a0, len0, cap0, rfl⟩ := okWide_slice Try.underlying58 (hval 0 58 v0 rfl rfl)
 obtain ⟨x0, ⟨A0, c0, e0, hc0, hC0⟩, y0⟩ : ∃ xs : List (S114), (Kd.slice 114 k114).K W xs [.slice a0 len0 cap0] ∧ (xs.length ≤ maxLen ∧ ∀ y0 ∈ xs, ((Lit.int .i64 y0.f0).wf = true ∧ (Lit.int .i64 y0.f1).wf = true)) := by obtain ⟨m, hm⟩ := h0; exact (opens_slice Try.underlying58 (by kernel_rfl) (opens_iso (opens_struct Try.underlying114 (by kernel_rfl) (opensFs_cons (opens_int Try.underlying3) (opensFs_one (opens_int Try.underlying3) rfl (by kernel_rfl)) rfl (by kernel_rfl))) (fun x : S114 => (x.f0, x.f1)) (fun a => (⟨a.1, a.2⟩ : S114)) (fun _ => rfl))) m _ _ hm
 simp only [List.cons.injEq, Value.slice.injEq, and_true] at e0
 obtain ⟨rfl, rfl, rfl⟩ := e0
 clear hA0 hval0 hsz0
 obtain ⟨k, hP⟩ := Pure.FnExactPappusOf x0 y0
 refine (laws_FnExactPappusOf.calls k _ _ x0 true W hC0 hc0 hP).mono ?_
 rintro e W' ⟨he, bel0⟩
 have bel : Below W.heap.size W W' := bel0
 subst he
 exact ⟨_, rfl, _, _, _, [], _, [], hW', trodAll_mk1 (shut_bool Try.underlying4 _), (trodAll_cons_mk (Below.trod laidOut (by kernel_rfl) (of_decide_eq_true (by kernel_rfl)) k0 bel lt0) trodAll_mk0), rfl, bel.frame _, fun h => by cases h⟩
theorem over : Rows.fnExactPappusOfRow.holds Try.pinned (OpenSpec.ofChange Rows.fnExactPappusOfSpec) :=
 OpenClaim.holds_of_wide 12 Try.f12 rfl rfl rfl rfl rfl rfl rfl ⟨rfl, rfl, rfl, rfl, rfl⟩ rfl rfl rfl rfl rfl (by kernel_rfl) Try.func12 (by kernel_rfl)
  (of_decide_eq_true (by kernel_rfl)) (by unfold Func.isWrapper; first | (rw [if_pos (by decide +kernel)]; kernel_rfl) | (rw [if_neg (by decide +kernel)]; exact ⟨rfl, rfl⟩))
  (fun os started H enc _ => lifted os started H enc)
theorem proved : Rows.FnExactPappusOfSaid := over
#print axioms proved
end Go.Proofs.Ytldcckcljjlglaa.fnExactPappusOf
namespace Go.Proofs.Ytldcckcljjlglaa
/-- The row, under a short name, for the claim. -/
theorem fnExactPappusOf_holds : Rows.FnExactPappusOfSaid := fnExactPappusOf.proved
end Go.Proofs.Ytldcckcljjlglaa

