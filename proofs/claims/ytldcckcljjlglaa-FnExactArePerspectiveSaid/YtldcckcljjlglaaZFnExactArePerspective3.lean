/- For every list of points the program's ArePerspective returns what the reference's returns, and leaves the list as it was; no condition. -/
import Derived.Test.YtldcckcljjlglaaZFnExactArePerspective2
import Derived.Test.YtldcckcljjlglaaRows
import Derived.Test.YtldcckcljjlglaaProg
import Derived.Below
import Derived.Deep.Draws
import Derived.Deep.AppendLies
import Derived.Maps.AppendAt
import Derived.OwnWalk
import Derived.Laws.BytesArg
import Derived.Laws.MakeOwn
import Derived.Laws.OwnMore
import Derived.Deep.OwnRows
import Derived.Tactics
import Derived.Lib.ConvBytes
import Derived.Laws.Slices
import Derived.WalkKit
import Derived.KernelRfl
import Derived.RowKit3
import Derived.Deep.LoopGhost
import Derived.Deep.QuietTactic
import Derived.BigQuiet
import Derived.WideLaws
import Derived.Deep.DeepCutAuto
import Derived.Deep.CutBlock
import Derived.Deep.RegionHeld3
import Derived.Laws.Rows
import Derived.Lib.AppendStr
import Derived.ArgAppend
import Derived.Laws.IdiomCopy
import Derived.OrdersHeld
import Derived.Laws.BitsLemmas
import Derived.RowKit
import Derived.Shelf.Abstract
import Derived.Test.YtldcckcljjlglaaWWords
import Derived.Test.YtldcckcljjlglaaWLast
import Derived.Test.YtldcckcljjlglaaWTab
import Derived.Test.YtldcckcljjlglaaWFour
import Derived.Test.YtldcckcljjlglaaWQPut
import Derived.Test.YtldcckcljjlglaaWApart
import Derived.Test.YtldcckcljjlglaaWArr
import Derived.Test.YtldcckcljjlglaaWZeros
import Derived.Test.YtldcckcljjlglaaWFoot
import Derived.Test.YtldcckcljjlglaaWKept
import Derived.Test.YtldcckcljjlglaaWShare
import Derived.Test.YtldcckcljjlglaaWN
import Derived.Test.YtldcckcljjlglaaWEqStruct
import Derived.Test.YtldcckcljjlglaaWRepsOne
import Derived.Test.YtldcckcljjlglaaWNEv
import Derived.Test.YtldcckcljjlglaaWMore
import Derived.Deep.Slices
import Derived.ChangeOld
import Derived.Carry
import Derived.ProofKit
import Derived.OpenShut
import Derived.ShutString
import Derived.SizedLaws
namespace Go.Proofs.Ytldcckcljjlglaa.P
open Go.RowKit Go.Proofs.YtldcckcljjlglaaW.PrintWords Go.Proofs.YtldcckcljjlglaaW.PrintLast Go.Proofs.YtldcckcljjlglaaW.PrintMore
attribute [local go_sem] max2_int min2_int max_two min_two max_three min_three max_four min_four   -- for this text's walks alone
set_option linter.unusedVariables false
set_option linter.unusedSimpArgs false

/-! ### impl_AreOnOne: function 83 -/
def impl_AreOnOne.f (a0_0 : Int) (a0_1 : Int) (a0_2 : Int) (a1_0 : Int) (a1_1 : Int) (a1_2 : Int) (a2_0 : Int) (a2_1 : Int) (a2_2 : Int) : Option (Bool) := (impl_isLimited.f 100000 (([(⟨a0_0, a0_1, a0_2⟩ : S72), (⟨a1_0, a1_1, a1_2⟩ : S72), (⟨a2_0, a2_1, a2_2⟩ : S72)] : List (S72)))).bind fun t107 => (if t107 = true then (some ((wrap64 ((wrap64 ((wrap64 (a0_0 * (wrap64 ((wrap64 (a1_1 * a2_2)) - (wrap64 (a1_2 * a2_1)))))) - (wrap64 (a0_1 * (wrap64 ((wrap64 (a1_0 * a2_2)) - (wrap64 (a1_2 * a2_0)))))))) + (wrap64 (a0_2 * (wrap64 ((wrap64 (a1_0 * a2_1)) - (wrap64 (a1_1 * a2_0)))))))) == 0)) else (some false))
set_option maxHeartbeats 8000000 in
set_option maxRecDepth 100000 in
theorem impl_AreOnOne.calls (a0_0 : Int) (a0_1 : Int) (a0_2 : Int) (a1_0 : Int) (a1_1 : Int) (a1_2 : Int) (a2_0 : Int) (a2_1 : Int) (a2_2 : Int) (r : Bool) (w : World) (h : impl_AreOnOne.f a0_0 a0_1 a0_2 a1_0 a1_1 a1_2 a2_0 a2_1 a2_2 = some r) :
  Calls Try.prog 83 #[.agg #[.int .i64 a0_0, .int .i64 a0_1, .int .i64 a0_2], .agg #[.int .i64 a1_0, .int .i64 a1_1, .int .i64 a1_2], .agg #[.int .i64 a2_0, .int .i64 a2_1, .int .i64 a2_2]] w fun e w' => e = .returned (.bool r) ∧ Below w.heap.size w w' := by
 have hu72 := Try.underlying72
 have HB := Aside0.mk (Below.refl w.heap.size w)
 have H : ((impl_isLimited.f 100000 (([(⟨a0_0, a0_1, a0_2⟩ : S72), (⟨a1_0, a1_1, a1_2⟩ : S72), (⟨a2_0, a2_1, a2_2⟩ : S72)] : List (S72)))).bind fun t107 => (if t107 = true then (some ((wrap64 ((wrap64 ((wrap64 (a0_0 * (wrap64 ((wrap64 (a1_1 * a2_2)) - (wrap64 (a1_2 * a2_1)))))) - (wrap64 (a0_1 * (wrap64 ((wrap64 (a1_0 * a2_2)) - (wrap64 (a1_2 * a2_0)))))))) + (wrap64 (a0_2 * (wrap64 ((wrap64 (a1_0 * a2_1)) - (wrap64 (a1_1 * a2_0)))))))) == 0)) else (some false))) = some r := h
 clear h
 obtain ⟨y104, hy104⟩ : ∃ y_ : List (S72), y_ = (([(⟨a0_0, a0_1, a0_2⟩ : S72), (⟨a1_0, a1_1, a1_2⟩ : S72), (⟨a2_0, a2_1, a2_2⟩ : S72)] : List (S72))) := ⟨_, rfl⟩
 replace H : ((impl_isLimited.f 100000 y104).bind fun t107 => (if t107 = true then (some ((wrap64 ((wrap64 ((wrap64 (a0_0 * (wrap64 ((wrap64 (a1_1 * a2_2)) - (wrap64 (a1_2 * a2_1)))))) - (wrap64 (a0_1 * (wrap64 ((wrap64 (a1_0 * a2_2)) - (wrap64 (a1_2 * a2_0)))))))) + (wrap64 (a0_2 * (wrap64 ((wrap64 (a1_0 * a2_1)) - (wrap64 (a1_1 * a2_0)))))))) == 0)) else (some false))) = some r := by first | (rw [hy104]; with_reducible exact H) | (have H2_ := (Option.bind_some _ _).symm.trans H; rw [hy104]; with_reducible exact H2_) | (have H2_ := (Option.bind_some _ _).symm.trans H; with_reducible exact H2_) | with_reducible exact H | (rw [hy104]; exact H) | exact H
 have Ny104 := Aside0.mk hy104
 clear hy104
 replace H := Option.bind_eq_some_iff.mp H
 obtain ⟨t107, A40, H⟩ := H
 replace H : (if t107 = true then (some ((wrap64 ((wrap64 ((wrap64 (a0_0 * (wrap64 ((wrap64 (a1_1 * a2_2)) - (wrap64 (a1_2 * a2_1)))))) - (wrap64 (a0_1 * (wrap64 ((wrap64 (a1_0 * a2_2)) - (wrap64 (a1_2 * a2_0)))))))) + (wrap64 (a0_2 * (wrap64 ((wrap64 (a1_0 * a2_1)) - (wrap64 (a1_1 * a2_0)))))))) == 0)) else (some false)) = some r := H
 have A4 := Aside0.mk A40
 clear A40
 by_cases c5 : t107 = true
 ·subst c5
  have H1 : (some ((wrap64 ((wrap64 ((wrap64 (a0_0 * (wrap64 ((wrap64 (a1_1 * a2_2)) - (wrap64 (a1_2 * a2_1)))))) - (wrap64 (a0_1 * (wrap64 ((wrap64 (a1_0 * a2_2)) - (wrap64 (a1_2 * a2_0)))))))) + (wrap64 (a0_2 * (wrap64 ((wrap64 (a1_0 * a2_1)) - (wrap64 (a1_1 * a2_0)))))))) == 0)) = some r := by rw [if_pos rfl] at H; exact H
  clear H
  have H := H1
  clear H1
  obtain rfl := Option.some.inj H
  go_enter Try.func83, Try.ntmps83
  go_wp2_with (first | ((with_reducible refine gate_dst (N := 3) rfl ?_); refine box_event ?hg (N := 3) ?hd (cs := #[.int .i64 a0_0, .int .i64 a0_1, .int .i64 a0_2]) (t := 72) ?hr ?_; (case hd => rfl); (case hg => rfl); (case hr => first | (go_simp; done) | (go_simp; rfl)); intro gb101 hg w6 hbox hb; have n0_ := Aside0.mk (below_step (by repeat (first | (with_reducible first | exact HB.out | apply below_alloc | apply pw_below_drewN | apply below_drew1) | exact HB.out)) hb); have n1_ := Aside0.mk (hbox); have n2_ := Aside0.mk ((by rw [hg]; exact (below_size (by repeat (first | (with_reducible first | exact HB.out | apply below_alloc | apply pw_below_drewN | apply below_drew1) | exact HB.out))) : w.heap.size ≤ gb101)); have n3_ := Aside0.mk ((by rw [hg]; exact (below_size (by repeat (first | (with_reducible first | exact HB.out | apply below_alloc | apply pw_below_drewN | apply below_drew1) | exact HB.out))) : w.heap.size ≤ gb101)); clear HB; have HB := n0_; have BK101 := n1_; have GW101 := n2_; have GE101 := n3_; clear n0_ n1_ n2_ n3_; clear hb hbox hg) | ((with_reducible refine gate_dst (N := 4) rfl ?_); refine box_event ?hg (N := 4) ?hd (cs := #[.int .i64 a1_0, .int .i64 a1_1, .int .i64 a1_2]) (t := 72) ?hr ?_; (case hd => rfl); (case hg => rfl); (case hr => first | (go_simp; done) | (go_simp; rfl)); intro gb102 hg w7 hbox hb; have n0_ := Aside0.mk (blk_below (g := gb101) (o := .cells #[.int .i64 a0_0, .int .i64 a0_1, .int .i64 a0_2] 72 (0, 0)) (by (with_reducible repeat (first | refine blk_drewN ?_ _ | refine blk_drew ?_ | refine blk_alloc ?_ _)); exact BK101.out) hb); have n1_ := Aside0.mk (below_step (by repeat (first | (with_reducible first | exact HB.out | apply below_alloc | apply pw_below_drewN | apply below_drew1 | refine below_set ?_ GE101.out) | exact HB.out)) hb); have n2_ := Aside0.mk (hbox); have n3_ := Aside0.mk ((by rw [hg]; exact (below_size (by repeat (first | (with_reducible first | exact HB.out | apply below_alloc | apply pw_below_drewN | apply below_drew1 | refine below_set ?_ GE101.out) | exact HB.out))) : w.heap.size ≤ gb102)); have n4_ := Aside0.mk ((by rw [hg]; exact (below_size (by repeat (first | (with_reducible first | exact HB.out | apply below_alloc | apply pw_below_drewN | apply below_drew1 | refine below_set ?_ GE101.out) | exact HB.out))) : w.heap.size ≤ gb102)); have n5_ := Aside0.mk ((by rw [hg]; exact Nat.ne_of_lt (blk_lt (g := gb101) (o := .cells #[.int .i64 a0_0, .int .i64 a0_1, .int .i64 a0_2] 72 (0, 0)) (by (with_reducible repeat (first | refine blk_drewN ?_ _ | refine blk_drew ?_ | refine blk_alloc ?_ _)); exact BK101.out)) : gb101 ≠ gb102)); have n6_ := Aside0.mk ((by rw [hg]; exact Nat.ne_of_gt (blk_lt (g := gb101) (o := .cells #[.int .i64 a0_0, .int .i64 a0_1, .int .i64 a0_2] 72 (0, 0)) (by (with_reducible repeat (first | refine blk_drewN ?_ _ | refine blk_drew ?_ | refine blk_alloc ?_ _)); exact BK101.out)) : gb102 ≠ gb101)); clear BK101; clear HB; have BK101 := n0_; have HB := n1_; have BK102 := n2_; have GW102 := n3_; have GE102 := n4_; have NB101_102 := n5_; have NB102_101 := n6_; clear n0_ n1_ n2_ n3_ n4_ n5_ n6_; clear hb hbox hg) | ((with_reducible refine gate_dst (N := 5) rfl ?_); refine box_event ?hg (N := 5) ?hd (cs := #[.int .i64 a2_0, .int .i64 a2_1, .int .i64 a2_2]) (t := 72) ?hr ?_; (case hd => rfl); (case hg => rfl); (case hr => first | (go_simp; done) | (go_simp; rfl)); intro gb103 hg w8 hbox hb; have n0_ := Aside0.mk (blk_below (g := gb101) (o := .cells #[.int .i64 a0_0, .int .i64 a0_1, .int .i64 a0_2] 72 (0, 0)) (by (with_reducible repeat (first | refine blk_drewN ?_ _ | refine blk_drew ?_ | refine blk_alloc ?_ _)); exact BK101.out) hb); have n1_ := Aside0.mk (blk_below (g := gb102) (o := .cells #[.int .i64 a1_0, .int .i64 a1_1, .int .i64 a1_2] 72 (0, 0)) (by (with_reducible repeat (first | refine blk_drewN ?_ _ | refine blk_drew ?_ | refine blk_alloc ?_ _)); exact BK102.out) hb); have n2_ := Aside0.mk (below_step (by repeat (first | (with_reducible first | exact HB.out | apply below_alloc | apply pw_below_drewN | apply below_drew1 | refine below_set ?_ GE101.out | refine below_set ?_ GE102.out) | exact HB.out)) hb); have n3_ := Aside0.mk (hbox); have n4_ := Aside0.mk ((by rw [hg]; exact (below_size (by repeat (first | (with_reducible first | exact HB.out | apply below_alloc | apply pw_below_drewN | apply below_drew1 | refine below_set ?_ GE101.out | refine below_set ?_ GE102.out) | exact HB.out))) : w.heap.size ≤ gb103)); have n5_ := Aside0.mk ((by rw [hg]; exact (below_size (by repeat (first | (with_reducible first | exact HB.out | apply below_alloc | apply pw_below_drewN | apply below_drew1 | refine below_set ?_ GE101.out | refine below_set ?_ GE102.out) | exact HB.out))) : w.heap.size ≤ gb103)); have n6_ := Aside0.mk ((by rw [hg]; exact Nat.ne_of_lt (blk_lt (g := gb101) (o := .cells #[.int .i64 a0_0, .int .i64 a0_1, .int .i64 a0_2] 72 (0, 0)) (by (with_reducible repeat (first | refine blk_drewN ?_ _ | refine blk_drew ?_ | refine blk_alloc ?_ _)); exact BK101.out)) : gb101 ≠ gb103)); have n7_ := Aside0.mk ((by rw [hg]; exact Nat.ne_of_gt (blk_lt (g := gb101) (o := .cells #[.int .i64 a0_0, .int .i64 a0_1, .int .i64 a0_2] 72 (0, 0)) (by (with_reducible repeat (first | refine blk_drewN ?_ _ | refine blk_drew ?_ | refine blk_alloc ?_ _)); exact BK101.out)) : gb103 ≠ gb101)); have n8_ := Aside0.mk ((by rw [hg]; exact Nat.ne_of_lt (blk_lt (g := gb102) (o := .cells #[.int .i64 a1_0, .int .i64 a1_1, .int .i64 a1_2] 72 (0, 0)) (by (with_reducible repeat (first | refine blk_drewN ?_ _ | refine blk_drew ?_ | refine blk_alloc ?_ _)); exact BK102.out)) : gb102 ≠ gb103)); have n9_ := Aside0.mk ((by rw [hg]; exact Nat.ne_of_gt (blk_lt (g := gb102) (o := .cells #[.int .i64 a1_0, .int .i64 a1_1, .int .i64 a1_2] 72 (0, 0)) (by (with_reducible repeat (first | refine blk_drewN ?_ _ | refine blk_drew ?_ | refine blk_alloc ?_ _)); exact BK102.out)) : gb103 ≠ gb102)); clear BK101; clear BK102; clear HB; have BK101 := n0_; have BK102 := n1_; have HB := n2_; have BK103 := n3_; have GW103 := n4_; have GE103 := n5_; have NB101_103 := n6_; have NB103_101 := n7_; have NB102_103 := n8_; have NB103_102 := n9_; clear n0_ n1_ n2_ n3_ n4_ n5_ n6_ n7_ n8_ n9_; clear hb hbox hg; have hnb9 := NB101_102.out; have hnc9 := NB102_101.out; have hnb10 := NB101_103.out; have hnc10 := NB103_101.out; have hcz11_0 : w8.cell? ⟨gb101, 0, none⟩ = some (.int .i64 a0_0) := (blk_cell BK101.out 0).trans rfl; have hcz11_1 : w8.cell? ⟨gb101, 1, none⟩ = some (.int .i64 a0_1) := (blk_cell BK101.out 1).trans rfl; have hcz11_2 : w8.cell? ⟨gb101, 2, none⟩ = some (.int .i64 a0_2) := (blk_cell BK101.out 2).trans rfl; have hfz11_0 := blk_frozen BK101.out 0; have hfz11_1 := blk_frozen BK101.out 1; have hfz11_2 := blk_frozen BK101.out 2; have hnb12 := NB102_103.out; have hnc12 := NB103_102.out; have hcz13_0 : w8.cell? ⟨gb102, 0, none⟩ = some (.int .i64 a1_0) := (blk_cell BK102.out 0).trans rfl; have hcz13_1 : w8.cell? ⟨gb102, 1, none⟩ = some (.int .i64 a1_1) := (blk_cell BK102.out 1).trans rfl; have hcz13_2 : w8.cell? ⟨gb102, 2, none⟩ = some (.int .i64 a1_2) := (blk_cell BK102.out 2).trans rfl; have hfz13_0 := blk_frozen BK102.out 0; have hfz13_1 := blk_frozen BK102.out 1; have hfz13_2 := blk_frozen BK102.out 2; have hcz14_0 : w8.cell? ⟨gb103, 0, none⟩ = some (.int .i64 a2_0) := (blk_cell BK103.out 0).trans rfl; have hcz14_1 : w8.cell? ⟨gb103, 1, none⟩ = some (.int .i64 a2_1) := (blk_cell BK103.out 1).trans rfl; have hcz14_2 : w8.cell? ⟨gb103, 2, none⟩ = some (.int .i64 a2_2) := (blk_cell BK103.out 2).trans rfl; have hfz14_0 := blk_frozen BK103.out 0; have hfz14_1 := blk_frozen BK103.out 1; have hfz14_2 := blk_frozen BK103.out 2) | ((with_reducible refine gate_dst (N := 10) rfl ?_); refine Kd.R_lit k72 _ 72 ?hg (N := 10) ?hd (xs := ([(⟨a0_0, a0_1, a0_2⟩ : S72), (⟨a1_0, a1_1, a1_2⟩ : S72), (⟨a2_0, a2_1, a2_2⟩ : S72)] : List (S72))) (inner := [.int .i64 a0_0, .int .i64 a0_1, .int .i64 a0_2, .int .i64 a1_0, .int .i64 a1_1, .int .i64 a1_2, .int .i64 a2_0, .int .i64 a2_1, .int .i64 a2_2]) (ok := fun _ => True) (okp := fun _ => True) ?hr ?hp (fun _ hk => hk) trivial (Below.refl _ _) (Nat.le_refl _) (by simp) ?_; (case hd => rfl); (case hg => rfl); (case hr => first | (go_simp; done) | (go_simp; rfl)); (case hp => exact (Reps.c3 (show Kd.M k72 _ _ _ (⟨a0_0, a0_1, a0_2⟩ : S72) [.int .i64 a0_0, .int .i64 a0_1, .int .i64 a0_2] from (k72_mkM _ _ _ (⟨a0_0, a0_1, a0_2⟩ : S72) )) (Reps.c3 (show Kd.M k72 _ _ _ (⟨a1_0, a1_1, a1_2⟩ : S72) [.int .i64 a1_0, .int .i64 a1_1, .int .i64 a1_2] from (k72_mkM _ _ _ (⟨a1_0, a1_1, a1_2⟩ : S72) )) (Reps.c3 (show Kd.M k72 _ _ _ (⟨a2_0, a2_1, a2_2⟩ : S72) [.int .i64 a2_0, .int .i64 a2_1, .int .i64 a2_2] from (k72_mkM _ _ _ (⟨a2_0, a2_1, a2_2⟩ : S72) )) (Reps.none _ _))))); intro v105 w15 ho16 hb hg_ hnew_; clear hg_ hnew_; (first | rw [← Ny104.out] at ho16 | (simp only [Int.reduceToNat] at ho16; rw [← Ny104.out] at ho16)); have n0_ := Aside0.mk (Kd.R_lower (Kd.R_newB (Kd.R_newB (Kd.R_newB ho16 (g := gb101) (o := .cells #[.int .i64 a0_0, .int .i64 a0_1, .int .i64 a0_2] 72 (0, 0)) (by (with_reducible repeat (first | refine blk_drewN ?_ _ | refine blk_drew ?_ | refine blk_alloc ?_ _)); exact BK101.out)) (g := gb102) (o := .cells #[.int .i64 a1_0, .int .i64 a1_1, .int .i64 a1_2] 72 (0, 0)) (by (with_reducible repeat (first | refine blk_drewN ?_ _ | refine blk_drew ?_ | refine blk_alloc ?_ _)); exact BK102.out)) (g := gb103) (o := .cells #[.int .i64 a2_0, .int .i64 a2_1, .int .i64 a2_2] 72 (0, 0)) (by (with_reducible repeat (first | refine blk_drewN ?_ _ | refine blk_drew ?_ | refine blk_alloc ?_ _)); exact BK103.out)) (below_size (by repeat (first | (with_reducible first | exact HB.out | apply below_alloc | apply pw_below_drewN | apply below_drew1 | refine below_set ?_ GE101.out | refine below_set ?_ GE102.out | refine below_set ?_ GE103.out) | exact HB.out)))); have n1_ := Aside0.mk (blk_below (g := gb101) (o := .cells #[.int .i64 a0_0, .int .i64 a0_1, .int .i64 a0_2] 72 (0, 0)) (by (with_reducible repeat (first | refine blk_drewN ?_ _ | refine blk_drew ?_ | refine blk_alloc ?_ _)); exact BK101.out) hb); have n2_ := Aside0.mk (blk_below (g := gb102) (o := .cells #[.int .i64 a1_0, .int .i64 a1_1, .int .i64 a1_2] 72 (0, 0)) (by (with_reducible repeat (first | refine blk_drewN ?_ _ | refine blk_drew ?_ | refine blk_alloc ?_ _)); exact BK102.out) hb); have n3_ := Aside0.mk (blk_below (g := gb103) (o := .cells #[.int .i64 a2_0, .int .i64 a2_1, .int .i64 a2_2] 72 (0, 0)) (by (with_reducible repeat (first | refine blk_drewN ?_ _ | refine blk_drew ?_ | refine blk_alloc ?_ _)); exact BK103.out) hb); have n4_ := Aside0.mk (below_step (by repeat (first | (with_reducible first | exact HB.out | apply below_alloc | apply pw_below_drewN | apply below_drew1 | refine below_set ?_ GE101.out | refine below_set ?_ GE102.out | refine below_set ?_ GE103.out) | exact HB.out)) hb); clear BK101; clear BK102; clear BK103; clear HB; have HO106 := n0_; have BK101 := n1_; have BK102 := n2_; have BK103 := n3_; have HB := n4_; clear n0_ n1_ n2_ n3_ n4_; clear hb ho16; obtain ⟨Ao17, co17, eo17⟩ := Kd.R_slice HO106.out; subst eo17) | ((with_reducible refine gate_callee (f := 136) rfl ?_); refine goesL_ (some 11) rfl rfl Try.func136 (by kernel_rfl) rfl #[.int .i64 100000, .slice Ao17 y104.length co17] rfl (by (try simp only [List.map_toArray, List.map_cons, List.map_nil]); first | done | rfl | (simp only [List.length_drop, List.length_take]; rfl)) ?_; (with_reducible refine (impl_isLimited.calls 100000 _ _ y104 true _ ?side1 ?side2 A4.out).mono ?_); (case side1 => repeat (first | exact (Kd.R_reads' HO106.out).2.2 | (with_reducible refine Kd.C_alloc ?_ _) | (with_reducible refine Kd.C_drewN ?_ _) | (with_reducible refine Kd.C_drew ?_))); (case side2 => exact (Kd.R_reads' HO106.out).2.1); rintro e w18 ⟨rfl, hb⟩; refine ⟨_, rfl, ?_⟩; have n0_ := Aside0.mk (Kd.R_below (by (with_reducible repeat (first | apply Kd.R_alloc | apply Kd.R_drewN | apply Kd.R_drew)); exact HO106.out) hb); have n1_ := Aside0.mk (blk_below (g := gb101) (o := .cells #[.int .i64 a0_0, .int .i64 a0_1, .int .i64 a0_2] 72 (0, 0)) (by (with_reducible repeat (first | refine blk_drewN ?_ _ | refine blk_drew ?_ | refine blk_alloc ?_ _)); exact BK101.out) hb); have n2_ := Aside0.mk (blk_below (g := gb102) (o := .cells #[.int .i64 a1_0, .int .i64 a1_1, .int .i64 a1_2] 72 (0, 0)) (by (with_reducible repeat (first | refine blk_drewN ?_ _ | refine blk_drew ?_ | refine blk_alloc ?_ _)); exact BK102.out) hb); have n3_ := Aside0.mk (blk_below (g := gb103) (o := .cells #[.int .i64 a2_0, .int .i64 a2_1, .int .i64 a2_2] 72 (0, 0)) (by (with_reducible repeat (first | refine blk_drewN ?_ _ | refine blk_drew ?_ | refine blk_alloc ?_ _)); exact BK103.out) hb); have n4_ := Aside0.mk (below_step (by repeat (first | (with_reducible first | exact HB.out | apply below_alloc | apply pw_below_drewN | apply below_drew1 | refine below_set ?_ GE101.out | refine below_set ?_ GE102.out | refine below_set ?_ GE103.out) | exact HB.out)) hb); clear HO106; clear BK101; clear BK102; clear BK103; clear HB; have HO106 := n0_; have BK101 := n1_; have BK102 := n2_; have BK103 := n3_; have HB := n4_; clear n0_ n1_ n2_ n3_ n4_; (try clear hb); (try clear hb2); (try clear hk); (try clear hi); have hcz19_0 : w18.cell? ⟨gb101, 0, none⟩ = some (.int .i64 a0_0) := (blk_cell BK101.out 0).trans rfl; have hcz19_1 : w18.cell? ⟨gb101, 1, none⟩ = some (.int .i64 a0_1) := (blk_cell BK101.out 1).trans rfl; have hcz19_2 : w18.cell? ⟨gb101, 2, none⟩ = some (.int .i64 a0_2) := (blk_cell BK101.out 2).trans rfl; have hfz19_0 := blk_frozen BK101.out 0; have hfz19_1 := blk_frozen BK101.out 1; have hfz19_2 := blk_frozen BK101.out 2; have hcz20_0 : w18.cell? ⟨gb102, 0, none⟩ = some (.int .i64 a1_0) := (blk_cell BK102.out 0).trans rfl; have hcz20_1 : w18.cell? ⟨gb102, 1, none⟩ = some (.int .i64 a1_1) := (blk_cell BK102.out 1).trans rfl; have hcz20_2 : w18.cell? ⟨gb102, 2, none⟩ = some (.int .i64 a1_2) := (blk_cell BK102.out 2).trans rfl; have hfz20_0 := blk_frozen BK102.out 0; have hfz20_1 := blk_frozen BK102.out 1; have hfz20_2 := blk_frozen BK102.out 2; have hcz21_0 : w18.cell? ⟨gb103, 0, none⟩ = some (.int .i64 a2_0) := (blk_cell BK103.out 0).trans rfl; have hcz21_1 : w18.cell? ⟨gb103, 1, none⟩ = some (.int .i64 a2_1) := (blk_cell BK103.out 1).trans rfl; have hcz21_2 : w18.cell? ⟨gb103, 2, none⟩ = some (.int .i64 a2_2) := (blk_cell BK103.out 2).trans rfl; have hfz21_0 := blk_frozen BK103.out 0; have hfz21_1 := blk_frozen BK103.out 1; have hfz21_2 := blk_frozen BK103.out 2))
  go_ret
  exact ⟨by first | rfl | (simp [errW_none, errW_some] <;> rfl) | (simp [*, errW_none, errW_some] <;> rfl), by repeat (first | (with_reducible first | exact HB.out | apply below_alloc | apply pw_below_drewN | apply below_drew1 | refine below_set ?_ GE101.out | refine below_set ?_ GE102.out | refine below_set ?_ GE103.out) | exact HB.out)⟩
 ·replace c5 := Bool.eq_false_iff.mpr c5
  subst c5
  have H1 : (some false) = some r := by rw [if_neg (show ¬ (false = true) by decide)] at H; exact H
  clear H
  have H := H1
  clear H1
  obtain rfl := Option.some.inj H
  go_enter Try.func83, Try.ntmps83
  go_wp2_with (first | ((with_reducible refine gate_dst (N := 3) rfl ?_); refine box_event ?hg (N := 3) ?hd (cs := #[.int .i64 a0_0, .int .i64 a0_1, .int .i64 a0_2]) (t := 72) ?hr ?_; (case hd => rfl); (case hg => rfl); (case hr => first | (go_simp; done) | (go_simp; rfl)); intro gb101 hg w22 hbox hb; have n0_ := Aside0.mk (below_step (by repeat (first | (with_reducible first | exact HB.out | apply below_alloc | apply pw_below_drewN | apply below_drew1) | exact HB.out)) hb); have n1_ := Aside0.mk (hbox); have n2_ := Aside0.mk ((by rw [hg]; exact (below_size (by repeat (first | (with_reducible first | exact HB.out | apply below_alloc | apply pw_below_drewN | apply below_drew1) | exact HB.out))) : w.heap.size ≤ gb101)); have n3_ := Aside0.mk ((by rw [hg]; exact (below_size (by repeat (first | (with_reducible first | exact HB.out | apply below_alloc | apply pw_below_drewN | apply below_drew1) | exact HB.out))) : w.heap.size ≤ gb101)); clear HB; have HB := n0_; have BK101 := n1_; have GW101 := n2_; have GE101 := n3_; clear n0_ n1_ n2_ n3_; clear hb hbox hg) | ((with_reducible refine gate_dst (N := 4) rfl ?_); refine box_event ?hg (N := 4) ?hd (cs := #[.int .i64 a1_0, .int .i64 a1_1, .int .i64 a1_2]) (t := 72) ?hr ?_; (case hd => rfl); (case hg => rfl); (case hr => first | (go_simp; done) | (go_simp; rfl)); intro gb102 hg w23 hbox hb; have n0_ := Aside0.mk (blk_below (g := gb101) (o := .cells #[.int .i64 a0_0, .int .i64 a0_1, .int .i64 a0_2] 72 (0, 0)) (by (with_reducible repeat (first | refine blk_drewN ?_ _ | refine blk_drew ?_ | refine blk_alloc ?_ _)); exact BK101.out) hb); have n1_ := Aside0.mk (below_step (by repeat (first | (with_reducible first | exact HB.out | apply below_alloc | apply pw_below_drewN | apply below_drew1 | refine below_set ?_ GE101.out) | exact HB.out)) hb); have n2_ := Aside0.mk (hbox); have n3_ := Aside0.mk ((by rw [hg]; exact (below_size (by repeat (first | (with_reducible first | exact HB.out | apply below_alloc | apply pw_below_drewN | apply below_drew1 | refine below_set ?_ GE101.out) | exact HB.out))) : w.heap.size ≤ gb102)); have n4_ := Aside0.mk ((by rw [hg]; exact (below_size (by repeat (first | (with_reducible first | exact HB.out | apply below_alloc | apply pw_below_drewN | apply below_drew1 | refine below_set ?_ GE101.out) | exact HB.out))) : w.heap.size ≤ gb102)); have n5_ := Aside0.mk ((by rw [hg]; exact Nat.ne_of_lt (blk_lt (g := gb101) (o := .cells #[.int .i64 a0_0, .int .i64 a0_1, .int .i64 a0_2] 72 (0, 0)) (by (with_reducible repeat (first | refine blk_drewN ?_ _ | refine blk_drew ?_ | refine blk_alloc ?_ _)); exact BK101.out)) : gb101 ≠ gb102)); have n6_ := Aside0.mk ((by rw [hg]; exact Nat.ne_of_gt (blk_lt (g := gb101) (o := .cells #[.int .i64 a0_0, .int .i64 a0_1, .int .i64 a0_2] 72 (0, 0)) (by (with_reducible repeat (first | refine blk_drewN ?_ _ | refine blk_drew ?_ | refine blk_alloc ?_ _)); exact BK101.out)) : gb102 ≠ gb101)); clear BK101; clear HB; have BK101 := n0_; have HB := n1_; have BK102 := n2_; have GW102 := n3_; have GE102 := n4_; have NB101_102 := n5_; have NB102_101 := n6_; clear n0_ n1_ n2_ n3_ n4_ n5_ n6_; clear hb hbox hg) | ((with_reducible refine gate_dst (N := 5) rfl ?_); refine box_event ?hg (N := 5) ?hd (cs := #[.int .i64 a2_0, .int .i64 a2_1, .int .i64 a2_2]) (t := 72) ?hr ?_; (case hd => rfl); (case hg => rfl); (case hr => first | (go_simp; done) | (go_simp; rfl)); intro gb103 hg w24 hbox hb; have n0_ := Aside0.mk (blk_below (g := gb101) (o := .cells #[.int .i64 a0_0, .int .i64 a0_1, .int .i64 a0_2] 72 (0, 0)) (by (with_reducible repeat (first | refine blk_drewN ?_ _ | refine blk_drew ?_ | refine blk_alloc ?_ _)); exact BK101.out) hb); have n1_ := Aside0.mk (blk_below (g := gb102) (o := .cells #[.int .i64 a1_0, .int .i64 a1_1, .int .i64 a1_2] 72 (0, 0)) (by (with_reducible repeat (first | refine blk_drewN ?_ _ | refine blk_drew ?_ | refine blk_alloc ?_ _)); exact BK102.out) hb); have n2_ := Aside0.mk (below_step (by repeat (first | (with_reducible first | exact HB.out | apply below_alloc | apply pw_below_drewN | apply below_drew1 | refine below_set ?_ GE101.out | refine below_set ?_ GE102.out) | exact HB.out)) hb); have n3_ := Aside0.mk (hbox); have n4_ := Aside0.mk ((by rw [hg]; exact (below_size (by repeat (first | (with_reducible first | exact HB.out | apply below_alloc | apply pw_below_drewN | apply below_drew1 | refine below_set ?_ GE101.out | refine below_set ?_ GE102.out) | exact HB.out))) : w.heap.size ≤ gb103)); have n5_ := Aside0.mk ((by rw [hg]; exact (below_size (by repeat (first | (with_reducible first | exact HB.out | apply below_alloc | apply pw_below_drewN | apply below_drew1 | refine below_set ?_ GE101.out | refine below_set ?_ GE102.out) | exact HB.out))) : w.heap.size ≤ gb103)); have n6_ := Aside0.mk ((by rw [hg]; exact Nat.ne_of_lt (blk_lt (g := gb101) (o := .cells #[.int .i64 a0_0, .int .i64 a0_1, .int .i64 a0_2] 72 (0, 0)) (by (with_reducible repeat (first | refine blk_drewN ?_ _ | refine blk_drew ?_ | refine blk_alloc ?_ _)); exact BK101.out)) : gb101 ≠ gb103)); have n7_ := Aside0.mk ((by rw [hg]; exact Nat.ne_of_gt (blk_lt (g := gb101) (o := .cells #[.int .i64 a0_0, .int .i64 a0_1, .int .i64 a0_2] 72 (0, 0)) (by (with_reducible repeat (first | refine blk_drewN ?_ _ | refine blk_drew ?_ | refine blk_alloc ?_ _)); exact BK101.out)) : gb103 ≠ gb101)); have n8_ := Aside0.mk ((by rw [hg]; exact Nat.ne_of_lt (blk_lt (g := gb102) (o := .cells #[.int .i64 a1_0, .int .i64 a1_1, .int .i64 a1_2] 72 (0, 0)) (by (with_reducible repeat (first | refine blk_drewN ?_ _ | refine blk_drew ?_ | refine blk_alloc ?_ _)); exact BK102.out)) : gb102 ≠ gb103)); have n9_ := Aside0.mk ((by rw [hg]; exact Nat.ne_of_gt (blk_lt (g := gb102) (o := .cells #[.int .i64 a1_0, .int .i64 a1_1, .int .i64 a1_2] 72 (0, 0)) (by (with_reducible repeat (first | refine blk_drewN ?_ _ | refine blk_drew ?_ | refine blk_alloc ?_ _)); exact BK102.out)) : gb103 ≠ gb102)); clear BK101; clear BK102; clear HB; have BK101 := n0_; have BK102 := n1_; have HB := n2_; have BK103 := n3_; have GW103 := n4_; have GE103 := n5_; have NB101_103 := n6_; have NB103_101 := n7_; have NB102_103 := n8_; have NB103_102 := n9_; clear n0_ n1_ n2_ n3_ n4_ n5_ n6_ n7_ n8_ n9_; clear hb hbox hg; have hnb25 := NB101_102.out; have hnc25 := NB102_101.out; have hnb26 := NB101_103.out; have hnc26 := NB103_101.out; have hcz27_0 : w24.cell? ⟨gb101, 0, none⟩ = some (.int .i64 a0_0) := (blk_cell BK101.out 0).trans rfl; have hcz27_1 : w24.cell? ⟨gb101, 1, none⟩ = some (.int .i64 a0_1) := (blk_cell BK101.out 1).trans rfl; have hcz27_2 : w24.cell? ⟨gb101, 2, none⟩ = some (.int .i64 a0_2) := (blk_cell BK101.out 2).trans rfl; have hfz27_0 := blk_frozen BK101.out 0; have hfz27_1 := blk_frozen BK101.out 1; have hfz27_2 := blk_frozen BK101.out 2; have hnb28 := NB102_103.out; have hnc28 := NB103_102.out; have hcz29_0 : w24.cell? ⟨gb102, 0, none⟩ = some (.int .i64 a1_0) := (blk_cell BK102.out 0).trans rfl; have hcz29_1 : w24.cell? ⟨gb102, 1, none⟩ = some (.int .i64 a1_1) := (blk_cell BK102.out 1).trans rfl; have hcz29_2 : w24.cell? ⟨gb102, 2, none⟩ = some (.int .i64 a1_2) := (blk_cell BK102.out 2).trans rfl; have hfz29_0 := blk_frozen BK102.out 0; have hfz29_1 := blk_frozen BK102.out 1; have hfz29_2 := blk_frozen BK102.out 2; have hcz30_0 : w24.cell? ⟨gb103, 0, none⟩ = some (.int .i64 a2_0) := (blk_cell BK103.out 0).trans rfl; have hcz30_1 : w24.cell? ⟨gb103, 1, none⟩ = some (.int .i64 a2_1) := (blk_cell BK103.out 1).trans rfl; have hcz30_2 : w24.cell? ⟨gb103, 2, none⟩ = some (.int .i64 a2_2) := (blk_cell BK103.out 2).trans rfl; have hfz30_0 := blk_frozen BK103.out 0; have hfz30_1 := blk_frozen BK103.out 1; have hfz30_2 := blk_frozen BK103.out 2) | ((with_reducible refine gate_dst (N := 10) rfl ?_); refine Kd.R_lit k72 _ 72 ?hg (N := 10) ?hd (xs := ([(⟨a0_0, a0_1, a0_2⟩ : S72), (⟨a1_0, a1_1, a1_2⟩ : S72), (⟨a2_0, a2_1, a2_2⟩ : S72)] : List (S72))) (inner := [.int .i64 a0_0, .int .i64 a0_1, .int .i64 a0_2, .int .i64 a1_0, .int .i64 a1_1, .int .i64 a1_2, .int .i64 a2_0, .int .i64 a2_1, .int .i64 a2_2]) (ok := fun _ => True) (okp := fun _ => True) ?hr ?hp (fun _ hk => hk) trivial (Below.refl _ _) (Nat.le_refl _) (by simp) ?_; (case hd => rfl); (case hg => rfl); (case hr => first | (go_simp; done) | (go_simp; rfl)); (case hp => exact (Reps.c3 (show Kd.M k72 _ _ _ (⟨a0_0, a0_1, a0_2⟩ : S72) [.int .i64 a0_0, .int .i64 a0_1, .int .i64 a0_2] from (k72_mkM _ _ _ (⟨a0_0, a0_1, a0_2⟩ : S72) )) (Reps.c3 (show Kd.M k72 _ _ _ (⟨a1_0, a1_1, a1_2⟩ : S72) [.int .i64 a1_0, .int .i64 a1_1, .int .i64 a1_2] from (k72_mkM _ _ _ (⟨a1_0, a1_1, a1_2⟩ : S72) )) (Reps.c3 (show Kd.M k72 _ _ _ (⟨a2_0, a2_1, a2_2⟩ : S72) [.int .i64 a2_0, .int .i64 a2_1, .int .i64 a2_2] from (k72_mkM _ _ _ (⟨a2_0, a2_1, a2_2⟩ : S72) )) (Reps.none _ _))))); intro v105 w31 ho32 hb hg_ hnew_; clear hg_ hnew_; (first | rw [← Ny104.out] at ho32 | (simp only [Int.reduceToNat] at ho32; rw [← Ny104.out] at ho32)); have n0_ := Aside0.mk (Kd.R_lower (Kd.R_newB (Kd.R_newB (Kd.R_newB ho32 (g := gb101) (o := .cells #[.int .i64 a0_0, .int .i64 a0_1, .int .i64 a0_2] 72 (0, 0)) (by (with_reducible repeat (first | refine blk_drewN ?_ _ | refine blk_drew ?_ | refine blk_alloc ?_ _)); exact BK101.out)) (g := gb102) (o := .cells #[.int .i64 a1_0, .int .i64 a1_1, .int .i64 a1_2] 72 (0, 0)) (by (with_reducible repeat (first | refine blk_drewN ?_ _ | refine blk_drew ?_ | refine blk_alloc ?_ _)); exact BK102.out)) (g := gb103) (o := .cells #[.int .i64 a2_0, .int .i64 a2_1, .int .i64 a2_2] 72 (0, 0)) (by (with_reducible repeat (first | refine blk_drewN ?_ _ | refine blk_drew ?_ | refine blk_alloc ?_ _)); exact BK103.out)) (below_size (by repeat (first | (with_reducible first | exact HB.out | apply below_alloc | apply pw_below_drewN | apply below_drew1 | refine below_set ?_ GE101.out | refine below_set ?_ GE102.out | refine below_set ?_ GE103.out) | exact HB.out)))); have n1_ := Aside0.mk (blk_below (g := gb101) (o := .cells #[.int .i64 a0_0, .int .i64 a0_1, .int .i64 a0_2] 72 (0, 0)) (by (with_reducible repeat (first | refine blk_drewN ?_ _ | refine blk_drew ?_ | refine blk_alloc ?_ _)); exact BK101.out) hb); have n2_ := Aside0.mk (blk_below (g := gb102) (o := .cells #[.int .i64 a1_0, .int .i64 a1_1, .int .i64 a1_2] 72 (0, 0)) (by (with_reducible repeat (first | refine blk_drewN ?_ _ | refine blk_drew ?_ | refine blk_alloc ?_ _)); exact BK102.out) hb); have n3_ := Aside0.mk (blk_below (g := gb103) (o := .cells #[.int .i64 a2_0, .int .i64 a2_1, .int .i64 a2_2] 72 (0, 0)) (by (with_reducible repeat (first | refine blk_drewN ?_ _ | refine blk_drew ?_ | refine blk_alloc ?_ _)); exact BK103.out) hb); have n4_ := Aside0.mk (below_step (by repeat (first | (with_reducible first | exact HB.out | apply below_alloc | apply pw_below_drewN | apply below_drew1 | refine below_set ?_ GE101.out | refine below_set ?_ GE102.out | refine below_set ?_ GE103.out) | exact HB.out)) hb); clear BK101; clear BK102; clear BK103; clear HB; have HO106 := n0_; have BK101 := n1_; have BK102 := n2_; have BK103 := n3_; have HB := n4_; clear n0_ n1_ n2_ n3_ n4_; clear hb ho32; obtain ⟨Ao33, co33, eo33⟩ := Kd.R_slice HO106.out; subst eo33) | ((with_reducible refine gate_callee (f := 136) rfl ?_); refine goesL_ (some 11) rfl rfl Try.func136 (by kernel_rfl) rfl #[.int .i64 100000, .slice Ao33 y104.length co33] rfl (by (try simp only [List.map_toArray, List.map_cons, List.map_nil]); first | done | rfl | (simp only [List.length_drop, List.length_take]; rfl)) ?_; (with_reducible refine (impl_isLimited.calls 100000 _ _ y104 false _ ?side1 ?side2 A4.out).mono ?_); (case side1 => repeat (first | exact (Kd.R_reads' HO106.out).2.2 | (with_reducible refine Kd.C_alloc ?_ _) | (with_reducible refine Kd.C_drewN ?_ _) | (with_reducible refine Kd.C_drew ?_))); (case side2 => exact (Kd.R_reads' HO106.out).2.1); rintro e w34 ⟨rfl, hb⟩; refine ⟨_, rfl, ?_⟩; have n0_ := Aside0.mk (Kd.R_below (by (with_reducible repeat (first | apply Kd.R_alloc | apply Kd.R_drewN | apply Kd.R_drew)); exact HO106.out) hb); have n1_ := Aside0.mk (blk_below (g := gb101) (o := .cells #[.int .i64 a0_0, .int .i64 a0_1, .int .i64 a0_2] 72 (0, 0)) (by (with_reducible repeat (first | refine blk_drewN ?_ _ | refine blk_drew ?_ | refine blk_alloc ?_ _)); exact BK101.out) hb); have n2_ := Aside0.mk (blk_below (g := gb102) (o := .cells #[.int .i64 a1_0, .int .i64 a1_1, .int .i64 a1_2] 72 (0, 0)) (by (with_reducible repeat (first | refine blk_drewN ?_ _ | refine blk_drew ?_ | refine blk_alloc ?_ _)); exact BK102.out) hb); have n3_ := Aside0.mk (blk_below (g := gb103) (o := .cells #[.int .i64 a2_0, .int .i64 a2_1, .int .i64 a2_2] 72 (0, 0)) (by (with_reducible repeat (first | refine blk_drewN ?_ _ | refine blk_drew ?_ | refine blk_alloc ?_ _)); exact BK103.out) hb); have n4_ := Aside0.mk (below_step (by repeat (first | (with_reducible first | exact HB.out | apply below_alloc | apply pw_below_drewN | apply below_drew1 | refine below_set ?_ GE101.out | refine below_set ?_ GE102.out | refine below_set ?_ GE103.out) | exact HB.out)) hb); clear HO106; clear BK101; clear BK102; clear BK103; clear HB; have HO106 := n0_; have BK101 := n1_; have BK102 := n2_; have BK103 := n3_; have HB := n4_; clear n0_ n1_ n2_ n3_ n4_; (try clear hb); (try clear hb2); (try clear hk); (try clear hi)))
  go_ret
  exact ⟨by first | rfl | (simp [errW_none, errW_some] <;> rfl) | (simp [*, errW_none, errW_some] <;> rfl), by repeat (first | (with_reducible first | exact HB.out | apply below_alloc | apply pw_below_drewN | apply below_drew1 | refine below_set ?_ GE101.out | refine below_set ?_ GE102.out | refine below_set ?_ GE103.out) | exact HB.out)⟩

end Go.Proofs.Ytldcckcljjlglaa.P

namespace Go.Proofs.Ytldcckcljjlglaa.P
open Go.RowKit Go.Proofs.YtldcckcljjlglaaW.PrintWords Go.Proofs.YtldcckcljjlglaaW.PrintLast Go.Proofs.YtldcckcljjlglaaW.PrintMore
attribute [local go_sem] max2_int min2_int max_two min_two max_three min_three max_four min_four   -- for this text's walks alone
set_option linter.unusedVariables false
set_option linter.unusedSimpArgs false

/-! ### impl_ArePerspective: function 66 -/
def impl_ArePerspective.f (k : Nat) (l0 : List S80) : Option Bool := (impl_DesarguesOf.f k l0).bind fun s => if s.2 = true then (if l0.length = 6 then (thr k (pt l0 0) (pt l0 3)).bind fun x => (thr k (pt l0 1) (pt l0 4)).bind fun y => (thr k (pt l0 2) (pt l0 5)).bind fun z => (impl_areOneLine.f k x.1 x.2.1 x.2.2 y.1 y.2.1 y.2.2).bind fun b1 => (if b1 = true then some false else (impl_areOneLine.f k x.1 x.2.1 x.2.2 z.1 z.2.1 z.2.2).bind fun b2 => (if b2 = true then some false else (impl_areOneLine.f k y.1 y.2.1 y.2.2 z.1 z.2.1 z.2.2).bind fun b3 => (if b3 = true then some false else impl_AreOnOne.f x.1 x.2.1 x.2.2 y.1 y.2.1 y.2.2 z.1 z.2.1 z.2.2))) else none) else some false
set_option maxHeartbeats 4000000 in
set_option maxRecDepth 100000 in
theorem impl_ArePerspective.calls (k : Nat) (A0 : Option Addr) (c0 : Nat) (l0 : List S80) (r : Bool) (w : World) (hr0 : Kd.C k80 w A0 l0.length l0) (hc0 : l0.length ≤ c0) (h : impl_ArePerspective.f k l0 = some r) :
  Calls Try.prog 66 #[.slice A0 l0.length c0] w fun e w' => e = .returned (.bool r) ∧ Below w.heap.size w w' := by
 have HR := Aside0.mk hr0
 have HC := Aside0.mk hc0
 have HB := Aside0.mk (Below.refl w.heap.size w)
 unfold impl_ArePerspective.f at h
 obtain ⟨⟨q, b⟩, hd, h⟩ := Option.bind_eq_some_iff.mp h
 have HD := Aside0.mk hd
 clear hr0 hc0 hd
 have hup := Try.underlying80
 have hut := Try.underlying72
 cases b with
 | false =>
  obtain rfl := Option.some.inj (show some false = some r from h)
  clear h
  go_enter Try.func66, Try.ntmps66
  go_wp2_with (go_at_call 75; (with_reducible refine (impl_DesarguesOf.calls k A0 c0 l0 q false _ (Kd.C_below HR.out HB.out) HC.out HD.out).mono ?_); rintro e w1 ⟨v1_, rfl, _, hb1⟩; have m0_ := Aside0.mk (below_step HB.out hb1); clear HB; have HB := m0_; clear m0_; clear hb1)
  go_ret
  exact ⟨rfl, HB.out⟩
 | true =>
  rw [if_pos rfl] at h
  by_cases h6 : l0.length = 6
  case neg => rw [if_neg h6] at h; cases h
  rw [if_pos h6] at h
  obtain ⟨⟨t1, t2, t3⟩, ht, h⟩ := Option.bind_eq_some_iff.mp h
  obtain ⟨⟨u1, u2, u3'⟩, hu, h⟩ := Option.bind_eq_some_iff.mp h
  obtain ⟨⟨v1, v2, v3⟩, hv, h⟩ := Option.bind_eq_some_iff.mp h
  obtain ⟨b1, hb_, h⟩ := Option.bind_eq_some_iff.mp h
  have H6 := Aside0.mk h6
  have HT := Aside0.mk (show impl_through.f k (rd_T80 l0 0).f0 (rd_T80 l0 0).f1 (rd_T80 l0 3).f0 (rd_T80 l0 3).f1 = some (t1, t2, t3) from ht)
  have HU := Aside0.mk (show impl_through.f k (rd_T80 l0 1).f0 (rd_T80 l0 1).f1 (rd_T80 l0 4).f0 (rd_T80 l0 4).f1 = some (u1, u2, u3') from hu)
  have HV := Aside0.mk (show impl_through.f k (rd_T80 l0 2).f0 (rd_T80 l0 2).f1 (rd_T80 l0 5).f0 (rd_T80 l0 5).f1 = some (v1, v2, v3) from hv)
  have HE0 := Aside0.mk (show impl_areOneLine.f k t1 t2 t3 u1 u2 u3' = some b1 from hb_)
  have HF := Aside0.mk h
  clear h6 ht hu hv hb_ h
  go_enter Try.func66, Try.ntmps66
  go_wp2_with (go_at_call 75; (with_reducible refine (impl_DesarguesOf.calls k A0 c0 l0 q true _ (Kd.C_below HR.out HB.out) HC.out HD.out).mono ?_); rintro e w1 ⟨v1_, rfl, _, hb1⟩; have m0_ := Aside0.mk (below_step HB.out hb1); clear HB; have HB := m0_; clear m0_; clear hb1)
  rw [H6.out]
  obtain ⟨ad0, eA, hp0, hp1⟩ := at_T80 (Kd.C_below HR.out HB.out) 0 (by omega) (by have := H6.out; omega)
  subst eA
  obtain ⟨ad1, eA, hp2, hp3⟩ := at_T80 (Kd.C_below HR.out HB.out) 1 (by omega) (by have := H6.out; omega)
  cases eA
  obtain ⟨ad2, eA, hp4, hp5⟩ := at_T80 (Kd.C_below HR.out HB.out) 2 (by omega) (by have := H6.out; omega)
  cases eA
  obtain ⟨ad3, eA, hp6, hp7⟩ := at_T80 (Kd.C_below HR.out HB.out) 3 (by omega) (by have := H6.out; omega)
  cases eA
  obtain ⟨ad4, eA, hp8, hp9⟩ := at_T80 (Kd.C_below HR.out HB.out) 4 (by omega) (by have := H6.out; omega)
  cases eA
  obtain ⟨ad5, eA, hp10, hp11⟩ := at_T80 (Kd.C_below HR.out HB.out) 5 (by omega) (by have := H6.out; omega)
  cases eA
  simp only [Int.reduceToNat, Nat.reduceMul, Addr.add_zero'] at hp0 hp1
  simp only [Int.reduceToNat, Nat.reduceMul, Nat.reduceEqDiff, Nat.add_assoc, Nat.reduceAdd, Go.Addr.add, ↓reduceIte] at hp2 hp3 hp4 hp5 hp6 hp7 hp8 hp9 hp10 hp11
  refine region_ (S := fun w' => Below w1.heap.size w1 w') 27 w1.heap.size [(21, 24), (22, 25), (23, 26)] (by kernel_rfl) (by kernel_rfl) (below_drew (Below.refl _ _)) (fun _ _ h1 h2 => h1.trans h2) (fun _ h1 => h1.size) ?_
  iterate 27 (first
   | (refine atV_ (v := ?_) (a' := ?_) rfl rfl rfl rfl (by rfl) ?_ ?_ ?_; rotate_left 2; (· rintro w' hb'; go_simp; with_reducible rfl); (· simp only [Act.put, List.setIfInBounds_toArray, List.set_cons_zero, List.set_cons_succ, i64_w, i32_w]; rfl))
   | (refine atV_ (v := ?_) (a' := ?_) rfl rfl rfl rfl (by rfl) ?_ ?_ ?_; rotate_left 2; (· rintro w' hb'; have s0 := cell_ hb' hp0; have s1 := cell_ hb' hp1; have s2 := cell_ hb' hp2; have s3 := cell_ hb' hp3; have s4 := cell_ hb' hp4; have s5 := cell_ hb' hp5; have s6 := cell_ hb' hp6; have s7 := cell_ hb' hp7; have s8 := cell_ hb' hp8; have s9 := cell_ hb' hp9; have s10 := cell_ hb' hp10; have s11 := cell_ hb' hp11; go_simp; with_reducible rfl); (· simp only [Act.put, List.setIfInBounds_toArray, List.set_cons_zero, List.set_cons_succ, i64_w, i32_w]; rfl))
   | (refine atC_ (a' := ?_) (.agg #[.int .i64 t1, .int .i64 t2, .int .i64 t3]) rfl rfl Try.func125 rfl rfl rfl (by rfl) (by kernel_rfl) rfl #[.agg #[.int .i64 (rd_T80 l0 0).f0, .int .i64 (rd_T80 l0 0).f1], .agg #[.int .i64 (rd_T80 l0 3).f0, .int .i64 (rd_T80 l0 3).f1]] (by (try simp only [List.map_toArray, List.map_cons, List.map_nil]); rfl) ?_ ?_ ?_; rotate_left; (· rintro w' hb'; with_reducible refine (impl_through.calls k _ _ _ _ t1 t2 t3 _ HT.out).mono ?_; rintro e w1 ⟨rfl, hb1⟩; exact ⟨rfl, hb1⟩); (· simp only [Act.put, List.setIfInBounds_toArray, List.set_cons_zero, List.set_cons_succ, i64_w, i32_w]; rfl))
   | (refine atC_ (a' := ?_) (.agg #[.int .i64 u1, .int .i64 u2, .int .i64 u3']) rfl rfl Try.func125 rfl rfl rfl (by rfl) (by kernel_rfl) rfl #[.agg #[.int .i64 (rd_T80 l0 1).f0, .int .i64 (rd_T80 l0 1).f1], .agg #[.int .i64 (rd_T80 l0 4).f0, .int .i64 (rd_T80 l0 4).f1]] (by (try simp only [List.map_toArray, List.map_cons, List.map_nil]); rfl) ?_ ?_ ?_; rotate_left; (· rintro w' hb'; with_reducible refine (impl_through.calls k _ _ _ _ u1 u2 u3' _ HU.out).mono ?_; rintro e w1 ⟨rfl, hb1⟩; exact ⟨rfl, hb1⟩); (· simp only [Act.put, List.setIfInBounds_toArray, List.set_cons_zero, List.set_cons_succ, i64_w, i32_w]; rfl))
   | (refine atC_ (a' := ?_) (.agg #[.int .i64 v1, .int .i64 v2, .int .i64 v3]) rfl rfl Try.func125 rfl rfl rfl (by rfl) (by kernel_rfl) rfl #[.agg #[.int .i64 (rd_T80 l0 2).f0, .int .i64 (rd_T80 l0 2).f1], .agg #[.int .i64 (rd_T80 l0 5).f0, .int .i64 (rd_T80 l0 5).f1]] (by (try simp only [List.map_toArray, List.map_cons, List.map_nil]); rfl) ?_ ?_ ?_; rotate_left; (· rintro w' hb'; with_reducible refine (impl_through.calls k _ _ _ _ v1 v2 v3 _ HV.out).mono ?_; rintro e w1 ⟨rfl, hb1⟩; exact ⟨rfl, hb1⟩); (· simp only [Act.put, List.setIfInBounds_toArray, List.set_cons_zero, List.set_cons_succ, i64_w, i32_w]; rfl))
   | (refine atN_ #[.int .i64 0, .int .i64 0, .int .i64 0] 72 (some (24, #[.int .i64 t1, .int .i64 t2, .int .i64 t3])) rfl rfl rfl rfl (by rfl) ?_ ?_; (· rintro w' hb'; first | (go_simp; done) | (go_simp; rfl)))
   | (refine atN_ #[.int .i64 0, .int .i64 0, .int .i64 0] 72 (some (25, #[.int .i64 u1, .int .i64 u2, .int .i64 u3'])) rfl rfl rfl rfl (by rfl) ?_ ?_; (· rintro w' hb'; first | (go_simp; done) | (go_simp; rfl)))
   | (refine atN_ #[.int .i64 0, .int .i64 0, .int .i64 0] 72 (some (26, #[.int .i64 v1, .int .i64 v2, .int .i64 v3])) rfl rfl rfl rfl (by rfl) ?_ ?_; (· rintro w' hb'; first | (go_simp; done) | (go_simp; rfl)))
   | (refine atS_ 0 rfl rfl rfl rfl rfl rfl (fun g => by rfl) ?_ ?_; (· rintro g w' hb' hg hn; have hs0 := (blk_cell hg 0).trans rfl; have hs1 := (blk_cell hg 1).trans rfl; have hs2 := (blk_cell hg 2).trans rfl; have hf0 := blk_frozen hg 0; have hf1 := blk_frozen hg 1; have hf2 := blk_frozen hg 2; refine ⟨_, ?_, (mut3_ hg _ _ _).1, (mut3_ hg _ _ _).2⟩; first | (go_simp; done) | (go_simp; rfl)))
   | (refine atS_ 1 rfl rfl rfl rfl rfl rfl (fun g => by rfl) ?_ ?_; (· rintro g w' hb' hg hn; have hs0 := (blk_cell hg 0).trans rfl; have hs1 := (blk_cell hg 1).trans rfl; have hs2 := (blk_cell hg 2).trans rfl; have hf0 := blk_frozen hg 0; have hf1 := blk_frozen hg 1; have hf2 := blk_frozen hg 2; refine ⟨_, ?_, (mut3_ hg _ _ _).1, (mut3_ hg _ _ _).2⟩; first | (go_simp; done) | (go_simp; rfl)))
   | (refine atS_ 2 rfl rfl rfl rfl rfl rfl (fun g => by rfl) ?_ ?_; (· rintro g w' hb' hg hn; have hs0 := (blk_cell hg 0).trans rfl; have hs1 := (blk_cell hg 1).trans rfl; have hs2 := (blk_cell hg 2).trans rfl; have hf0 := blk_frozen hg 0; have hf1 := blk_frozen hg 1; have hf2 := blk_frozen hg 2; refine ⟨_, ?_, (mut3_ hg _ _ _).1, (mut3_ hg _ _ _).2⟩; first | (go_simp; done) | (go_simp; rfl))))
  refine atEnd_ ?_
  intro w5 hb5 g1 _ h1 _ g2 _ h2 _ g3 _ h3 _
  refine done_ (by kernel_rfl) ?_
  have hg10 : w5.cell? ⟨g1, 0, none⟩ = some (.int .i64 t1) := by simp [World.cell?, h1, contE]
  have hg11 : w5.cell? ⟨g1, 1, none⟩ = some (.int .i64 t2) := by simp [World.cell?, h1, contE]
  have hg12 : w5.cell? ⟨g1, 2, none⟩ = some (.int .i64 t3) := by simp [World.cell?, h1, contE]
  have hg20 : w5.cell? ⟨g2, 0, none⟩ = some (.int .i64 u1) := by simp [World.cell?, h2, contE]
  have hg21 : w5.cell? ⟨g2, 1, none⟩ = some (.int .i64 u2) := by simp [World.cell?, h2, contE]
  have hg22 : w5.cell? ⟨g2, 2, none⟩ = some (.int .i64 u3') := by simp [World.cell?, h2, contE]
  have hg30 : w5.cell? ⟨g3, 0, none⟩ = some (.int .i64 v1) := by simp [World.cell?, h3, contE]
  have hg31 : w5.cell? ⟨g3, 1, none⟩ = some (.int .i64 v2) := by simp [World.cell?, h3, contE]
  have hg32 : w5.cell? ⟨g3, 2, none⟩ = some (.int .i64 v3) := by simp [World.cell?, h3, contE]
  have m0_ := Aside0.mk (below_then HB.out (below_size HB.out) hb5)
  clear HB hb5 h1 h2 h3 HT HU HV hp0 hp1 hp2 hp3 hp4 hp5 hp6 hp7 hp8 hp9 hp10 hp11
  have HB := m0_
  clear m0_
  cases b1 with
  | true =>
   obtain rfl := Option.some.inj (show some false = some r from by have := HF.out; rwa [if_pos rfl] at this)
   clear HF
   go_wp2_with (first
    | (go_at_call 126; (with_reducible refine (impl_areOneLine.calls k _ _ _ _ _ _ true _ HE0.out).mono ?_); rintro e w9 ⟨rfl, hb9⟩; have m0_ := Aside0.mk (below_step HB.out hb9); clear HB; have HB := m0_; clear m0_; have m0 := cell_ hb9 hg10; clear hg10; have hg10 := m0; clear m0; have m1 := cell_ hb9 hg11; clear hg11; have hg11 := m1; clear m1; have m2 := cell_ hb9 hg12; clear hg12; have hg12 := m2; clear m2; have m3 := cell_ hb9 hg20; clear hg20; have hg20 := m3; clear m3; have m4 := cell_ hb9 hg21; clear hg21; have hg21 := m4; clear m4; have m5 := cell_ hb9 hg22; clear hg22; have hg22 := m5; clear m5; have m6 := cell_ hb9 hg30; clear hg30; have hg30 := m6; clear m6; have m7 := cell_ hb9 hg31; clear hg31; have hg31 := m7; clear m7; have m8 := cell_ hb9 hg32; clear hg32; have hg32 := m8; clear m8; clear hb9))
   go_ret
   exact ⟨rfl, HB.out⟩
  | false =>
   have h := HF.out
   rw [if_neg (by decide)] at h
   obtain ⟨b2, hb_, h⟩ := Option.bind_eq_some_iff.mp h
   have HE1 := Aside0.mk (show impl_areOneLine.f k t1 t2 t3 v1 v2 v3 = some b2 from hb_)
   clear HF hb_
   have HF := Aside0.mk h
   clear h
   cases b2 with
   | true =>
    obtain rfl := Option.some.inj (show some false = some r from by have := HF.out; rwa [if_pos rfl] at this)
    clear HF
    go_wp2_with (first
     | (go_at_call 126; (with_reducible refine (impl_areOneLine.calls k _ _ _ _ _ _ false _ HE0.out).mono ?_); rintro e w9 ⟨rfl, hb9⟩; have m0_ := Aside0.mk (below_step HB.out hb9); clear HB; have HB := m0_; clear m0_; have m0 := cell_ hb9 hg10; clear hg10; have hg10 := m0; clear m0; have m1 := cell_ hb9 hg11; clear hg11; have hg11 := m1; clear m1; have m2 := cell_ hb9 hg12; clear hg12; have hg12 := m2; clear m2; have m3 := cell_ hb9 hg20; clear hg20; have hg20 := m3; clear m3; have m4 := cell_ hb9 hg21; clear hg21; have hg21 := m4; clear m4; have m5 := cell_ hb9 hg22; clear hg22; have hg22 := m5; clear m5; have m6 := cell_ hb9 hg30; clear hg30; have hg30 := m6; clear m6; have m7 := cell_ hb9 hg31; clear hg31; have hg31 := m7; clear m7; have m8 := cell_ hb9 hg32; clear hg32; have hg32 := m8; clear m8; clear hb9)
     | (go_at_call 126; (with_reducible refine (impl_areOneLine.calls k _ _ _ _ _ _ true _ HE1.out).mono ?_); rintro e w9 ⟨rfl, hb9⟩; have m0_ := Aside0.mk (below_step HB.out hb9); clear HB; have HB := m0_; clear m0_; have m0 := cell_ hb9 hg10; clear hg10; have hg10 := m0; clear m0; have m1 := cell_ hb9 hg11; clear hg11; have hg11 := m1; clear m1; have m2 := cell_ hb9 hg12; clear hg12; have hg12 := m2; clear m2; have m3 := cell_ hb9 hg20; clear hg20; have hg20 := m3; clear m3; have m4 := cell_ hb9 hg21; clear hg21; have hg21 := m4; clear m4; have m5 := cell_ hb9 hg22; clear hg22; have hg22 := m5; clear m5; have m6 := cell_ hb9 hg30; clear hg30; have hg30 := m6; clear m6; have m7 := cell_ hb9 hg31; clear hg31; have hg31 := m7; clear m7; have m8 := cell_ hb9 hg32; clear hg32; have hg32 := m8; clear m8; clear hb9))
    go_ret
    exact ⟨rfl, HB.out⟩
   | false =>
    have h := HF.out
    rw [if_neg (by decide)] at h
    obtain ⟨b3, hb_, h⟩ := Option.bind_eq_some_iff.mp h
    have HE2 := Aside0.mk (show impl_areOneLine.f k u1 u2 u3' v1 v2 v3 = some b3 from hb_)
    clear HF hb_
    have HF := Aside0.mk h
    clear h
    cases b3 with
    | true =>
     obtain rfl := Option.some.inj (show some false = some r from by have := HF.out; rwa [if_pos rfl] at this)
     clear HF
     go_wp2_with (first
      | (go_at_call 126; (with_reducible refine (impl_areOneLine.calls k _ _ _ _ _ _ false _ HE0.out).mono ?_); rintro e w9 ⟨rfl, hb9⟩; have m0_ := Aside0.mk (below_step HB.out hb9); clear HB; have HB := m0_; clear m0_; have m0 := cell_ hb9 hg10; clear hg10; have hg10 := m0; clear m0; have m1 := cell_ hb9 hg11; clear hg11; have hg11 := m1; clear m1; have m2 := cell_ hb9 hg12; clear hg12; have hg12 := m2; clear m2; have m3 := cell_ hb9 hg20; clear hg20; have hg20 := m3; clear m3; have m4 := cell_ hb9 hg21; clear hg21; have hg21 := m4; clear m4; have m5 := cell_ hb9 hg22; clear hg22; have hg22 := m5; clear m5; have m6 := cell_ hb9 hg30; clear hg30; have hg30 := m6; clear m6; have m7 := cell_ hb9 hg31; clear hg31; have hg31 := m7; clear m7; have m8 := cell_ hb9 hg32; clear hg32; have hg32 := m8; clear m8; clear hb9)
      | (go_at_call 126; (with_reducible refine (impl_areOneLine.calls k _ _ _ _ _ _ false _ HE1.out).mono ?_); rintro e w9 ⟨rfl, hb9⟩; have m0_ := Aside0.mk (below_step HB.out hb9); clear HB; have HB := m0_; clear m0_; have m0 := cell_ hb9 hg10; clear hg10; have hg10 := m0; clear m0; have m1 := cell_ hb9 hg11; clear hg11; have hg11 := m1; clear m1; have m2 := cell_ hb9 hg12; clear hg12; have hg12 := m2; clear m2; have m3 := cell_ hb9 hg20; clear hg20; have hg20 := m3; clear m3; have m4 := cell_ hb9 hg21; clear hg21; have hg21 := m4; clear m4; have m5 := cell_ hb9 hg22; clear hg22; have hg22 := m5; clear m5; have m6 := cell_ hb9 hg30; clear hg30; have hg30 := m6; clear m6; have m7 := cell_ hb9 hg31; clear hg31; have hg31 := m7; clear m7; have m8 := cell_ hb9 hg32; clear hg32; have hg32 := m8; clear m8; clear hb9)
      | (go_at_call 126; (with_reducible refine (impl_areOneLine.calls k _ _ _ _ _ _ true _ HE2.out).mono ?_); rintro e w9 ⟨rfl, hb9⟩; have m0_ := Aside0.mk (below_step HB.out hb9); clear HB; have HB := m0_; clear m0_; have m0 := cell_ hb9 hg10; clear hg10; have hg10 := m0; clear m0; have m1 := cell_ hb9 hg11; clear hg11; have hg11 := m1; clear m1; have m2 := cell_ hb9 hg12; clear hg12; have hg12 := m2; clear m2; have m3 := cell_ hb9 hg20; clear hg20; have hg20 := m3; clear m3; have m4 := cell_ hb9 hg21; clear hg21; have hg21 := m4; clear m4; have m5 := cell_ hb9 hg22; clear hg22; have hg22 := m5; clear m5; have m6 := cell_ hb9 hg30; clear hg30; have hg30 := m6; clear m6; have m7 := cell_ hb9 hg31; clear hg31; have hg31 := m7; clear m7; have m8 := cell_ hb9 hg32; clear hg32; have hg32 := m8; clear m8; clear hb9))
     go_ret
     exact ⟨rfl, HB.out⟩
    | false =>
     have h := HF.out
     rw [if_neg (by decide)] at h
     have HON := Aside0.mk (show impl_AreOnOne.f t1 t2 t3 u1 u2 u3' v1 v2 v3 = some r from h)
     clear HF h
     go_wp2_with (first
      | (go_at_call 126; (with_reducible refine (impl_areOneLine.calls k _ _ _ _ _ _ false _ HE0.out).mono ?_); rintro e w9 ⟨rfl, hb9⟩; have m0_ := Aside0.mk (below_step HB.out hb9); clear HB; have HB := m0_; clear m0_; have m0 := cell_ hb9 hg10; clear hg10; have hg10 := m0; clear m0; have m1 := cell_ hb9 hg11; clear hg11; have hg11 := m1; clear m1; have m2 := cell_ hb9 hg12; clear hg12; have hg12 := m2; clear m2; have m3 := cell_ hb9 hg20; clear hg20; have hg20 := m3; clear m3; have m4 := cell_ hb9 hg21; clear hg21; have hg21 := m4; clear m4; have m5 := cell_ hb9 hg22; clear hg22; have hg22 := m5; clear m5; have m6 := cell_ hb9 hg30; clear hg30; have hg30 := m6; clear m6; have m7 := cell_ hb9 hg31; clear hg31; have hg31 := m7; clear m7; have m8 := cell_ hb9 hg32; clear hg32; have hg32 := m8; clear m8; clear hb9)
      | (go_at_call 126; (with_reducible refine (impl_areOneLine.calls k _ _ _ _ _ _ false _ HE1.out).mono ?_); rintro e w9 ⟨rfl, hb9⟩; have m0_ := Aside0.mk (below_step HB.out hb9); clear HB; have HB := m0_; clear m0_; have m0 := cell_ hb9 hg10; clear hg10; have hg10 := m0; clear m0; have m1 := cell_ hb9 hg11; clear hg11; have hg11 := m1; clear m1; have m2 := cell_ hb9 hg12; clear hg12; have hg12 := m2; clear m2; have m3 := cell_ hb9 hg20; clear hg20; have hg20 := m3; clear m3; have m4 := cell_ hb9 hg21; clear hg21; have hg21 := m4; clear m4; have m5 := cell_ hb9 hg22; clear hg22; have hg22 := m5; clear m5; have m6 := cell_ hb9 hg30; clear hg30; have hg30 := m6; clear m6; have m7 := cell_ hb9 hg31; clear hg31; have hg31 := m7; clear m7; have m8 := cell_ hb9 hg32; clear hg32; have hg32 := m8; clear m8; clear hb9)
      | (go_at_call 126; (with_reducible refine (impl_areOneLine.calls k _ _ _ _ _ _ false _ HE2.out).mono ?_); rintro e w9 ⟨rfl, hb9⟩; have m0_ := Aside0.mk (below_step HB.out hb9); clear HB; have HB := m0_; clear m0_; have m0 := cell_ hb9 hg10; clear hg10; have hg10 := m0; clear m0; have m1 := cell_ hb9 hg11; clear hg11; have hg11 := m1; clear m1; have m2 := cell_ hb9 hg12; clear hg12; have hg12 := m2; clear m2; have m3 := cell_ hb9 hg20; clear hg20; have hg20 := m3; clear m3; have m4 := cell_ hb9 hg21; clear hg21; have hg21 := m4; clear m4; have m5 := cell_ hb9 hg22; clear hg22; have hg22 := m5; clear m5; have m6 := cell_ hb9 hg30; clear hg30; have hg30 := m6; clear m6; have m7 := cell_ hb9 hg31; clear hg31; have hg31 := m7; clear m7; have m8 := cell_ hb9 hg32; clear hg32; have hg32 := m8; clear m8; clear hb9)
      | (go_at_call 83; (with_reducible refine (impl_AreOnOne.calls _ _ _ _ _ _ _ _ _ r _ HON.out).mono ?_); rintro e w9 ⟨rfl, hb9⟩; have m0_ := Aside0.mk (below_step HB.out hb9); clear HB; have HB := m0_; clear m0_; clear hb9))
     go_ret
     exact ⟨rfl, HB.out⟩
theorem impl_ArePerspective.mono : ∀ a0 k, LeO (impl_ArePerspective.f k a0) (impl_ArePerspective.f (k + 1) a0) := by
 intro a0 k
 unfold impl_ArePerspective.f thr
 repeat' first
  | (with_reducible exact impl_DesarguesOf.mono _ _)
  | (with_reducible exact impl_through.mono _ _ _ _ _)
  | (with_reducible exact impl_areOneLine.mono _ _ _ _ _ _ _)
  | (with_reducible exact LeO.refl _)
  | (with_reducible exact LeO.none _)
  | (with_reducible refine LeO.ite ?_ ?_)
  | (with_reducible refine LeO.bind ?_ (fun _ => ?_))

end Go.Proofs.Ytldcckcljjlglaa.P

namespace Go.Proofs.Ytldcckcljjlglaa.P
open Go.RowKit Go.Proofs.YtldcckcljjlglaaW.PrintWords Go.Proofs.YtldcckcljjlglaaW.PrintLast Go.Proofs.YtldcckcljjlglaaW.PrintMore
attribute [local go_sem] max2_int min2_int max_two min_two max_three min_three max_four min_four   -- for this text's walks alone
set_option linter.unusedVariables false
set_option linter.unusedSimpArgs false

/-! ### laws_eqPoint: function 127 -/
def laws_eqPoint.f (a0_0 : Int) (a0_1 : Int) (a1_0 : Int) (a1_1 : Int) : Option (Bool) := if a0_0 = a1_0 then (if a0_1 = a1_1 then (some true) else (some false)) else (some false)
set_option maxHeartbeats 8000000 in
set_option maxRecDepth 100000 in
theorem laws_eqPoint.calls (a0_0 : Int) (a0_1 : Int) (a1_0 : Int) (a1_1 : Int) (r : Bool) (w : World) (h : laws_eqPoint.f a0_0 a0_1 a1_0 a1_1 = some r) :
  Calls Try.prog 127 #[.agg #[.int .i64 a0_0, .int .i64 a0_1], .agg #[.int .i64 a1_0, .int .i64 a1_1]] w fun e w' => e = .returned (.bool r) ∧ Below w.heap.size w w' := by
 have hu80 := Try.underlying80
 have HB := Aside0.mk (Below.refl w.heap.size w)
 have H : (if a0_0 = a1_0 then (if a0_1 = a1_1 then (some true) else (some false)) else (some false)) = some r := h
 clear h
 by_cases c3 : a0_0 = a1_0
 ·rw [if_pos c3] at H
  have c3b0 : (a0_0 == a1_0) = true := beq_iff_eq.mpr c3
  have c3b1 : (a0_0 != a1_0) = false := bne_eq_false_iff_eq.mpr c3
  clear c3
  by_cases c4 : a0_1 = a1_1
  ·rw [if_pos c4] at H
   have c4b0 : (a0_1 == a1_1) = true := beq_iff_eq.mpr c4
   have c4b1 : (a0_1 != a1_1) = false := bne_eq_false_iff_eq.mpr c4
   clear c4
   obtain rfl := Option.some.inj H
   go_enter Try.func127, Try.ntmps127
   go_wp2_with (first | ((with_reducible refine gate_dst (N := 2) rfl ?_); refine box_event ?hg (N := 2) ?hd (cs := #[.int .i64 a0_0, .int .i64 a0_1]) (t := 80) ?hr ?_; (case hd => rfl); (case hg => rfl); (case hr => first | (go_simp; done) | (go_simp; rfl)); intro gb101 hg w5 hbox hb; have n0_ := Aside0.mk (below_step (by repeat (first | (with_reducible first | exact HB.out | apply below_alloc | apply pw_below_drewN | apply below_drew1) | exact HB.out)) hb); have n1_ := Aside0.mk (hbox); have n2_ := Aside0.mk ((by rw [hg]; exact (below_size (by repeat (first | (with_reducible first | exact HB.out | apply below_alloc | apply pw_below_drewN | apply below_drew1) | exact HB.out))) : w.heap.size ≤ gb101)); have n3_ := Aside0.mk ((by rw [hg]; exact (below_size (by repeat (first | (with_reducible first | exact HB.out | apply below_alloc | apply pw_below_drewN | apply below_drew1) | exact HB.out))) : w.heap.size ≤ gb101)); clear HB; have HB := n0_; have BK101 := n1_; have GW101 := n2_; have GE101 := n3_; clear n0_ n1_ n2_ n3_; clear hb hbox hg) | ((with_reducible refine gate_dst (N := 3) rfl ?_); refine box_event ?hg (N := 3) ?hd (cs := #[.int .i64 a1_0, .int .i64 a1_1]) (t := 80) ?hr ?_; (case hd => rfl); (case hg => rfl); (case hr => first | (go_simp; done) | (go_simp; rfl)); intro gb102 hg w6 hbox hb; have n0_ := Aside0.mk (blk_below (g := gb101) (o := .cells #[.int .i64 a0_0, .int .i64 a0_1] 80 (0, 0)) (by (with_reducible repeat (first | refine blk_drewN ?_ _ | refine blk_drew ?_ | refine blk_alloc ?_ _)); exact BK101.out) hb); have n1_ := Aside0.mk (below_step (by repeat (first | (with_reducible first | exact HB.out | apply below_alloc | apply pw_below_drewN | apply below_drew1 | refine below_set ?_ GE101.out) | exact HB.out)) hb); have n2_ := Aside0.mk (hbox); have n3_ := Aside0.mk ((by rw [hg]; exact (below_size (by repeat (first | (with_reducible first | exact HB.out | apply below_alloc | apply pw_below_drewN | apply below_drew1 | refine below_set ?_ GE101.out) | exact HB.out))) : w.heap.size ≤ gb102)); have n4_ := Aside0.mk ((by rw [hg]; exact (below_size (by repeat (first | (with_reducible first | exact HB.out | apply below_alloc | apply pw_below_drewN | apply below_drew1 | refine below_set ?_ GE101.out) | exact HB.out))) : w.heap.size ≤ gb102)); have n5_ := Aside0.mk ((by rw [hg]; exact Nat.ne_of_lt (blk_lt (g := gb101) (o := .cells #[.int .i64 a0_0, .int .i64 a0_1] 80 (0, 0)) (by (with_reducible repeat (first | refine blk_drewN ?_ _ | refine blk_drew ?_ | refine blk_alloc ?_ _)); exact BK101.out)) : gb101 ≠ gb102)); have n6_ := Aside0.mk ((by rw [hg]; exact Nat.ne_of_gt (blk_lt (g := gb101) (o := .cells #[.int .i64 a0_0, .int .i64 a0_1] 80 (0, 0)) (by (with_reducible repeat (first | refine blk_drewN ?_ _ | refine blk_drew ?_ | refine blk_alloc ?_ _)); exact BK101.out)) : gb102 ≠ gb101)); clear BK101; clear HB; have BK101 := n0_; have HB := n1_; have BK102 := n2_; have GW102 := n3_; have GE102 := n4_; have NB101_102 := n5_; have NB102_101 := n6_; clear n0_ n1_ n2_ n3_ n4_ n5_ n6_; clear hb hbox hg; have hnb7 := NB101_102.out; have hnc7 := NB102_101.out; have hcz8_0 : w6.cell? ⟨gb101, 0, none⟩ = some (.int .i64 a0_0) := (blk_cell BK101.out 0).trans rfl; have hcz8_1 : w6.cell? ⟨gb101, 1, none⟩ = some (.int .i64 a0_1) := (blk_cell BK101.out 1).trans rfl; have hfz8_0 := blk_frozen BK101.out 0; have hfz8_1 := blk_frozen BK101.out 1; have hcz9_0 : w6.cell? ⟨gb102, 0, none⟩ = some (.int .i64 a1_0) := (blk_cell BK102.out 0).trans rfl; have hcz9_1 : w6.cell? ⟨gb102, 1, none⟩ = some (.int .i64 a1_1) := (blk_cell BK102.out 1).trans rfl; have hfz9_0 := blk_frozen BK102.out 0; have hfz9_1 := blk_frozen BK102.out 1))
   go_ret
   exact ⟨by first | rfl | (simp [errW_none, errW_some] <;> rfl) | (simp [*, errW_none, errW_some] <;> rfl), by repeat (first | (with_reducible first | exact HB.out | apply below_alloc | apply pw_below_drewN | apply below_drew1 | refine below_set ?_ GE101.out | refine below_set ?_ GE102.out) | exact HB.out)⟩
  ·rw [if_neg c4] at H
   have c4b0 : (a0_1 == a1_1) = false := beq_eq_false_iff_ne.mpr c4
   have c4b1 : (a0_1 != a1_1) = true := bne_iff_ne.mpr c4
   obtain rfl := Option.some.inj H
   go_enter Try.func127, Try.ntmps127
   go_wp2_with (first | ((with_reducible refine gate_dst (N := 2) rfl ?_); refine box_event ?hg (N := 2) ?hd (cs := #[.int .i64 a0_0, .int .i64 a0_1]) (t := 80) ?hr ?_; (case hd => rfl); (case hg => rfl); (case hr => first | (go_simp; done) | (go_simp; rfl)); intro gb101 hg w10 hbox hb; have n0_ := Aside0.mk (below_step (by repeat (first | (with_reducible first | exact HB.out | apply below_alloc | apply pw_below_drewN | apply below_drew1) | exact HB.out)) hb); have n1_ := Aside0.mk (hbox); have n2_ := Aside0.mk ((by rw [hg]; exact (below_size (by repeat (first | (with_reducible first | exact HB.out | apply below_alloc | apply pw_below_drewN | apply below_drew1) | exact HB.out))) : w.heap.size ≤ gb101)); have n3_ := Aside0.mk ((by rw [hg]; exact (below_size (by repeat (first | (with_reducible first | exact HB.out | apply below_alloc | apply pw_below_drewN | apply below_drew1) | exact HB.out))) : w.heap.size ≤ gb101)); clear HB; have HB := n0_; have BK101 := n1_; have GW101 := n2_; have GE101 := n3_; clear n0_ n1_ n2_ n3_; clear hb hbox hg) | ((with_reducible refine gate_dst (N := 3) rfl ?_); refine box_event ?hg (N := 3) ?hd (cs := #[.int .i64 a1_0, .int .i64 a1_1]) (t := 80) ?hr ?_; (case hd => rfl); (case hg => rfl); (case hr => first | (go_simp; done) | (go_simp; rfl)); intro gb102 hg w11 hbox hb; have n0_ := Aside0.mk (blk_below (g := gb101) (o := .cells #[.int .i64 a0_0, .int .i64 a0_1] 80 (0, 0)) (by (with_reducible repeat (first | refine blk_drewN ?_ _ | refine blk_drew ?_ | refine blk_alloc ?_ _)); exact BK101.out) hb); have n1_ := Aside0.mk (below_step (by repeat (first | (with_reducible first | exact HB.out | apply below_alloc | apply pw_below_drewN | apply below_drew1 | refine below_set ?_ GE101.out) | exact HB.out)) hb); have n2_ := Aside0.mk (hbox); have n3_ := Aside0.mk ((by rw [hg]; exact (below_size (by repeat (first | (with_reducible first | exact HB.out | apply below_alloc | apply pw_below_drewN | apply below_drew1 | refine below_set ?_ GE101.out) | exact HB.out))) : w.heap.size ≤ gb102)); have n4_ := Aside0.mk ((by rw [hg]; exact (below_size (by repeat (first | (with_reducible first | exact HB.out | apply below_alloc | apply pw_below_drewN | apply below_drew1 | refine below_set ?_ GE101.out) | exact HB.out))) : w.heap.size ≤ gb102)); have n5_ := Aside0.mk ((by rw [hg]; exact Nat.ne_of_lt (blk_lt (g := gb101) (o := .cells #[.int .i64 a0_0, .int .i64 a0_1] 80 (0, 0)) (by (with_reducible repeat (first | refine blk_drewN ?_ _ | refine blk_drew ?_ | refine blk_alloc ?_ _)); exact BK101.out)) : gb101 ≠ gb102)); have n6_ := Aside0.mk ((by rw [hg]; exact Nat.ne_of_gt (blk_lt (g := gb101) (o := .cells #[.int .i64 a0_0, .int .i64 a0_1] 80 (0, 0)) (by (with_reducible repeat (first | refine blk_drewN ?_ _ | refine blk_drew ?_ | refine blk_alloc ?_ _)); exact BK101.out)) : gb102 ≠ gb101)); clear BK101; clear HB; have BK101 := n0_; have HB := n1_; have BK102 := n2_; have GW102 := n3_; have GE102 := n4_; have NB101_102 := n5_; have NB102_101 := n6_; clear n0_ n1_ n2_ n3_ n4_ n5_ n6_; clear hb hbox hg; have hnb12 := NB101_102.out; have hnc12 := NB102_101.out; have hcz13_0 : w11.cell? ⟨gb101, 0, none⟩ = some (.int .i64 a0_0) := (blk_cell BK101.out 0).trans rfl; have hcz13_1 : w11.cell? ⟨gb101, 1, none⟩ = some (.int .i64 a0_1) := (blk_cell BK101.out 1).trans rfl; have hfz13_0 := blk_frozen BK101.out 0; have hfz13_1 := blk_frozen BK101.out 1; have hcz14_0 : w11.cell? ⟨gb102, 0, none⟩ = some (.int .i64 a1_0) := (blk_cell BK102.out 0).trans rfl; have hcz14_1 : w11.cell? ⟨gb102, 1, none⟩ = some (.int .i64 a1_1) := (blk_cell BK102.out 1).trans rfl; have hfz14_0 := blk_frozen BK102.out 0; have hfz14_1 := blk_frozen BK102.out 1))
   go_ret
   exact ⟨by first | rfl | (simp [errW_none, errW_some] <;> rfl) | (simp [*, errW_none, errW_some] <;> rfl), by repeat (first | (with_reducible first | exact HB.out | apply below_alloc | apply pw_below_drewN | apply below_drew1 | refine below_set ?_ GE101.out | refine below_set ?_ GE102.out) | exact HB.out)⟩
 ·rw [if_neg c3] at H
  have c3b0 : (a0_0 == a1_0) = false := beq_eq_false_iff_ne.mpr c3
  have c3b1 : (a0_0 != a1_0) = true := bne_iff_ne.mpr c3
  obtain rfl := Option.some.inj H
  go_enter Try.func127, Try.ntmps127
  go_wp2_with (first | ((with_reducible refine gate_dst (N := 2) rfl ?_); refine box_event ?hg (N := 2) ?hd (cs := #[.int .i64 a0_0, .int .i64 a0_1]) (t := 80) ?hr ?_; (case hd => rfl); (case hg => rfl); (case hr => first | (go_simp; done) | (go_simp; rfl)); intro gb101 hg w15 hbox hb; have n0_ := Aside0.mk (below_step (by repeat (first | (with_reducible first | exact HB.out | apply below_alloc | apply pw_below_drewN | apply below_drew1) | exact HB.out)) hb); have n1_ := Aside0.mk (hbox); have n2_ := Aside0.mk ((by rw [hg]; exact (below_size (by repeat (first | (with_reducible first | exact HB.out | apply below_alloc | apply pw_below_drewN | apply below_drew1) | exact HB.out))) : w.heap.size ≤ gb101)); have n3_ := Aside0.mk ((by rw [hg]; exact (below_size (by repeat (first | (with_reducible first | exact HB.out | apply below_alloc | apply pw_below_drewN | apply below_drew1) | exact HB.out))) : w.heap.size ≤ gb101)); clear HB; have HB := n0_; have BK101 := n1_; have GW101 := n2_; have GE101 := n3_; clear n0_ n1_ n2_ n3_; clear hb hbox hg) | ((with_reducible refine gate_dst (N := 3) rfl ?_); refine box_event ?hg (N := 3) ?hd (cs := #[.int .i64 a1_0, .int .i64 a1_1]) (t := 80) ?hr ?_; (case hd => rfl); (case hg => rfl); (case hr => first | (go_simp; done) | (go_simp; rfl)); intro gb102 hg w16 hbox hb; have n0_ := Aside0.mk (blk_below (g := gb101) (o := .cells #[.int .i64 a0_0, .int .i64 a0_1] 80 (0, 0)) (by (with_reducible repeat (first | refine blk_drewN ?_ _ | refine blk_drew ?_ | refine blk_alloc ?_ _)); exact BK101.out) hb); have n1_ := Aside0.mk (below_step (by repeat (first | (with_reducible first | exact HB.out | apply below_alloc | apply pw_below_drewN | apply below_drew1 | refine below_set ?_ GE101.out) | exact HB.out)) hb); have n2_ := Aside0.mk (hbox); have n3_ := Aside0.mk ((by rw [hg]; exact (below_size (by repeat (first | (with_reducible first | exact HB.out | apply below_alloc | apply pw_below_drewN | apply below_drew1 | refine below_set ?_ GE101.out) | exact HB.out))) : w.heap.size ≤ gb102)); have n4_ := Aside0.mk ((by rw [hg]; exact (below_size (by repeat (first | (with_reducible first | exact HB.out | apply below_alloc | apply pw_below_drewN | apply below_drew1 | refine below_set ?_ GE101.out) | exact HB.out))) : w.heap.size ≤ gb102)); have n5_ := Aside0.mk ((by rw [hg]; exact Nat.ne_of_lt (blk_lt (g := gb101) (o := .cells #[.int .i64 a0_0, .int .i64 a0_1] 80 (0, 0)) (by (with_reducible repeat (first | refine blk_drewN ?_ _ | refine blk_drew ?_ | refine blk_alloc ?_ _)); exact BK101.out)) : gb101 ≠ gb102)); have n6_ := Aside0.mk ((by rw [hg]; exact Nat.ne_of_gt (blk_lt (g := gb101) (o := .cells #[.int .i64 a0_0, .int .i64 a0_1] 80 (0, 0)) (by (with_reducible repeat (first | refine blk_drewN ?_ _ | refine blk_drew ?_ | refine blk_alloc ?_ _)); exact BK101.out)) : gb102 ≠ gb101)); clear BK101; clear HB; have BK101 := n0_; have HB := n1_; have BK102 := n2_; have GW102 := n3_; have GE102 := n4_; have NB101_102 := n5_; have NB102_101 := n6_; clear n0_ n1_ n2_ n3_ n4_ n5_ n6_; clear hb hbox hg; have hnb17 := NB101_102.out; have hnc17 := NB102_101.out; have hcz18_0 : w16.cell? ⟨gb101, 0, none⟩ = some (.int .i64 a0_0) := (blk_cell BK101.out 0).trans rfl; have hcz18_1 : w16.cell? ⟨gb101, 1, none⟩ = some (.int .i64 a0_1) := (blk_cell BK101.out 1).trans rfl; have hfz18_0 := blk_frozen BK101.out 0; have hfz18_1 := blk_frozen BK101.out 1; have hcz19_0 : w16.cell? ⟨gb102, 0, none⟩ = some (.int .i64 a1_0) := (blk_cell BK102.out 0).trans rfl; have hcz19_1 : w16.cell? ⟨gb102, 1, none⟩ = some (.int .i64 a1_1) := (blk_cell BK102.out 1).trans rfl; have hfz19_0 := blk_frozen BK102.out 0; have hfz19_1 := blk_frozen BK102.out 1))
  go_ret
  exact ⟨by first | rfl | (simp [errW_none, errW_some] <;> rfl) | (simp [*, errW_none, errW_some] <;> rfl), by repeat (first | (with_reducible first | exact HB.out | apply below_alloc | apply pw_below_drewN | apply below_drew1 | refine below_set ?_ GE101.out | refine below_set ?_ GE102.out) | exact HB.out)⟩

end Go.Proofs.Ytldcckcljjlglaa.P

namespace Go.Proofs.Ytldcckcljjlglaa.P
open Go.RowKit Go.Proofs.YtldcckcljjlglaaW.PrintWords Go.Proofs.YtldcckcljjlglaaW.PrintLast Go.Proofs.YtldcckcljjlglaaW.PrintMore
attribute [local go_sem] max2_int min2_int max_two min_two max_three min_three max_four min_four   -- for this text's walks alone
set_option linter.unusedVariables false
set_option linter.unusedSimpArgs false

/-! ### laws_eqPointS: function 67 -/
def laws_eqPointS.l0 : Nat → List (S80) → List (S80) → Int → Option (Bool)
 | 0, _, _, _ => none
 | k + 1, x0, x1, x5 => if x5 < (x0.length : Int) then (if 0 ≤ x5 then (if x5 < (x1.length : Int) then ((laws_eqPoint.f ((rd_T80 x0 x5).f0) ((rd_T80 x0 x5).f1) ((rd_T80 x1 x5).f0) ((rd_T80 x1 x5).f1)).bind fun t103 => (if t103 = true then (laws_eqPointS.l0 k x0 x1 (wrap64 (x5 + 1))) else (some false))) else (none)) else (none)) else (some true)
def laws_eqPointS.f (k : Nat) (l0 : List (S80)) (l1 : List (S80)) : Option (Bool) := if (l0.length : Int) = (l1.length : Int) then (laws_eqPointS.l0 k l0 l1 0) else (some false)
theorem laws_eqPointS.mono_l : ∀ k, (∀ y0 y1 y2, LeO (laws_eqPointS.l0 k y0 y1 y2) (laws_eqPointS.l0 (k + 1) y0 y1 y2))
 | 0 => fun _ _ _ r h => by simp [laws_eqPointS.l0] at h
 | k + 1 => by
  have ih0 := laws_eqPointS.mono_l k
  ·intro y0 y1 y2
   unfold laws_eqPointS.l0
   repeat' first
   | (with_reducible exact ih0 _ _ _)
   | (with_reducible exact LeO.refl _)
   | (with_reducible exact LeO.none _)
   | (with_reducible refine LeO.ite ?_ ?_)
   | (with_reducible refine LeO.bind ?_ (fun _ => ?_))
   | exact ih0 _ _ _
   | exact LeO.none _
   | refine LeO.ite ?_ ?_
   | refine LeO.bind ?_ (fun _ => ?_)
theorem laws_eqPointS.mono : ∀ a0 a1 k, LeO (laws_eqPointS.f k a0 a1) (laws_eqPointS.f (k + 1) a0 a1) := by
 intro a0 a1 k
 have ih0 := laws_eqPointS.mono_l k
 unfold laws_eqPointS.f
 repeat' first
   | (with_reducible exact ih0 _ _ _)
   | (with_reducible exact LeO.refl _)
   | (with_reducible exact LeO.none _)
   | (with_reducible refine LeO.ite ?_ ?_)
   | (with_reducible refine LeO.bind ?_ (fun _ => ?_))
   | exact ih0 _ _ _
   | exact LeO.none _
   | refine LeO.ite ?_ ?_
   | refine LeO.bind ?_ (fun _ => ?_)
def laws_eqPointS.T6 : Bool × List (List Nat × List Nat) := (true, [([], []), ([], []), ([0, 1], [0, 1]), ([2], [2]), ([], []), ([], []), ([4, 5], [4, 5]), ([6], [6]), ([3, 7], [3, 7]), ([8], [8])])
def laws_eqPointS.B6 : List Nat := [0, 0, 3, 7, 0, 0, 48, 112, 255, 511]
theorem laws_eqPointS.tab6 : rtab .any (opsOf Try.f67 6) = laws_eqPointS.T6 := by kernel_rfl
theorem laws_eqPointS.bits6 : waitsOk laws_eqPointS.T6.2 laws_eqPointS.B6 = true := by kernel_rfl
set_option maxHeartbeats 8000000 in
set_option maxRecDepth 100000 in
theorem laws_eqPointS.calls (k : Nat) (A0 : Option Addr) (c0 : Nat) (l0 : List (S80)) (A1 : Option Addr) (c1 : Nat) (l1 : List (S80)) (r : Bool) (w : World) (hr0 : Kd.C k80 w A0 l0.length l0) (hc0 : l0.length ≤ c0) (hr1 : Kd.C k80 w A1 l1.length l1) (hc1 : l1.length ≤ c1) (h : laws_eqPointS.f k l0 l1 = some r) :
  Calls Try.prog 67 #[.slice A0 l0.length c0, .slice A1 l1.length c1] w fun e w' => e = .returned (.bool r) ∧ Below w.heap.size w w' := by
 have hu80 := Try.underlying80
 have HR0 := Aside0.mk hr0
 have HC0 := Aside0.mk hc0
 clear hr0 hc0
 have HR1 := Aside0.mk hr1
 have HC1 := Aside0.mk hc1
 clear hr1 hc1
 have HB := Aside0.mk (Below.refl w.heap.size w)
 have H : (if (l0.length : Int) = (l1.length : Int) then (laws_eqPointS.l0 k l0 l1 0) else (some false)) = some r := h
 clear h
 by_cases c3 : (l0.length : Int) = (l1.length : Int)
 ·rw [if_pos c3] at H
  have c3b0 : ((l0.length : Int) == (l1.length : Int)) = true := beq_iff_eq.mpr c3
  have c3b1 : ((l0.length : Int) != (l1.length : Int)) = false := bne_eq_false_iff_eq.mpr c3
  have c3b2 : (l0.length == l1.length) = true := by first | simpa using c3 | (simp at c3 ⊢; omega)
  clear c3
  have H' := Aside0.mk H
  clear H
  go_enter Try.func67, Try.ntmps67
  go_wp2
  go_loopg [5] k (fun kq v5 w' => ∃ (x5_1 : Int), v5 = .int .i64 x5_1 ∧ Aside0 (laws_eqPointS.l0 kq l0 l1 x5_1 = some r) ∧ Aside0 (kq ≤ k) ∧ Aside0 (Below w.heap.size w w'))
  case atStart => exact ⟨(0), (by first | rfl | (simp; done) | (simp [*]; done)), H', ⟨Nat.le_refl _⟩, ⟨by repeat (first | (with_reducible first | exact HB.out | apply below_alloc | apply pw_below_drewN | apply below_drew1) | exact HB.out)⟩⟩
  case round =>
   clear H'
   try clear c1
   try clear p2
   try clear c3
   try clear c3b0
   try clear c3b1
   try clear c3b2
   obtain ⟨x5_1, rfl, HA, HK1, HB⟩ := hrel
   cases gk with
   | zero => exact absurd HA.out (by simp [laws_eqPointS.l0])
   | succ k1 =>
    have H := HA.out
    clear HA
    simp only [laws_eqPointS.l0] at H
    by_cases c4 : x5_1 < (l0.length : Int)
    ·rw [if_pos c4] at H
     have c4b0 : decide (x5_1 < (l0.length : Int)) = true := decide_eq_true c4
     clear c4
     by_cases c5 : 0 ≤ x5_1
     ·rw [if_pos c5] at H
      have c5b0 : decide (0 ≤ x5_1) = true := decide_eq_true c5
      clear c5
      by_cases c6 : x5_1 < (l1.length : Int)
      ·rw [if_pos c6] at H
       have c6b0 : decide (x5_1 < (l1.length : Int)) = true := decide_eq_true c6
       clear c6
       replace H := Option.bind_eq_some_iff.mp H
       obtain ⟨t103, A70, H⟩ := H
       replace H : (if t103 = true then (laws_eqPointS.l0 k1 l0 l1 (wrap64 (x5_1 + 1))) else (some false)) = some r := H
       have A7 := Aside0.mk A70
       clear A70
       by_cases c8 : t103 = true
       ·subst c8
        have H1 : (laws_eqPointS.l0 k1 l0 l1 (wrap64 (x5_1 + 1))) = some r := by rw [if_pos rfl] at H; exact H
        clear H
        have H := H1
        clear H1
        have H' := Aside0.mk H
        clear H
        try go_wp2
        have n0_ := Aside0.mk (below_drew1 HB.out)
        clear HB
        have HB := n0_
        clear n0_
        have p101 : 0 ≤ (x5_1 : Int) := of_decide_eq_true (by first | (with_reducible assumption) | assumption)
        have q101 : x5_1 < (l0.length : Int) := of_decide_eq_true (by first | (with_reducible assumption) | assumption)
        obtain ⟨ad101, e101, hx101_0, hx101_1⟩ := at_T80 HR0.out x5_1 p101 q101
        have hw101_1 := hx101_1
        have hw101_0 := hx101_0
        cases e101
        replace hx101_0 := (HB.out.cell (World.block_lt_of_cell? w _ hx101_0)).trans hx101_0
        replace hx101_1 := (HB.out.cell (World.block_lt_of_cell? w _ hx101_1)).trans hx101_1
        replace p101 := eq_true p101
        replace q101 := eq_true q101
        have p102 : 0 ≤ (x5_1 : Int) := of_decide_eq_true (by first | (with_reducible assumption) | assumption)
        have q102 : x5_1 < (l1.length : Int) := of_decide_eq_true (by first | (with_reducible assumption) | assumption)
        obtain ⟨ad102, e102, hx102_0, hx102_1⟩ := at_T80 HR1.out x5_1 p102 q102
        have hw102_1 := hx102_1
        have hw102_0 := hx102_0
        cases e102
        replace hx102_0 := (HB.out.cell (World.block_lt_of_cell? w _ hx102_0)).trans hx102_0
        replace hx102_1 := (HB.out.cell (World.block_lt_of_cell? w _ hx102_1)).trans hx102_1
        replace p102 := eq_true p102
        replace q102 := eq_true q102
        refine start_ (n := 10) (S := fun w' => w'.cell? (ad101.add ((x5_1).toNat * 2)) = some (.int .i64 ((rd_T80 l0 x5_1).f0)) ∧ w'.cell? ⟨(ad101.add ((x5_1).toNat * 2)).block, (ad101.add ((x5_1).toNat * 2)).off + 1, none⟩ = some (.int .i64 ((rd_T80 l0 x5_1).f1)) ∧ w'.cell? (ad102.add ((x5_1).toNat * 2)) = some (.int .i64 ((rd_T80 l1 x5_1).f0)) ∧ w'.cell? ⟨(ad102.add ((x5_1).toNat * 2)).block, (ad102.add ((x5_1).toNat * 2)).off + 1, none⟩ = some (.int .i64 ((rd_T80 l1 x5_1).f1))) (ds := []) (bm 10 0) (by kernel_rfl) rfl rfl ⟨((HB.out.cell (World.block_lt_of_cell? w _ hw101_0)).trans hw101_0), ((HB.out.cell (World.block_lt_of_cell? w _ hw101_1)).trans hw101_1), ((HB.out.cell (World.block_lt_of_cell? w _ hw102_0)).trans hw102_0), ((HB.out.cell (World.block_lt_of_cell? w _ hw102_1)).trans hw102_1)⟩ (fun hHeld => ?_); refine with_tabW laws_eqPointS.tab6 laws_eqPointS.bits6 (fun HT_ HW_ => ?_)
        generalize wr.drew = w9 at HB hx101_0 hx101_1 hx102_0 hx102_1 hHeld ⊢
        refine plan_ ((0, 0, 17, 1) :: (0, 1, 18, 3) :: (0, 2, 19, 7) :: (0, 4, 21, 23) :: (0, 5, 22, 55) :: (0, 6, 23, 119) :: (2, 3, 20, 127) :: (2, 7, 24, 255) :: []) ?_
        iterate 8 (first | (refine planV_ ?_ ?_ rfl rfl (any_of HT_.out (by kernel_rfl)) (fun _ _ _ h => h) (Or.inl ⟨by rfl, ?_⟩) ?_ ?_; rotate_left 2; (· intro w'; go_simp; with_reducible rfl); (· simp only [Act.put, List.setIfInBounds_toArray, List.set_cons_zero, List.set_cons_succ, i64_w, i32_w]; rfl)) | (refine planT_ ?_ ?_ rfl rfl (take_ofW HT_.out HW_.out (by kernel_rfl)) (fun _ _ _ h => h) (Or.inl ⟨by rfl, ?_⟩) hHeld ?_ ?_; rotate_left 2; (· rintro w' ⟨s0, s1, s2, s3⟩; go_simp; with_reducible rfl); (· simp only [Act.put, List.setIfInBounds_toArray, List.set_cons_zero, List.set_cons_succ, i64_w, i32_w]; rfl)))
        refine planEnd_ ?_
        refine one_ (i := 8) (N := some 25) (bm 10 511) rfl rfl (one_of HT_.out (by kernel_rfl)) (by decide) (fun K hK => ?_)
        refine goes_ Try.func127 (by kernel_rfl) rfl #[.agg #[.int .i64 ((rd_T80 l0 x5_1).f0), .int .i64 ((rd_T80 l0 x5_1).f1)], .agg #[.int .i64 ((rd_T80 l1 x5_1).f0), .int .i64 ((rd_T80 l1 x5_1).f1)]] (by rfl) rfl rfl (by (try simp only [List.map_toArray, List.map_cons, List.map_nil]); first | done | rfl | (simp only [List.length_drop, List.length_take]; rfl)) ?_
        with_reducible refine (laws_eqPoint.calls ((rd_T80 l0 x5_1).f0) ((rd_T80 l0 x5_1).f1) ((rd_T80 l1 x5_1).f0) ((rd_T80 l1 x5_1).f1) true _ A7.out).mono ?_
        rintro e w10 ⟨rfl, hb⟩
        refine ⟨_, rfl, ?_⟩
        have n0_ := Aside0.mk (below_step (by repeat (first | (with_reducible first | exact HB.out | apply below_alloc | apply pw_below_drewN | apply below_drew1) | exact HB.out)) hb)
        clear HB
        have HB := n0_
        clear n0_
        (try clear hb)
        (try clear hb2)
        (try clear hk)
        (try clear hi)
        refine hK.out _ _ ⟨((HB.out.cell (World.block_lt_of_cell? w _ hw101_0)).trans hw101_0), ((HB.out.cell (World.block_lt_of_cell? w _ hw101_1)).trans hw101_1), ((HB.out.cell (World.block_lt_of_cell? w _ hw102_0)).trans hw102_0), ((HB.out.cell (World.block_lt_of_cell? w _ hw102_1)).trans hw102_1)⟩ (fun hHeld => ?_)
        clear hK K
        refine norm_ (a' := ?_) ?_ ?_
        rotate_left
        ·show Act.put _ (some 25) _ = _
         simp only [Act.put, List.setIfInBounds_toArray, List.set_cons_zero, List.set_cons_succ, i64_w, i32_w]
         rfl
        refine plan_ ((0, 9, 26, 1023) :: []) ?_
        iterate 1 (first | (refine planV_ ?_ ?_ rfl rfl (any_of HT_.out (by kernel_rfl)) (fun _ _ _ h => h) (Or.inl ⟨by rfl, ?_⟩) ?_ ?_; rotate_left 2; (· intro w'; go_simp; with_reducible rfl); (· simp only [Act.put, List.setIfInBounds_toArray, List.set_cons_zero, List.set_cons_succ, i64_w, i32_w]; rfl)))
        refine planEnd_ ?_
        refine done_ (done_of HT_.out (by kernel_rfl)) ?_
        try go_wp2
        go_roundg k1
        case measure => have := HK1.out; omega
        case rel => exact ⟨(wrap64 (x5_1 + 1)), (by first | rfl | (simp; done) | (simp [*]; done)), H', ⟨by have := HK1.out; omega⟩, ⟨by repeat (first | (with_reducible first | exact HB.out | apply below_alloc | apply pw_below_drewN | apply below_drew1) | exact HB.out)⟩⟩
       ·replace c8 := Bool.eq_false_iff.mpr c8
        subst c8
        have H1 : (some false) = some r := by rw [if_neg (show ¬ (false = true) by decide)] at H; exact H
        clear H
        have H := H1
        clear H1
        obtain rfl := Option.some.inj H
        try go_wp2
        have n0_ := Aside0.mk (below_drew1 HB.out)
        clear HB
        have HB := n0_
        clear n0_
        have p101 : 0 ≤ (x5_1 : Int) := of_decide_eq_true (by first | (with_reducible assumption) | assumption)
        have q101 : x5_1 < (l0.length : Int) := of_decide_eq_true (by first | (with_reducible assumption) | assumption)
        obtain ⟨ad101, e101, hx101_0, hx101_1⟩ := at_T80 HR0.out x5_1 p101 q101
        have hw101_1 := hx101_1
        have hw101_0 := hx101_0
        cases e101
        replace hx101_0 := (HB.out.cell (World.block_lt_of_cell? w _ hx101_0)).trans hx101_0
        replace hx101_1 := (HB.out.cell (World.block_lt_of_cell? w _ hx101_1)).trans hx101_1
        replace p101 := eq_true p101
        replace q101 := eq_true q101
        have p102 : 0 ≤ (x5_1 : Int) := of_decide_eq_true (by first | (with_reducible assumption) | assumption)
        have q102 : x5_1 < (l1.length : Int) := of_decide_eq_true (by first | (with_reducible assumption) | assumption)
        obtain ⟨ad102, e102, hx102_0, hx102_1⟩ := at_T80 HR1.out x5_1 p102 q102
        have hw102_1 := hx102_1
        have hw102_0 := hx102_0
        cases e102
        replace hx102_0 := (HB.out.cell (World.block_lt_of_cell? w _ hx102_0)).trans hx102_0
        replace hx102_1 := (HB.out.cell (World.block_lt_of_cell? w _ hx102_1)).trans hx102_1
        replace p102 := eq_true p102
        replace q102 := eq_true q102
        refine start_ (n := 10) (S := fun w' => w'.cell? (ad101.add ((x5_1).toNat * 2)) = some (.int .i64 ((rd_T80 l0 x5_1).f0)) ∧ w'.cell? ⟨(ad101.add ((x5_1).toNat * 2)).block, (ad101.add ((x5_1).toNat * 2)).off + 1, none⟩ = some (.int .i64 ((rd_T80 l0 x5_1).f1)) ∧ w'.cell? (ad102.add ((x5_1).toNat * 2)) = some (.int .i64 ((rd_T80 l1 x5_1).f0)) ∧ w'.cell? ⟨(ad102.add ((x5_1).toNat * 2)).block, (ad102.add ((x5_1).toNat * 2)).off + 1, none⟩ = some (.int .i64 ((rd_T80 l1 x5_1).f1))) (ds := []) (bm 10 0) (by kernel_rfl) rfl rfl ⟨((HB.out.cell (World.block_lt_of_cell? w _ hw101_0)).trans hw101_0), ((HB.out.cell (World.block_lt_of_cell? w _ hw101_1)).trans hw101_1), ((HB.out.cell (World.block_lt_of_cell? w _ hw102_0)).trans hw102_0), ((HB.out.cell (World.block_lt_of_cell? w _ hw102_1)).trans hw102_1)⟩ (fun hHeld => ?_); refine with_tabW laws_eqPointS.tab6 laws_eqPointS.bits6 (fun HT_ HW_ => ?_)
        generalize wr.drew = w11 at HB hx101_0 hx101_1 hx102_0 hx102_1 hHeld ⊢
        refine plan_ ((0, 0, 17, 1) :: (0, 1, 18, 3) :: (0, 2, 19, 7) :: (0, 4, 21, 23) :: (0, 5, 22, 55) :: (0, 6, 23, 119) :: (2, 3, 20, 127) :: (2, 7, 24, 255) :: []) ?_
        iterate 8 (first | (refine planV_ ?_ ?_ rfl rfl (any_of HT_.out (by kernel_rfl)) (fun _ _ _ h => h) (Or.inl ⟨by rfl, ?_⟩) ?_ ?_; rotate_left 2; (· intro w'; go_simp; with_reducible rfl); (· simp only [Act.put, List.setIfInBounds_toArray, List.set_cons_zero, List.set_cons_succ, i64_w, i32_w]; rfl)) | (refine planT_ ?_ ?_ rfl rfl (take_ofW HT_.out HW_.out (by kernel_rfl)) (fun _ _ _ h => h) (Or.inl ⟨by rfl, ?_⟩) hHeld ?_ ?_; rotate_left 2; (· rintro w' ⟨s0, s1, s2, s3⟩; go_simp; with_reducible rfl); (· simp only [Act.put, List.setIfInBounds_toArray, List.set_cons_zero, List.set_cons_succ, i64_w, i32_w]; rfl)))
        refine planEnd_ ?_
        refine one_ (i := 8) (N := some 25) (bm 10 511) rfl rfl (one_of HT_.out (by kernel_rfl)) (by decide) (fun K hK => ?_)
        refine goes_ Try.func127 (by kernel_rfl) rfl #[.agg #[.int .i64 ((rd_T80 l0 x5_1).f0), .int .i64 ((rd_T80 l0 x5_1).f1)], .agg #[.int .i64 ((rd_T80 l1 x5_1).f0), .int .i64 ((rd_T80 l1 x5_1).f1)]] (by rfl) rfl rfl (by (try simp only [List.map_toArray, List.map_cons, List.map_nil]); first | done | rfl | (simp only [List.length_drop, List.length_take]; rfl)) ?_
        with_reducible refine (laws_eqPoint.calls ((rd_T80 l0 x5_1).f0) ((rd_T80 l0 x5_1).f1) ((rd_T80 l1 x5_1).f0) ((rd_T80 l1 x5_1).f1) false _ A7.out).mono ?_
        rintro e w12 ⟨rfl, hb⟩
        refine ⟨_, rfl, ?_⟩
        have n0_ := Aside0.mk (below_step (by repeat (first | (with_reducible first | exact HB.out | apply below_alloc | apply pw_below_drewN | apply below_drew1) | exact HB.out)) hb)
        clear HB
        have HB := n0_
        clear n0_
        (try clear hb)
        (try clear hb2)
        (try clear hk)
        (try clear hi)
        refine hK.out _ _ ⟨((HB.out.cell (World.block_lt_of_cell? w _ hw101_0)).trans hw101_0), ((HB.out.cell (World.block_lt_of_cell? w _ hw101_1)).trans hw101_1), ((HB.out.cell (World.block_lt_of_cell? w _ hw102_0)).trans hw102_0), ((HB.out.cell (World.block_lt_of_cell? w _ hw102_1)).trans hw102_1)⟩ (fun hHeld => ?_)
        clear hK K
        refine norm_ (a' := ?_) ?_ ?_
        rotate_left
        ·show Act.put _ (some 25) _ = _
         simp only [Act.put, List.setIfInBounds_toArray, List.set_cons_zero, List.set_cons_succ, i64_w, i32_w]
         rfl
        refine plan_ ((0, 9, 26, 1023) :: []) ?_
        iterate 1 (first | (refine planV_ ?_ ?_ rfl rfl (any_of HT_.out (by kernel_rfl)) (fun _ _ _ h => h) (Or.inl ⟨by rfl, ?_⟩) ?_ ?_; rotate_left 2; (· intro w'; go_simp; with_reducible rfl); (· simp only [Act.put, List.setIfInBounds_toArray, List.set_cons_zero, List.set_cons_succ, i64_w, i32_w]; rfl)))
        refine planEnd_ ?_
        refine done_ (done_of HT_.out (by kernel_rfl)) ?_
        try go_wp2
        go_ret
        exact ⟨by first | rfl | (simp [errW_none, errW_some] <;> rfl) | (simp [*, errW_none, errW_some] <;> rfl), by repeat (first | (with_reducible first | exact HB.out | apply below_alloc | apply pw_below_drewN | apply below_drew1) | exact HB.out)⟩
      ·rw [if_neg c6] at H
       exact absurd H (by simp)
     ·rw [if_neg c5] at H
      exact absurd H (by simp)
    ·rw [if_neg c4] at H
     have c4b0 : decide (x5_1 < (l0.length : Int)) = false := decide_eq_false c4
     clear c4
     obtain rfl := Option.some.inj H
     go_wp2
     go_ret
     exact ⟨by first | rfl | (simp [errW_none, errW_some] <;> rfl) | (simp [*, errW_none, errW_some] <;> rfl), by repeat (first | (with_reducible first | exact HB.out | apply below_alloc | apply pw_below_drewN | apply below_drew1) | exact HB.out)⟩
 ·rw [if_neg c3] at H
  have c3b0 : ((l0.length : Int) == (l1.length : Int)) = false := beq_eq_false_iff_ne.mpr c3
  have c3b1 : ((l0.length : Int) != (l1.length : Int)) = true := bne_iff_ne.mpr c3
  have c3b2 : (l0.length == l1.length) = false := by first | simpa using c3 | (simp at c3 ⊢; omega)
  obtain rfl := Option.some.inj H
  go_enter Try.func67, Try.ntmps67
  go_wp2
  go_ret
  exact ⟨by first | rfl | (simp [errW_none, errW_some] <;> rfl) | (simp [*, errW_none, errW_some] <;> rfl), by repeat (first | (with_reducible first | exact HB.out | apply below_alloc | apply pw_below_drewN | apply below_drew1) | exact HB.out)⟩

end Go.Proofs.Ytldcckcljjlglaa.P

namespace Go.Proofs.Ytldcckcljjlglaa.P
open Go.RowKit Go.Proofs.YtldcckcljjlglaaW.PrintWords Go.Proofs.YtldcckcljjlglaaW.PrintLast Go.Proofs.YtldcckcljjlglaaW.PrintMore
attribute [local go_sem] max2_int min2_int max_two min_two max_three min_three max_four min_four   -- for this text's walks alone
set_option linter.unusedVariables false
set_option linter.unusedSimpArgs false

/-! ### laws_FnExactArePerspective: function 11 -/
def laws_FnExactArePerspective.f (k : Nat) (l0 : List (S114)) : Option (Bool) := (laws_szPointS.f l0 1048576).bind fun t101 => (if t101 < 0 then (some true) else ((laws_toPointS.f k l0).bind fun t102 => ((spec_ArePerspective.f k t102).bind fun t105 => ((laws_toPointS.f k l0).bind fun t106 => ((impl_ArePerspective.f k t106).bind fun t109 => (if (t109 != t105) = true then (some false) else ((laws_toPointS.f k l0).bind fun t110 => ((laws_eqPointS.f k t106 t110).bind fun t113 => (if t113 = true then (some true) else (some false))))))))))
theorem laws_FnExactArePerspective.mono : ∀ a0 k, LeO (laws_FnExactArePerspective.f k a0) (laws_FnExactArePerspective.f (k + 1) a0) := by
 intro a0 k
 unfold laws_FnExactArePerspective.f
 repeat' first
   | (with_reducible exact impl_ArePerspective.mono _ _)
   | (with_reducible exact laws_eqPointS.mono _ _ _)
   | (with_reducible exact laws_toPointS.mono _ _)
   | (with_reducible exact spec_ArePerspective.mono _ _)
   | (with_reducible exact LeO.refl _)
   | (with_reducible exact LeO.none _)
   | (with_reducible refine LeO.ite ?_ ?_)
   | (with_reducible refine LeO.bind ?_ (fun _ => ?_))
   | exact impl_ArePerspective.mono _ _
   | exact laws_eqPointS.mono _ _ _
   | exact laws_toPointS.mono _ _
   | exact spec_ArePerspective.mono _ _
   | exact LeO.none _
   | refine LeO.ite ?_ ?_
   | refine LeO.bind ?_ (fun _ => ?_)
set_option maxHeartbeats 8000000 in
set_option maxRecDepth 100000 in
theorem laws_FnExactArePerspective.calls (k : Nat) (A0 : Option Addr) (c0 : Nat) (l0 : List (S114)) (r : Bool) (w : World) (hr0 : Kd.C k114 w A0 l0.length l0) (hc0 : l0.length ≤ c0) (h : laws_FnExactArePerspective.f k l0 = some true) :
  Calls Try.prog 11 #[.slice A0 l0.length c0] w fun e w' => e = .returned (.bool true) ∧ Below w.heap.size w w' := by
 have HR0 := Aside0.mk hr0
 have HC0 := Aside0.mk hc0
 clear hr0 hc0
 have HB := Aside0.mk (Below.refl w.heap.size w)
 have H : ((laws_szPointS.f l0 1048576).bind fun t101 => (if t101 < 0 then (some true) else ((laws_toPointS.f k l0).bind fun t102 => ((spec_ArePerspective.f k t102).bind fun t105 => ((laws_toPointS.f k l0).bind fun t106 => ((impl_ArePerspective.f k t106).bind fun t109 => (if (t109 != t105) = true then (some false) else ((laws_toPointS.f k l0).bind fun t110 => ((laws_eqPointS.f k t106 t110).bind fun t113 => (if t113 = true then (some true) else (some false))))))))))) = some true := h
 clear h
 replace H := Option.bind_eq_some_iff.mp H
 obtain ⟨t101, A20, H⟩ := H
 replace H : (if t101 < 0 then (some true) else ((laws_toPointS.f k l0).bind fun t102 => ((spec_ArePerspective.f k t102).bind fun t105 => ((laws_toPointS.f k l0).bind fun t106 => ((impl_ArePerspective.f k t106).bind fun t109 => (if (t109 != t105) = true then (some false) else ((laws_toPointS.f k l0).bind fun t110 => ((laws_eqPointS.f k t106 t110).bind fun t113 => (if t113 = true then (some true) else (some false)))))))))) = some true := H
 have A2 := Aside0.mk A20
 clear A20
 by_cases c3 : t101 < 0
 ·rw [if_pos c3] at H
  have c3b0 : decide (t101 < 0) = true := decide_eq_true c3
  clear c3
  clear H
  go_enter Try.func11, Try.ntmps11
  go_wp2_with (first | ((with_reducible refine gate_callee (f := 63) rfl ?_); refine goesL_ (some 9) rfl rfl Try.func63 (by kernel_rfl) rfl #[.slice A0 l0.length c0, .int .i64 1048576] rfl (by (try simp only [List.map_toArray, List.map_cons, List.map_nil]); first | done | rfl | (simp only [List.length_drop, List.length_take]; rfl)) ?_; (with_reducible refine (laws_szPointS.calls _ _ l0 1048576 t101 _ ?side1 ?side2 A2.out).mono ?_); (case side1 => repeat (first | exact HR0.out | (with_reducible refine Kd.C_alloc ?_ _) | (with_reducible refine Kd.C_drewN ?_ _) | (with_reducible refine Kd.C_drew ?_))); (case side2 => exact HC0.out); rintro e w' ⟨rfl, ⟨nd, rfl⟩⟩; refine ⟨_, rfl, ?_⟩))
  go_ret
  exact ⟨by first | rfl | (simp [errW_none, errW_some] <;> rfl) | (simp [*, errW_none, errW_some] <;> rfl), by repeat (first | (with_reducible first | exact HB.out | apply below_alloc | apply pw_below_drewN | apply below_drew1) | exact HB.out)⟩
 ·rw [if_neg c3] at H
  have c3b0 : decide (t101 < 0) = false := decide_eq_false c3
  clear c3
  replace H := Option.bind_eq_some_iff.mp H
  obtain ⟨t102, A40, H⟩ := H
  replace H : ((spec_ArePerspective.f k t102).bind fun t105 => ((laws_toPointS.f k l0).bind fun t106 => ((impl_ArePerspective.f k t106).bind fun t109 => (if (t109 != t105) = true then (some false) else ((laws_toPointS.f k l0).bind fun t110 => ((laws_eqPointS.f k t106 t110).bind fun t113 => (if t113 = true then (some true) else (some false)))))))) = some true := H
  have A4 := Aside0.mk A40
  clear A40
  replace H := Option.bind_eq_some_iff.mp H
  obtain ⟨t105, A50, H⟩ := H
  replace H : ((laws_toPointS.f k l0).bind fun t106 => ((impl_ArePerspective.f k t106).bind fun t109 => (if (t109 != t105) = true then (some false) else ((laws_toPointS.f k l0).bind fun t110 => ((laws_eqPointS.f k t106 t110).bind fun t113 => (if t113 = true then (some true) else (some false))))))) = some true := H
  have A5 := Aside0.mk A50
  clear A50
  replace H := Option.bind_eq_some_iff.mp H
  obtain ⟨t106, A60, H⟩ := H
  replace H : ((impl_ArePerspective.f k t106).bind fun t109 => (if (t109 != t105) = true then (some false) else ((laws_toPointS.f k l0).bind fun t110 => ((laws_eqPointS.f k t106 t110).bind fun t113 => (if t113 = true then (some true) else (some false)))))) = some true := H
  have A6 := Aside0.mk A60
  clear A60
  replace H := Option.bind_eq_some_iff.mp H
  obtain ⟨t109, A70, H⟩ := H
  replace H : (if (t109 != t105) = true then (some false) else ((laws_toPointS.f k l0).bind fun t110 => ((laws_eqPointS.f k t106 t110).bind fun t113 => (if t113 = true then (some true) else (some false))))) = some true := H
  have A7 := Aside0.mk A70
  clear A70
  by_cases c8 : (t109 != t105) = true
  ·rw [if_pos c8] at H
   have c8b0 : (t109 != t105) = true := c8
   (try (have c8b1 : decide (t109 = t105) = false := by simpa using c8))
   (try (have c8b2 : (t109 == t105) = false := by simpa using c8))
   (try (have c8b3 : ¬ (t109 = t105) := by simpa using c8))
   clear c8
   exact absurd H (by simp)
  ·rw [if_neg c8] at H
   have c8b0 : (t109 != t105) = false := by simpa using c8
   (try (have c8b1 : decide (t109 = t105) = true := by simpa using c8))
   (try (have c8b2 : (t109 == t105) = true := by simpa using c8))
   clear c8
   replace H := Option.bind_eq_some_iff.mp H
   obtain ⟨t110, A150, H⟩ := H
   replace H : ((laws_eqPointS.f k t106 t110).bind fun t113 => (if t113 = true then (some true) else (some false))) = some true := H
   have A15 := Aside0.mk A150
   clear A150
   replace H := Option.bind_eq_some_iff.mp H
   obtain ⟨t113, A160, H⟩ := H
   replace H : (if t113 = true then (some true) else (some false)) = some true := H
   have A16 := Aside0.mk A160
   clear A160
   by_cases c17 : t113 = true
   ·subst c17
    have H1 : (some true : Option Bool) = some true := rfl
    clear H
    have H := H1
    clear H1
    clear H
    go_enter Try.func11, Try.ntmps11
    go_wp2_with (first | ((with_reducible refine gate_callee (f := 63) rfl ?_); refine goesL_ (some 9) rfl rfl Try.func63 (by kernel_rfl) rfl #[.slice A0 l0.length c0, .int .i64 1048576] rfl (by (try simp only [List.map_toArray, List.map_cons, List.map_nil]); first | done | rfl | (simp only [List.length_drop, List.length_take]; rfl)) ?_; (with_reducible refine (laws_szPointS.calls _ _ l0 1048576 t101 _ ?side1 ?side2 A2.out).mono ?_); (case side1 => repeat (first | exact HR0.out | (with_reducible refine Kd.C_alloc ?_ _) | (with_reducible refine Kd.C_drewN ?_ _) | (with_reducible refine Kd.C_drew ?_))); (case side2 => exact HC0.out); rintro e w' ⟨rfl, ⟨nd, rfl⟩⟩; refine ⟨_, rfl, ?_⟩) | ((with_reducible refine gate_callee (f := 65) rfl ?_); refine goesL_ (some 13) rfl rfl Try.func65 (by kernel_rfl) rfl #[.slice A0 l0.length c0] rfl (by (try simp only [List.map_toArray, List.map_cons, List.map_nil]); first | done | rfl | (simp only [List.length_drop, List.length_take]; rfl)) ?_; (with_reducible refine (laws_toPointS.calls k _ _ l0 t102 _ ?side1 ?side2 A4.out).mono ?_); (case side1 => repeat (first | exact HR0.out | (with_reducible refine Kd.C_alloc ?_ _) | (with_reducible refine Kd.C_drewN ?_ _) | (with_reducible refine Kd.C_drew ?_))); (case side2 => exact HC0.out); rintro e w18 ⟨v103, rfl, ho0, hb⟩; refine ⟨_, rfl, ?_⟩; have n0_ := Aside0.mk (Kd.R_lower ho0 (below_size (by repeat (first | (with_reducible first | exact HB.out | apply below_alloc | apply pw_below_drewN | apply below_drew1) | exact HB.out)))); have n1_ := Aside0.mk (below_step (by repeat (first | (with_reducible first | exact HB.out | apply below_alloc | apply pw_below_drewN | apply below_drew1) | exact HB.out)) hb); clear HB; have HO104 := n0_; have HB := n1_; clear n0_ n1_; (try clear hb); (try clear hb2); (try clear hk); (try clear hi); (try clear ho0); obtain ⟨Ao19, co19, eo19⟩ := Kd.R_slice HO104.out; subst eo19) | ((with_reducible refine gate_callee (f := 64) rfl ?_); refine goesL_ (some 14) rfl rfl Try.func64 (by kernel_rfl) rfl #[.slice Ao19 t102.length co19] rfl (by (try simp only [List.map_toArray, List.map_cons, List.map_nil]); first | done | rfl | (simp only [List.length_drop, List.length_take]; rfl)) ?_; (with_reducible refine (spec_ArePerspective.calls k _ _ t102 t105 _ ?side1 ?side2 A5.out).mono ?_); (case side1 => repeat (first | exact (Kd.R_reads' HO104.out).2.2 | (with_reducible refine Kd.C_alloc ?_ _) | (with_reducible refine Kd.C_drewN ?_ _) | (with_reducible refine Kd.C_drew ?_))); (case side2 => exact (Kd.R_reads' HO104.out).2.1); rintro e w20 ⟨rfl, hb⟩; refine ⟨_, rfl, ?_⟩; have n0_ := Aside0.mk (Kd.R_below (by (with_reducible repeat (first | apply Kd.R_alloc | apply Kd.R_drewN | apply Kd.R_drew)); exact HO104.out) hb); have n1_ := Aside0.mk (below_step (by repeat (first | (with_reducible first | exact HB.out | apply below_alloc | apply pw_below_drewN | apply below_drew1) | exact HB.out)) hb); clear HO104; clear HB; have HO104 := n0_; have HB := n1_; clear n0_ n1_; (try clear hb); (try clear hb2); (try clear hk); (try clear hi)) | ((with_reducible refine gate_callee (f := 65) rfl ?_); refine goesL_ (some 16) rfl rfl Try.func65 (by kernel_rfl) rfl #[.slice A0 l0.length c0] rfl (by (try simp only [List.map_toArray, List.map_cons, List.map_nil]); first | done | rfl | (simp only [List.length_drop, List.length_take]; rfl)) ?_; (with_reducible refine (laws_toPointS.calls k _ _ l0 t106 _ ?side1 ?side2 A6.out).mono ?_); (case side1 => repeat (first | exact (Kd.C_below HR0.out HB.out) | (with_reducible refine Kd.C_alloc ?_ _) | (with_reducible refine Kd.C_drewN ?_ _) | (with_reducible refine Kd.C_drew ?_))); (case side2 => exact HC0.out); rintro e w21 ⟨v107, rfl, ho0, hb⟩; refine ⟨_, rfl, ?_⟩; have n0_ := Aside0.mk (Kd.R_elder' (by (with_reducible repeat (first | apply Kd.R_alloc | apply Kd.R_drewN | apply Kd.R_drew)); exact HO104.out) (Kd.R_base ho0) hb); have n1_ := Aside0.mk (Kd.R_lower (Kd.R_new' ho0 (Kd.R_lt (by (with_reducible repeat (first | apply Kd.R_alloc | apply Kd.R_drewN | apply Kd.R_drew)); exact HO104.out))) (below_size (by repeat (first | (with_reducible first | exact HB.out | apply below_alloc | apply pw_below_drewN | apply below_drew1) | exact HB.out)))); have n2_ := Aside0.mk (below_step (by repeat (first | (with_reducible first | exact HB.out | apply below_alloc | apply pw_below_drewN | apply below_drew1) | exact HB.out)) hb); clear HO104; clear HB; have HO104 := n0_; have HO108 := n1_; have HB := n2_; clear n0_ n1_ n2_; (try clear hb); (try clear hb2); (try clear hk); (try clear hi); (try clear ho0); obtain ⟨Ao22, co22, eo22⟩ := Kd.R_slice HO108.out; subst eo22) | ((with_reducible refine gate_callee (f := 66) rfl ?_); refine goesL_ (some 18) rfl rfl Try.func66 (by kernel_rfl) rfl #[.slice Ao22 t106.length co22] rfl (by (try simp only [List.map_toArray, List.map_cons, List.map_nil]); first | done | rfl | (simp only [List.length_drop, List.length_take]; rfl)) ?_; (with_reducible refine (impl_ArePerspective.calls k _ _ t106 t109 _ ?side1 ?side2 A7.out).mono ?_); (case side1 => repeat (first | exact (Kd.R_reads' HO108.out).2.2 | (with_reducible refine Kd.C_alloc ?_ _) | (with_reducible refine Kd.C_drewN ?_ _) | (with_reducible refine Kd.C_drew ?_))); (case side2 => exact (Kd.R_reads' HO108.out).2.1); rintro e w23 ⟨rfl, hb⟩; refine ⟨_, rfl, ?_⟩; have n0_ := Aside0.mk (Kd.R_below (by (with_reducible repeat (first | apply Kd.R_alloc | apply Kd.R_drewN | apply Kd.R_drew)); exact HO104.out) hb); have n1_ := Aside0.mk (Kd.R_below (by (with_reducible repeat (first | apply Kd.R_alloc | apply Kd.R_drewN | apply Kd.R_drew)); exact HO108.out) hb); have n2_ := Aside0.mk (below_step (by repeat (first | (with_reducible first | exact HB.out | apply below_alloc | apply pw_below_drewN | apply below_drew1) | exact HB.out)) hb); clear HO104; clear HO108; clear HB; have HO104 := n0_; have HO108 := n1_; have HB := n2_; clear n0_ n1_ n2_; (try clear hb); (try clear hb2); (try clear hk); (try clear hi)) | ((with_reducible refine gate_callee (f := 65) rfl ?_); refine goesL_ (some 24) rfl rfl Try.func65 (by kernel_rfl) rfl #[.slice A0 l0.length c0] rfl (by (try simp only [List.map_toArray, List.map_cons, List.map_nil]); first | done | rfl | (simp only [List.length_drop, List.length_take]; rfl)) ?_; (with_reducible refine (laws_toPointS.calls k _ _ l0 t110 _ ?side1 ?side2 A15.out).mono ?_); (case side1 => repeat (first | exact (Kd.C_below HR0.out HB.out) | (with_reducible refine Kd.C_alloc ?_ _) | (with_reducible refine Kd.C_drewN ?_ _) | (with_reducible refine Kd.C_drew ?_))); (case side2 => exact HC0.out); rintro e w24 ⟨v111, rfl, ho0, hb⟩; refine ⟨_, rfl, ?_⟩; have n0_ := Aside0.mk (Kd.R_elder' (by (with_reducible repeat (first | apply Kd.R_alloc | apply Kd.R_drewN | apply Kd.R_drew)); exact HO104.out) (Kd.R_base ho0) hb); have n1_ := Aside0.mk (Kd.R_elder' (by (with_reducible repeat (first | apply Kd.R_alloc | apply Kd.R_drewN | apply Kd.R_drew)); exact HO108.out) (Kd.R_base ho0) hb); have n2_ := Aside0.mk (Kd.R_lower (Kd.R_new' (Kd.R_new' ho0 (Kd.R_lt (by (with_reducible repeat (first | apply Kd.R_alloc | apply Kd.R_drewN | apply Kd.R_drew)); exact HO104.out))) (Kd.R_lt (by (with_reducible repeat (first | apply Kd.R_alloc | apply Kd.R_drewN | apply Kd.R_drew)); exact HO108.out))) (below_size (by repeat (first | (with_reducible first | exact HB.out | apply below_alloc | apply pw_below_drewN | apply below_drew1) | exact HB.out)))); have n3_ := Aside0.mk (below_step (by repeat (first | (with_reducible first | exact HB.out | apply below_alloc | apply pw_below_drewN | apply below_drew1) | exact HB.out)) hb); clear HO104; clear HO108; clear HB; have HO104 := n0_; have HO108 := n1_; have HO112 := n2_; have HB := n3_; clear n0_ n1_ n2_ n3_; (try clear hb); (try clear hb2); (try clear hk); (try clear hi); (try clear ho0); obtain ⟨Ao25, co25, eo25⟩ := Kd.R_slice HO112.out; subst eo25) | ((with_reducible refine gate_callee (f := 67) rfl ?_); refine goesL_ (some 25) rfl rfl Try.func67 (by kernel_rfl) rfl #[.slice Ao22 t106.length co22, .slice Ao25 t110.length co25] rfl (by (try simp only [List.map_toArray, List.map_cons, List.map_nil]); first | done | rfl | (simp only [List.length_drop, List.length_take]; rfl)) ?_; (with_reducible refine (laws_eqPointS.calls k _ _ t106 _ _ t110 true _ ?side1 ?side2 ?side3 ?side4 A16.out).mono ?_); (case side1 => repeat (first | exact (Kd.R_reads' HO108.out).2.2 | (with_reducible refine Kd.C_alloc ?_ _) | (with_reducible refine Kd.C_drewN ?_ _) | (with_reducible refine Kd.C_drew ?_))); (case side2 => exact (Kd.R_reads' HO108.out).2.1); (case side3 => repeat (first | exact (Kd.R_reads' HO112.out).2.2 | (with_reducible refine Kd.C_alloc ?_ _) | (with_reducible refine Kd.C_drewN ?_ _) | (with_reducible refine Kd.C_drew ?_))); (case side4 => exact (Kd.R_reads' HO112.out).2.1); rintro e w26 ⟨rfl, hb⟩; refine ⟨_, rfl, ?_⟩; have n0_ := Aside0.mk (Kd.R_below (by (with_reducible repeat (first | apply Kd.R_alloc | apply Kd.R_drewN | apply Kd.R_drew)); exact HO104.out) hb); have n1_ := Aside0.mk (Kd.R_below (by (with_reducible repeat (first | apply Kd.R_alloc | apply Kd.R_drewN | apply Kd.R_drew)); exact HO108.out) hb); have n2_ := Aside0.mk (Kd.R_below (by (with_reducible repeat (first | apply Kd.R_alloc | apply Kd.R_drewN | apply Kd.R_drew)); exact HO112.out) hb); have n3_ := Aside0.mk (below_step (by repeat (first | (with_reducible first | exact HB.out | apply below_alloc | apply pw_below_drewN | apply below_drew1) | exact HB.out)) hb); clear HO104; clear HO108; clear HO112; clear HB; have HO104 := n0_; have HO108 := n1_; have HO112 := n2_; have HB := n3_; clear n0_ n1_ n2_ n3_; (try clear hb); (try clear hb2); (try clear hk); (try clear hi)))
    go_ret
    exact ⟨by first | rfl | (simp [errW_none, errW_some] <;> rfl) | (simp [*, errW_none, errW_some] <;> rfl), by repeat (first | (with_reducible first | exact HB.out | apply below_alloc | apply pw_below_drewN | apply below_drew1) | exact HB.out)⟩
   ·replace c17 := Bool.eq_false_iff.mpr c17
    subst c17
    have H1 : (some false) = some true := by rw [if_neg (show ¬ (false = true) by decide)] at H; exact H
    clear H
    have H := H1
    clear H1
    exact absurd H (by simp)
/-- THE ONE PURE STATEMENT of laws_FnExactArePerspective. -/
def laws_FnExactArePerspective.Pure : Prop := ∀ (x0 : List (S114)), (x0.length ≤ maxLen ∧ ∀ y0 ∈ x0, ((Lit.int .i64 y0.f0).wf = true ∧ (Lit.int .i64 y0.f1).wf = true)) → ∃ k, laws_FnExactArePerspective.f k x0 = some true

end Go.Proofs.Ytldcckcljjlglaa.P

namespace Go.Proofs.Ytldcckcljjlglaa.Com
open Go.RowKit Go.Proofs.YtldcckcljjlglaaW.PrintWords
set_option linter.unusedSimpArgs false
set_option linter.unusedVariables false

theorem w64 {x : Int} (h0 : -9223372036854775808 ≤ x) (h1 : x ≤ 9223372036854775807) : wrap64 x = x := by unfold wrap64; omega
theorem set_take_succ {α : Type} (l : List α) (n : Nat) (v : α) (h : n < l.length) : (l.set n v).take (n + 1) = l.take n ++ [v] := by
  rw [List.take_succ_eq_append_getElem (by simpa using h), List.take_set_of_le (Nat.le_refl n)]; simp
theorem drop_cons {α : Type} (l : List α) (n : Nat) (d : α) (h : n < l.length) : l.drop n = l.getD n d :: l.drop (n + 1) := by
  rw [List.drop_eq_getElem_cons h]; simp [List.getD, List.getElem?_eq_getElem h]
theorem getD_set {α : Type} (l : List α) (n : Nat) (d v : α) (h : n < l.length) : (l.set n v).getD n d = v := by
  simp [List.getD, List.getElem?_set, h]
theorem getD_mem {α : Type} (l : List α) (n : Nat) (d : α) (h : n < l.length) : l.getD n d ∈ l := by
  simp [List.getD, List.getElem?_eq_getElem h]
theorem getD_map {α β : Type} (f : α → β) (l : List α) (n : Nat) (d : α) (e : β) (h : n < l.length) : (l.map f).getD n e = f (l.getD n d) := by
  simp [List.getD, h]
theorem succ_of_lt {d k : Nat} (h : d < k) : ∃ m, k = m + 1 ∧ d ≤ m := ⟨k - 1, by omega, by omega⟩
theorem Ev.iteT {α : Type} {c : Prop} [Decidable c] {g f : Nat → Option α} {r : α} (hc : c) (h : Ev g r) : Ev (fun k => if c then g k else f k) r := by simpa only [if_pos hc] using h
theorem Ev.iteF {α : Type} {c : Prop} [Decidable c] {g f : Nat → Option α} {r : α} (hc : ¬ c) (h : Ev f r) : Ev (fun k => if c then g k else f k) r := by simpa only [if_neg hc] using h
theorem Ev.const {α : Type} {o : Option α} {r : α} (h : o = some r) : Ev (fun _ => o) r := ⟨0, fun _ _ => h⟩
/-- Rounds enough, told by a bound. -/
theorem Ev.from {α : Type} {g : Nat → Option α} {r : α} (K : Nat) (h : ∀ k, K ≤ k → g k = some r) : Ev g r := ⟨K, h⟩
theorem Ev.bind0 {α β : Type} {o : Option α} {f : Nat → α → Option β} {a : α} {r : β} (h : o = some a) (k : Ev (fun n => f n a) r) : Ev (fun n => o.bind (f n)) r := Ev.bind ⟨0, fun _ _ => h⟩ k
end Go.Proofs.Ytldcckcljjlglaa.Com

namespace Go.Proofs.Ytldcckcljjlglaa.Pure
open Go.RowKit Go.Proofs.Ytldcckcljjlglaa.P Go.Proofs.YtldcckcljjlglaaW.PrintWords Go.Proofs.YtldcckcljjlglaaW.PrintLast
set_option linter.unusedSimpArgs false
set_option linter.unusedVariables false
open Go.Proofs.Ytldcckcljjlglaa.Com
def convPoint (x : S114) : S80 := ⟨x.f0, x.f1⟩
theorem toPointS_l0 (l : List S114) (hm : l.length ≤ 1099511627776) (d : Nat) : ∀ (k : Nat) (i : Int) (out : List S80), 0 ≤ i → i + d = l.length → out.length = l.length → d < k →
    laws_toPointS.l0 k l out i = some (out.take i.toNat ++ (l.drop i.toNat).map convPoint) := by
  induction d with
  | zero =>
    intro k i out h0 hi ho hk
    obtain ⟨k, rfl, _⟩ := succ_of_lt hk
    simp only [laws_toPointS.l0]
    rw [if_neg (by omega), List.take_of_length_le (by omega), List.drop_of_length_le (by omega)]; simp
  | succ d ih =>
    intro k i out h0 hi ho hk
    obtain ⟨k, rfl, hk⟩ := succ_of_lt hk
    have hlt : i.toNat < out.length := by omega
    simp only [laws_toPointS.l0]
    rw [if_pos (by omega), if_pos h0]
    simp only [laws_toPoint.f, Option.bind_some]
    rw [if_pos (by omega), w64 (by omega) (by omega), ih k (i + 1) _ (by omega) (by omega) (by simpa using ho) (by omega)]
    rw [show (i + 1).toNat = i.toNat + 1 from by omega, set_take_succ _ _ _ hlt, drop_cons l i.toNat z114 (by omega)]
    simp [convPoint, rd_T114]
theorem toPointS_eq (l : List S114) (hm : l.length ≤ 1048576) : Ev (fun k => laws_toPointS.f k l) (l.map convPoint) := by
  refine ⟨l.length + 1, fun k hk => ?_⟩
  dsimp only
  unfold laws_toPointS.f
  rw [if_pos (by omega), if_pos (by omega), toPointS_l0 l (by omega) l.length k 0 _ (by omega) (by omega) (by simp) (by omega)]
  simp
theorem eqPointS_l0 (a : List S80) (hm : a.length ≤ 1099511627776) (d : Nat) : ∀ (k : Nat) (i : Int), 0 ≤ i → i + d = a.length → d < k → laws_eqPointS.l0 k a a i = some true := by
  induction d with
  | zero =>
    intro k i h0 hi hk
    obtain ⟨k, rfl, _⟩ := succ_of_lt hk
    simp only [laws_eqPointS.l0]
    rw [if_neg (by omega)]
  | succ d ih =>
    intro k i h0 hi hk
    obtain ⟨k, rfl, hk⟩ := succ_of_lt hk
    simp only [laws_eqPointS.l0]
    rw [if_pos (by omega), if_pos h0, if_pos (by omega)]
    simp only [laws_eqPoint.f, if_true, Option.bind_some]
    rw [w64 (by omega) (by omega), ih k (i + 1) (by omega) (by omega) (by omega)]
theorem eqPointS_refl (a : List S80) (hm : a.length ≤ 1099511627776) : Ev (fun k => laws_eqPointS.f k a a) true := by
  refine ⟨a.length + 1, fun k hk => ?_⟩
  dsimp only
  unfold laws_eqPointS.f
  rw [if_pos rfl, eqPointS_l0 a hm a.length k 0 (by omega) (by omega) (by omega)]
end Go.Proofs.Ytldcckcljjlglaa.Pure

namespace Go.Proofs.Ytldcckcljjlglaa.Pure
open Go.RowKit Go.Proofs.Ytldcckcljjlglaa.P Go.Proofs.YtldcckcljjlglaaW.PrintWords Go.Proofs.YtldcckcljjlglaaW.PrintLast Go.Proofs.Ytldcckcljjlglaa.Com
set_option linter.unusedSimpArgs false
set_option linter.unusedVariables false

theorem szPointS_eq (l : List S114) (hm : l.length ≤ maxLen) : laws_szPointS.f l 1048576 = some (if l.length ≤ 1048576 then 1048576 - (l.length : Int) else -1) := by
  unfold maxLen at hm
  unfold laws_szPointS.f
  rw [w64 (by omega) (by omega)]
  by_cases h : l.length ≤ 1048576
  · rw [if_neg (by omega), if_pos h]
  · rw [if_pos (by omega), if_neg h]
end Go.Proofs.Ytldcckcljjlglaa.Pure

namespace Go.Proofs.Ytldcckcljjlglaa.Pure
open Go.RowKit Go.Proofs.Ytldcckcljjlglaa.P Go.Proofs.YtldcckcljjlglaaW.PrintWords Go.Proofs.YtldcckcljjlglaaW.PrintLast Go.Proofs.Ytldcckcljjlglaa.Com
set_option linter.unusedSimpArgs false
set_option linter.unusedVariables false

def inB (n m : Int) : Bool := decide (-m ≤ n ∧ n ≤ m)
theorem inB_iff {n m : Int} : inB n m = true ↔ -m ≤ n ∧ n ≤ m := by simp [inB]
theorem l1In_eq (a lo hi : Int) : spec_l1In.f a lo hi = some (decide (lo ≤ a ∧ a ≤ hi)) := by
  unfold spec_l1In.f
  by_cases h : a ≥ lo
  · rw [if_pos h]; congr 1; simp only [decide_eq_decide]; omega
  · rw [if_neg h]; congr 1; symm; simp only [decide_eq_false_iff_not]; omega
theorem l1In_inB (a m : Int) (h0 : 0 ≤ m) (h1 : m ≤ 4611686018427387904) : spec_l1In.f a (wrap64 (-m)) m = some (inB a m) := by
  rw [w64 (by omega) (by omega), l1In_eq]; rfl
end Go.Proofs.Ytldcckcljjlglaa.Pure

namespace Go.Proofs.Ytldcckcljjlglaa.Pure
open Go.RowKit Go.Proofs.Ytldcckcljjlglaa.P Go.Proofs.YtldcckcljjlglaaW.PrintWords Go.Proofs.YtldcckcljjlglaaW.PrintLast Go.Proofs.Ytldcckcljjlglaa.Com
set_option linter.unusedSimpArgs false
set_option linter.unusedVariables false

theorem farB_eq (n m : Int) (h0 : 0 ≤ m) (h1 : m ≤ 4611686018427387904) : farB n m = !inB n m := by
  unfold farB impl_isFar.f inB
  rw [w64 (by omega) (by omega)]
  by_cases h : n < -m
  · rw [if_pos h, Option.getD_some, Bool.eq_iff_iff]; simp; omega
  · rw [if_neg h, Option.getD_some, Bool.eq_iff_iff]; simp; omega
theorem l2Fits_eq (x y m : Int) (h0 : 0 ≤ m) (h1 : m ≤ 4611686018427387904) : spec_l2Fits.f x y m = some (inB x m && inB y m) := by
  unfold spec_l2Fits.f
  rw [l1In_inB x m h0 h1, l1In_inB y m h0 h1]
  simp only [Option.bind_some]
  cases inB x m <;> simp
theorem areNear_eq (m : Int) (l : List S80) (h0 : 0 ≤ m) (h1 : m ≤ 4611686018427387904) : impl_areNear.f m l = some (l.all fun p => inB p.f0 m && inB p.f1 m) := by
  unfold impl_areNear.f outPoint
  congr 1
  rw [List.not_any_eq_all_not]
  congr 1
  funext p
  rw [farB_eq _ _ h0 h1, farB_eq _ _ h0 h1]
  simp
end Go.Proofs.Ytldcckcljjlglaa.Pure

namespace Go.Proofs.Ytldcckcljjlglaa.Pure
open Go.RowKit Go.Proofs.YtldcckcljjlglaaW.PrintWords Go.Proofs.YtldcckcljjlglaaW.PrintLast Go.Proofs.Ytldcckcljjlglaa.Com
set_option linter.unusedSimpArgs false
set_option linter.unusedVariables false

theorem ww_add_l (x y : Int) : wrap64 (wrap64 x + y) = wrap64 (x + y) := by unfold wrap64; omega
theorem ww_add_r (x y : Int) : wrap64 (x + wrap64 y) = wrap64 (x + y) := by unfold wrap64; omega
theorem ww_sub_l (x y : Int) : wrap64 (wrap64 x - y) = wrap64 (x - y) := by unfold wrap64; omega
theorem ww_sub_r (x y : Int) : wrap64 (x - wrap64 y) = wrap64 (x - y) := by unfold wrap64; omega
theorem ww_neg (x : Int) : wrap64 (-wrap64 x) = wrap64 (-x) := by unfold wrap64; omega
theorem ww (x : Int) : wrap64 (wrap64 x) = wrap64 x := by unfold wrap64; omega
theorem wrap_is (x : Int) : ∃ q : Int, wrap64 x = x + q * 18446744073709551616 := ⟨-((x + 9223372036854775808) / 18446744073709551616), by unfold wrap64; omega⟩
theorem wrap_shift (x q : Int) : wrap64 (x + q * 18446744073709551616) = wrap64 x := by unfold wrap64; omega
theorem ww_mul_l (x y : Int) : wrap64 (wrap64 x * y) = wrap64 (x * y) := by
  obtain ⟨q, h⟩ := wrap_is x
  rw [h, Int.add_mul, Int.mul_assoc q, Int.mul_comm 18446744073709551616 y, ← Int.mul_assoc q, wrap_shift]
theorem ww_mul_r (x y : Int) : wrap64 (x * wrap64 y) = wrap64 (x * y) := by rw [Int.mul_comm, ww_mul_l, Int.mul_comm]
theorem abs_mul_le {a b : Int} {A B : Nat} (ha : a.natAbs ≤ A) (hb : b.natAbs ≤ B) : (a * b).natAbs ≤ A * B := by
  rw [Int.natAbs_mul]; exact Nat.mul_le_mul ha hb
theorem wrap_abs (x : Int) (h : x.natAbs ≤ 4611686018427387904) : wrap64 x = x := by unfold wrap64; omega
end Go.Proofs.Ytldcckcljjlglaa.Pure

namespace Go.Proofs.Ytldcckcljjlglaa.Pure
open Go.RowKit Go.Proofs.Ytldcckcljjlglaa.P Go.Proofs.YtldcckcljjlglaaW.PrintWords Go.Proofs.YtldcckcljjlglaaW.PrintLast Go.Proofs.Ytldcckcljjlglaa.Com
set_option linter.unusedSimpArgs false
set_option linter.unusedVariables false

abbrev Pt := S80
abbrev Tr := S72
def samePt (l : List Pt) (i j : Int) : Bool := (rd_T80 l i).f0 == (rd_T80 l j).f0 && (rd_T80 l i).f1 == (rd_T80 l j).f1
theorem samePt_symm (l : List Pt) (i j : Int) : samePt l i j = samePt l j i := by unfold samePt; rw [BEq.comm (a := (rd_T80 l i).f0), BEq.comm (a := (rd_T80 l i).f1)]
def fits20 (p : Pt) : Bool := inB p.f0 20 && inB p.f1 20
def toT (p : Pt) : Tr := ⟨p.f0, p.f1, 1⟩
/-- No two of the first n points are the same. -/
def apart (l : List Pt) (n : Int) : Prop := ∀ i j : Int, 0 ≤ i → i < j → j < n → samePt l i j = false
def sixP (l : List Pt) : Prop := l.length = 6 ∧ (∀ i : Int, 0 ≤ i → i < l.length → fits20 (rd_T80 l i) = true) ∧ apart l l.length

theorem six_l1_no (l : List Pt) (out : List Tr) (hl : l.length ≤ 1099511627776) (i : Int) (hi0 : 0 ≤ i) (hin : i < l.length) (ho : out.length = i.toNat) (r : List Tr × Bool)
    (h : Ev (fun k => spec_l26Six.l0 k l (out ++ [toT (rd_T80 l i)]) (i + 1)) r) : ∀ (d : Nat) (j : Int), 0 ≤ j → j + d = i → (∀ m, j ≤ m → m < i → samePt l m i = false) → Ev (fun k => spec_l26Six.l1 k l out i j) r := by
  intro d
  induction d with
  | zero =>
    intro j h0 hd _
    refine Ev.step (fun k => ?_) h
    simp only [spec_l26Six.l1, spec_TripleOf.f, Option.bind_some]
    rw [if_neg (by omega), if_pos hi0, if_pos hin, if_pos (by omega), w64 (by omega) (by omega)]
    rfl
  | succ d ih =>
    intro j h0 hd hn
    refine Ev.step (fun k => ?_) (ih (j + 1) (by omega) (by omega) (fun m h1 h2 => hn m (by omega) h2))
    have e : ((rd_T80 l j).f0 == (rd_T80 l i).f0 && (rd_T80 l j).f1 == (rd_T80 l i).f1) = false := hn j (by omega) (by omega)
    simp only [spec_l26Six.l1]
    rw [if_pos (by omega), if_pos h0, if_pos (by omega), if_pos hi0, if_pos hin, if_neg (Bool.eq_false_iff.1 e), w64 (by omega) (by omega)]
theorem six_l1_yes (l : List Pt) (out : List Tr) (hl : l.length ≤ 1099511627776) (i : Int) (hi0 : 0 ≤ i) (hin : i < l.length) (m : Int) (hm : m < i) (hs : samePt l m i = true) : ∀ (d : Nat) (j : Int), 0 ≤ j → j + d = m →
    Ev (fun k => spec_l26Six.l1 k l out i j) ([], false) := by
  intro d
  induction d with
  | zero =>
    intro j h0 hd
    obtain rfl : j = m := by omega
    refine Ev.step (f := fun _ => some ([], false)) (fun k => ?_) (Ev.now _)
    have e : ((rd_T80 l j).f0 == (rd_T80 l i).f0 && (rd_T80 l j).f1 == (rd_T80 l i).f1) = true := hs
    simp only [spec_l26Six.l1]
    rw [if_pos (by omega), if_pos h0, if_pos (by omega), if_pos hi0, if_pos hin, if_pos e]
  | succ d ih =>
    intro j h0 hd
    by_cases e : samePt l j i = true
    · refine Ev.step (f := fun _ => some ([], false)) (fun k => ?_) (Ev.now _)
      have e : ((rd_T80 l j).f0 == (rd_T80 l i).f0 && (rd_T80 l j).f1 == (rd_T80 l i).f1) = true := e
      simp only [spec_l26Six.l1]
      rw [if_pos (by omega), if_pos h0, if_pos (by omega), if_pos hi0, if_pos hin, if_pos e]
    · refine Ev.step (fun k => ?_) (ih (j + 1) (by omega) (by omega))
      have e : ((rd_T80 l j).f0 == (rd_T80 l i).f0 && (rd_T80 l j).f1 == (rd_T80 l i).f1) = false := by simpa [samePt] using e
      simp only [spec_l26Six.l1]
      rw [if_pos (by omega), if_pos h0, if_pos (by omega), if_pos hi0, if_pos hin, if_neg (Bool.eq_false_iff.1 e), w64 (by omega) (by omega)]
theorem take_map_succ (l : List Pt) (i : Int) (h0 : 0 ≤ i) (h1 : i < l.length) : (l.take i.toNat).map toT ++ [toT (rd_T80 l i)] = (l.take (i + 1).toNat).map toT := by
  rw [show (i + 1).toNat = i.toNat + 1 by omega, List.take_succ_eq_append_getElem (by omega), List.map_append]
  simp [rd_T80, List.getD, List.getElem?_eq_getElem (show i.toNat < l.length by omega)]
theorem six_l0 (l : List Pt) (hl : l.length ≤ 1099511627776) : ∀ (d : Nat) (i : Int), 0 ≤ i → i + d = l.length → (∀ m : Int, 0 ≤ m → m < i → fits20 (rd_T80 l m) = true) → apart l i →
    ∃ r, Ev (fun k => spec_l26Six.l0 k l ((l.take i.toNat).map toT) i) r ∧ (r.2 = true ↔ sixP l) ∧ (r.2 = true → r.1 = l.map toT) := by
  intro d
  induction d with
  | zero =>
    intro i h0 hd hf ha
    have hi : i = l.length := by omega
    refine ⟨(l.map toT, ((l.length : Int) == 6)), Ev.step (f := fun _ => _) (fun k => ?_) (Ev.now _), ?_, fun _ => rfl⟩
    · simp only [spec_l26Six.l0]
      rw [if_neg (by omega), List.take_of_length_le (by omega), List.length_map]
    · subst hi
      simp only [beq_iff_eq]
      exact ⟨fun h => ⟨by omega, hf, ha⟩, fun h => by have := h.1; omega⟩
  | succ d ih =>
    intro i h0 hd hf ha
    have hin : i < (l.length : Int) := by omega
    have st : ∀ (r : List Tr × Bool) (f : Nat → Option (List Tr × Bool)), Ev f r → (∀ k, spec_l26Six.l0 (k + 1) l ((l.take i.toNat).map toT) i = f k) → Ev (fun k => spec_l26Six.l0 k l ((l.take i.toNat).map toT) i) r := fun r f h e => Ev.step e h
    by_cases hfi : fits20 (rd_T80 l i) = true
    · have e1 : ∀ k, spec_l26Six.l0 (k + 1) l ((l.take i.toNat).map toT) i = spec_l26Six.l1 k l ((l.take i.toNat).map toT) i 0 := by
        intro k
        simp only [spec_l26Six.l0]
        rw [if_pos hin, if_pos h0, l2Fits_eq _ _ 20 (by omega) (by omega)]
        have hfi : (inB (rd_T80 l i).f0 20 && inB (rd_T80 l i).f1 20) = true := hfi
        simp only [Option.bind_some, hfi, if_true]
      by_cases hm : ∃ m, 0 ≤ m ∧ m < i ∧ samePt l m i = true
      · obtain ⟨m, hm0, hm1, hm2⟩ := hm
        refine ⟨([], false), st _ _ (six_l1_yes l _ hl i h0 hin m hm1 hm2 m.toNat 0 (by omega) (by omega)) e1, ?_, fun h => (by cases h)⟩
        refine ⟨fun h => (by cases h), fun h => ?_⟩
        rw [h.2.2 m i hm0 hm1 hin] at hm2; cases hm2
      · have hn : ∀ m, 0 ≤ m → m < i → samePt l m i = false := fun m h1 h2 => by
          cases e : samePt l m i with
          | false => rfl
          | true => exact absurd ⟨m, h1, h2, e⟩ hm
        obtain ⟨r, h1, h2, h3⟩ := ih (i + 1) (by omega) (by omega) (fun m hm0 hm1 => by
          by_cases e : m = i
          · rw [e]; exact hfi
          · exact hf m hm0 (by omega)) (fun a b ha0 hab hb => by
          by_cases e : b = i
          · rw [e] at hab ⊢; exact hn a ha0 hab
          · exact ha a b ha0 hab (by omega))
        rw [← take_map_succ l i h0 hin] at h1
        exact ⟨r, st _ _ (six_l1_no l _ hl i h0 hin (by simp; omega) r h1 i.toNat 0 (by omega) (by omega) hn) e1, h2, h3⟩
    · refine ⟨([], false), st _ (fun _ => some ([], false)) (Ev.now _) (fun k => ?_), ⟨fun h => (by cases h), fun h => absurd (h.2.1 i h0 hin) hfi⟩, fun h => (by cases h)⟩
      simp only [spec_l26Six.l0]
      rw [if_pos hin, if_pos h0, l2Fits_eq _ _ 20 (by omega) (by omega)]
      have hfi : (inB (rd_T80 l i).f0 20 && inB (rd_T80 l i).f1 20) = false := by simpa [fits20] using hfi
      simp only [Option.bind_some, hfi, Bool.false_eq_true, if_false]
theorem l26Six_ev (l : List Pt) (hl : l.length ≤ 1099511627776) : ∃ r, Ev (fun k => spec_l26Six.f k l) r ∧ (r.2 = true ↔ sixP l) ∧ (r.2 = true → r.1 = l.map toT) :=
  six_l0 l hl l.length 0 (by omega) (by omega) (fun m h0 h1 => by omega) (fun a b h0 h1 h2 => by omega)

theorem index_ev (l : List Pt) (x y : Int) (hl : l.length ≤ 1099511627776) : ∀ (d : Nat) (i : Int), 0 ≤ i → i + d = l.length →
    ∃ t : Int, Ev (fun k => impl_Point_168.l0 k l l.length i x y) t ∧ (t ≥ 0 ↔ ∃ m : Int, i ≤ m ∧ m < l.length ∧ (x == (rd_T80 l m).f0 && y == (rd_T80 l m).f1) = true) := by
  intro d
  induction d with
  | zero =>
    intro i h0 hd
    refine ⟨-1, Ev.step (f := fun _ => some (-1)) (fun k => ?_) (Ev.now _), ⟨fun h => by omega, fun ⟨m, h1, h2, _⟩ => by omega⟩⟩
    simp only [impl_Point_168.l0]
    rw [if_neg (by omega)]
  | succ d ih =>
    intro i h0 hd
    by_cases e : (x == (rd_T80 l i).f0 && y == (rd_T80 l i).f1) = true
    · refine ⟨i, Ev.step (f := fun _ => some i) (fun k => ?_) (Ev.now _), ⟨fun h => ⟨i, by omega, by omega, e⟩, fun _ => by omega⟩⟩
      simp only [impl_Point_168.l0]
      rw [if_pos (by omega), if_pos h0, if_pos (by omega), if_pos e]
    · obtain ⟨t, h1, h2⟩ := ih (i + 1) (by omega) (by omega)
      refine ⟨t, Ev.step (fun k => ?_) h1, h2.trans ⟨fun ⟨m, a, b, c⟩ => ⟨m, by omega, b, c⟩, fun ⟨m, a, b, c⟩ => ⟨m, ?_, b, c⟩⟩⟩
      · simp only [impl_Point_168.l0]
        rw [if_pos (by omega), if_pos h0, if_pos (by omega), if_neg e, w64 (by omega) (by omega)]
      · by_cases q : m = i
        · subst q; exact absurd c e
        · omega
theorem rdP_take (l : List Pt) (n : Nat) (m : Int) (h0 : 0 ≤ m) (h1 : m < n) : rd_T80 (l.take n) m = rd_T80 l m := by
  unfold rd_T80
  simp only [List.getD, List.getElem?_take, if_pos (show m.toNat < n by omega)]
theorem areSix_l0 (l : List Pt) (hl : l.length ≤ 1099511627776) : ∀ (d : Nat) (i : Int), 0 ≤ i → i + d = l.length → apart l i →
    ∃ b, Ev (fun k => impl_areSix.l0 k l l l.length i) b ∧ (b = true ↔ sixP l) := by
  intro d
  induction d with
  | zero =>
    intro i h0 hd ha
    have hi : i = l.length := by omega
    subst hi
    by_cases h6 : (l.length : Int) = 6
    · refine ⟨l.all fun p => inB p.f0 20 && inB p.f1 20, Ev.step (f := fun _ => _) (fun k => ?_) (Ev.now _), ?_⟩
      · simp only [impl_areSix.l0]
        rw [if_neg (by omega), if_pos h6, areNear_eq 20 l (by omega) (by omega)]; rfl
      · rw [List.all_eq_true]
        constructor
        · intro h
          refine ⟨by omega, fun i h0 h1 => h _ ?_, ha⟩
          exact getD_mem l _ _ (by omega)
        · intro h p hp
          obtain ⟨n, hn, rfl⟩ := List.mem_iff_getElem.1 hp
          have := h.2.1 n (by omega) (by omega)
          simpa [fits20, rd_T80, List.getD, List.getElem?_eq_getElem hn] using this
    · refine ⟨false, Ev.step (f := fun _ => some false) (fun k => ?_) (Ev.now _), ⟨fun h => (by cases h), fun h => by have := h.1; omega⟩⟩
      simp only [impl_areSix.l0]
      rw [if_neg (by omega), if_neg h6]
  | succ d ih =>
    intro i h0 hd ha
    have hin : i < (l.length : Int) := by omega
    have hlt : ((l.take i.toNat).length : Int) = i := by rw [List.length_take]; omega
    obtain ⟨t, ht, hti⟩ := index_ev (l.take i.toNat) (rd_T80 l i).f0 (rd_T80 l i).f1 (by omega) i.toNat 0 (by omega) (by omega)
    have hc : Ev (fun k => impl_Point_149.f k (l.take i.toNat) (rd_T80 l i).f0 (rd_T80 l i).f1) (decide (t ≥ 0)) := by
      simp only [impl_Point_149.f, impl_Point_168.f]
      exact Ev.bind ht (Ev.now _)
    have st : ∀ (f : Nat → Option Bool) (b : Bool), Ev f b → (∀ k, ((impl_Point_149.f k (l.take i.toNat) (rd_T80 l i).f0 (rd_T80 l i).f1).bind fun t => if t = true then some false else impl_areSix.l0 k l l l.length (i + 1)) = f k) → Ev (fun k => impl_areSix.l0 k l l l.length i) b := by
      intro f b hf e
      refine Ev.step (fun k => ?_) hf
      rw [← e k]
      simp only [impl_areSix.l0]
      rw [if_pos hin, if_pos h0, if_pos hin, if_pos (by omega), w64 (by omega) (by omega)]
    by_cases hp : t ≥ 0
    · obtain ⟨m, hm0, hm1, hm2⟩ := hti.1 hp
      rw [hlt] at hm1
      rw [rdP_take l _ m hm0 (by omega)] at hm2
      refine ⟨false, ?_, ⟨fun h => (by cases h), fun h => ?_⟩⟩
      · refine st _ _ (Ev.bind hc ?_) (fun k => rfl)
        exact Ev.iteT (by simpa using hp) (Ev.now _)
      · have := h.2.2 m i hm0 hm1 hin
        rw [samePt_symm] at this
        have e2 : samePt l i m = true := hm2
        rw [e2] at this; cases this
    · obtain ⟨b, h1, h2⟩ := ih (i + 1) (by omega) (by omega) (fun a c ha0 hac hc => by
        by_cases e : c = i
        · subst e
          cases q : samePt l a c with
          | false => rfl
          | true =>
            rw [samePt_symm] at q
            exact absurd (hti.2 ⟨a, ha0, by omega, by rw [rdP_take l _ a ha0 (by omega)]; exact q⟩) hp
        · exact ha a c ha0 hac (by omega))
      refine ⟨b, ?_, h2⟩
      refine st _ _ (Ev.bind hc ?_) (fun k => rfl)
      exact Ev.iteF (by simpa using hp) h1
theorem areSix_ev (l : List Pt) (hl : l.length ≤ 1099511627776) : ∃ b, Ev (fun k => impl_areSix.f k l) b ∧ (b = true ↔ sixP l) :=
  areSix_l0 l hl l.length 0 (by omega) (by omega) (fun a b h0 h1 h2 => by omega)
end Go.Proofs.Ytldcckcljjlglaa.Pure

namespace Go.Proofs.Ytldcckcljjlglaa.Pure
open Go.RowKit Go.Proofs.Ytldcckcljjlglaa.P Go.Proofs.YtldcckcljjlglaaW.PrintWords Go.Proofs.YtldcckcljjlglaaW.PrintLast Go.Proofs.Ytldcckcljjlglaa.Com
set_option linter.unusedSimpArgs false
set_option linter.unusedVariables false

theorem farB_eq' (n m : Int) (h0 : 0 ≤ m) (h1 : m ≤ 4611686018427387904) : farB n m = !inB n m := by
  unfold farB impl_isFar.f inB
  rw [w64 (by omega) (by omega)]
  by_cases h : n < -m
  · rw [if_pos h, Option.getD_some, Bool.eq_iff_iff]; simp; omega
  · rw [if_neg h, Option.getD_some, Bool.eq_iff_iff]; simp; omega
theorem l26Fits_eq (x y z m : Int) (h0 : 0 ≤ m) (h1 : m ≤ 4611686018427387904) : spec_l26Fits.f x y z m = some (inB x m && (inB y m && inB z m)) := by
  unfold spec_l26Fits.f
  rw [l1In_inB x m h0 h1, l1In_inB y m h0 h1, l1In_inB z m h0 h1]
  simp only [Option.bind_some]
  cases inB x m <;> cases inB y m <;> simp
theorem isLimited_eq (m : Int) (l : List S72) (h0 : 0 ≤ m) (h1 : m ≤ 4611686018427387904) : impl_isLimited.f m l = some (l.all fun p => inB p.f0 m && (inB p.f1 m && inB p.f2 m)) := by
  unfold impl_isLimited.f outTriple
  congr 1
  rw [List.not_any_eq_all_not]
  congr 1
  funext p
  rw [farB_eq' _ _ h0 h1, farB_eq' _ _ h0 h1, farB_eq' _ _ h0 h1]
  cases inB p.f0 m <;> cases inB p.f1 m <;> simp
end Go.Proofs.Ytldcckcljjlglaa.Pure

namespace Go.Proofs.Ytldcckcljjlglaa.Pure
open Go.RowKit Go.Proofs.Ytldcckcljjlglaa.P Go.Proofs.YtldcckcljjlglaaW.PrintWords Go.Proofs.YtldcckcljjlglaaW.PrintLast Go.Proofs.Ytldcckcljjlglaa.Com
set_option linter.unusedSimpArgs false
set_option linter.unusedVariables false

theorem tmod_bd (a b : Int) (hb : b ≠ 0) : (Int.tmod a b).natAbs < b.natAbs := by
  rw [Int.natAbs_tmod]; exact Nat.mod_lt _ (by omega)
theorem gcd_step (a b : Int) : Int.gcd b (Int.tmod a b) = Int.gcd a b := by
  unfold Int.gcd
  rw [Int.natAbs_tmod, Nat.gcd_comm b.natAbs, ← Nat.gcd_rec, Nat.gcd_comm]
theorem mx_abs (r : Int) (h : r.natAbs ≤ 4611686018427387904) : mx r (wrap64 (-r)) = (r.natAbs : Int) := by
  rw [w64 (by omega) (by omega)]; unfold mx; omega
theorem gcdLoop (n : Nat) : ∀ (a b : Int), b.natAbs ≤ n → a.natAbs ≤ 4611686018427387904 → b.natAbs ≤ 4611686018427387904 →
    Ev (fun k => spec_l24Gcd.l0 k a b) (Int.gcd a b : Int) := by
  induction n with
  | zero =>
    intro a b hb ha _
    obtain rfl : b = 0 := by omega
    refine Ev.step (f := fun _ => some (Int.gcd a 0 : Int)) (fun k => ?_) (Ev.now _)
    simp only [spec_l24Gcd.l0, if_true, spec_l1Max.f]
    rw [w64 (by omega) (by omega)]
    have hg : Int.gcd a 0 = a.natAbs := by simp
    rw [hg]
    by_cases h : a > -a
    · rw [if_pos h]; simp only [Option.bind_some]; congr 1; omega
    · rw [if_neg h]; simp only [Option.bind_some]; congr 1; omega
  | succ n ih =>
    intro a b hb ha hb2
    by_cases h0 : b = 0
    · subst h0; exact ih a 0 (by omega) ha (by omega)
    have hlt := tmod_bd a b h0
    have := ih b (Int.tmod a b) (by omega) hb2 (by omega)
    rw [gcd_step] at this
    refine Ev.step (f := fun k => spec_l24Gcd.l0 k b (Int.tmod a b)) (fun k => ?_) this
    simp only [spec_l24Gcd.l0]
    rw [if_neg h0]
theorem l24Gcd_ev (a b : Int) (ha : a.natAbs ≤ 4611686018427387904) (hb : b.natAbs ≤ 4611686018427387904) : Ev (fun k => spec_l24Gcd.f k a b) (Int.gcd a b : Int) := gcdLoop _ a b (Nat.le_refl _) ha hb
end Go.Proofs.Ytldcckcljjlglaa.Pure

namespace Go.Proofs.Ytldcckcljjlglaa.Pure
open Go.RowKit Go.Proofs.Ytldcckcljjlglaa.P Go.Proofs.YtldcckcljjlglaaW.PrintWords Go.Proofs.YtldcckcljjlglaaW.PrintLast Go.Proofs.Ytldcckcljjlglaa.Com
set_option linter.unusedSimpArgs false
set_option linter.unusedVariables false

/-- The divisor of a list's rest, from what is divided out so far. -/
def gcdL : Nat → List Int → Nat
  | g, [] => g
  | g, x :: l => gcdL (Nat.gcd g x.natAbs) l
theorem div_inner (n : Nat) : ∀ (o x : Int) (l : List Int) (m i : Int), x.natAbs ≤ n → o.natAbs ≤ 4611686018427387904 → x.natAbs ≤ 4611686018427387904 → ∀ r : Int,
    (∀ o' : Int, o'.natAbs = Int.gcd o x → o'.natAbs ≤ 4611686018427387904 → Ev (fun k => impl_divisor.l0 k o' l m (wrap64 (i + 1))) r) → Ev (fun k => impl_divisor.l1 k o x l m i) r := by
  induction n with
  | zero =>
    intro o x l m i hx ho _ r h
    obtain rfl : x = 0 := by omega
    refine Ev.step (f := fun k => impl_divisor.l0 k o l m (wrap64 (i + 1))) (fun k => by simp only [impl_divisor.l1, if_true]) (h o (by simp) ho)
  | succ n ih =>
    intro o x l m i hx ho hx2 r h
    by_cases h0 : x = 0
    · subst h0; exact ih o 0 l m i (by omega) ho (by omega) r h
    have hlt := tmod_bd o x h0
    refine Ev.step (f := fun k => impl_divisor.l1 k x (Int.tmod o x) l m i) (fun k => by simp only [impl_divisor.l1]; rw [if_neg h0]) ?_
    exact ih x (Int.tmod o x) l m i (by omega) hx2 (by omega) r (fun o' e b => h o' (by rw [e, gcd_step]) b)
theorem gcd_le_max (o x : Int) (ho : o.natAbs ≤ 4611686018427387904) (hx : x.natAbs ≤ 4611686018427387904) : Int.gcd o x ≤ 4611686018427387904 := by
  unfold Int.gcd
  by_cases h : x.natAbs = 0
  · rw [h, Nat.gcd_zero_right]; exact ho
  · exact Nat.le_trans (Nat.le_of_dvd (by omega) (Nat.gcd_dvd_right _ _)) hx
theorem div_outer (l : List Int) (hl : l.length ≤ 1099511627776) (hb : ∀ x ∈ l, x.natAbs ≤ 4611686018427387904) (d : Nat) : ∀ (o i : Int), 0 ≤ i → i + d = l.length → o.natAbs ≤ 4611686018427387904 →
    Ev (fun k => impl_divisor.l0 k o l (l.length : Int) i) (gcdL o.natAbs (l.drop i.toNat) : Int) := by
  induction d with
  | zero =>
    intro o i h0 hi ho
    refine Ev.step (f := fun _ => some (gcdL o.natAbs (l.drop i.toNat) : Int)) (fun k => ?_) (Ev.now _)
    simp only [impl_divisor.l0]
    rw [if_neg (by omega), List.drop_of_length_le (by omega), mx_abs o ho]; rfl
  | succ d ih =>
    intro o i h0 hi ho
    have hlt : i.toNat < l.length := by omega
    have hm : rd l i ∈ l := getD_mem l i.toNat 0 hlt
    refine Ev.step (f := fun k => impl_divisor.l1 k o (rd l i) l (l.length : Int) i) (fun k => by simp only [impl_divisor.l0]; rw [if_pos (by omega), if_pos h0, if_pos (by omega)]) ?_
    refine div_inner _ o (rd l i) l _ i (Nat.le_refl _) ho (hb _ hm) _ (fun o' e b => ?_)
    have := ih o' (i + 1) (by omega) (by omega) b
    rw [w64 (by omega) (by omega), drop_cons l i.toNat 0 hlt]
    rw [show (i + 1).toNat = i.toNat + 1 from by omega] at this
    have e2 : gcdL o.natAbs (l.getD i.toNat 0 :: l.drop (i.toNat + 1)) = gcdL o'.natAbs (l.drop (i.toNat + 1)) := by
      simp only [gcdL]; rw [e]; rfl
    rw [e2]; exact this
theorem divisor_ev (l : List Int) (hl : l.length ≤ 1099511627776) (hb : ∀ x ∈ l, x.natAbs ≤ 4611686018427387904) : Ev (fun k => impl_divisor.f k l) (gcdL 0 l : Int) := by
  have := div_outer l hl hb l.length 0 0 (by omega) (by omega) (by simp)
  simpa [impl_divisor.f] using this
theorem divisor2 (x y : Int) (hx : x.natAbs ≤ 4611686018427387904) (hy : y.natAbs ≤ 4611686018427387904) : Ev (fun k => impl_divisor.f k [x, y]) (Int.gcd x y : Int) := by
  have := divisor_ev [x, y] (by simp) (by simp [hx, hy])
  simpa [gcdL, Int.gcd] using this
theorem divisor3 (x y z : Int) (hx : x.natAbs ≤ 4611686018427387904) (hy : y.natAbs ≤ 4611686018427387904) (hz : z.natAbs ≤ 4611686018427387904) : Ev (fun k => impl_divisor.f k [x, y, z]) (Int.gcd (Int.gcd x y) z : Int) := by
  have := divisor_ev [x, y, z] (by simp) (by simp [hx, hy, hz])
  simpa [gcdL, Int.gcd] using this
end Go.Proofs.Ytldcckcljjlglaa.Pure

namespace Go.Proofs.Ytldcckcljjlglaa.Pure
open Go.RowKit Go.Proofs.Ytldcckcljjlglaa.P Go.Proofs.YtldcckcljjlglaaW.PrintWords Go.Proofs.YtldcckcljjlglaaW.PrintLast Go.Proofs.Ytldcckcljjlglaa.Com
set_option linter.unusedSimpArgs false
set_option linter.unusedVariables false

def fits3 (a b c : Int) (m : Int) : Bool := inB a m && (inB b m && inB c m)
theorem fits3_def (a b c m : Int) : (inB a m && (inB b m && inB c m)) = fits3 a b c m := rfl
theorem fits3_iff {a b c m : Int} : fits3 a b c m = true ↔ (-m ≤ a ∧ a ≤ m) ∧ (-m ≤ b ∧ b ≤ m) ∧ (-m ≤ c ∧ c ≤ m) := by simp [fits3, inB_iff]
/-- The cross product, divided by its divisor. -/
def crossD (x y z : Int) : Int × Int × Int :=
  if (Int.gcd (Int.gcd x y) z : Int) = 0 then (0, 0, 0) else (wrap64 (Int.tdiv x (Int.gcd (Int.gcd x y) z)), wrap64 (Int.tdiv y (Int.gcd (Int.gcd x y) z)), wrap64 (Int.tdiv z (Int.gcd (Int.gcd x y) z)))
def crossT (a b c d e f : Int) : Int × Int × Int :=
  if fits3 a b c 1000000 = true then if fits3 d e f 1000000 = true then crossD (b * f - c * e) (c * d - a * f) (a * e - b * d) else (0, 0, 0) else (0, 0, 0)
theorem det2 {a b c d : Int} (ha : -1000000 ≤ a ∧ a ≤ 1000000) (hb : -1000000 ≤ b ∧ b ≤ 1000000) (hc : -1000000 ≤ c ∧ c ≤ 1000000) (hd : -1000000 ≤ d ∧ d ≤ 1000000) :
    (a * b - c * d).natAbs ≤ 2000000000000 := by
  have h1 : (a * b).natAbs ≤ 1000000 * 1000000 := abs_mul_le (by omega) (by omega)
  have h2 : (c * d).natAbs ≤ 1000000 * 1000000 := abs_mul_le (by omega) (by omega)
  omega
theorem crossT_spec (a b c d e f : Int) : Ev (fun k => spec_CrossOf.f k a b c d e f) (crossT a b c d e f) := by
  simp only [spec_CrossOf.f, l26Fits_eq _ _ _ 1000000 (show (0 : Int) ≤ 1000000 by omega) (by omega), Option.bind_some, crossT, fits3_def]
  have stop : Ev (fun k => spec_CrossOf.j0 k true a b c d e f) (0, 0, 0) := Ev.step (f := fun _ => some (0, 0, 0)) (fun k => by simp only [spec_CrossOf.j0, if_true]) (Ev.now _)
  by_cases h1 : fits3 a b c 1000000 = true
  · simp only [if_pos h1]
    by_cases h2 : fits3 d e f 1000000 = true
    · simp only [if_pos h2, h2, Bool.not_true]
      rw [fits3_iff] at h1 h2
      obtain ⟨ha, hb, hc⟩ := h1
      obtain ⟨hd, he, hf⟩ := h2
      have b1 := det2 hb hf hc he
      have b2 := det2 hc hd ha hf
      have b3 := det2 ha he hb hd
      refine Ev.step (f := fun k => _) (fun k => by simp only [spec_CrossOf.j0, Bool.false_eq_true, if_false, ww_sub_l, ww_sub_r]; rfl) ?_
      simp only [wrap_abs _ (Nat.le_trans b1 (by omega)), wrap_abs _ (Nat.le_trans b2 (by omega)), wrap_abs _ (Nat.le_trans b3 (by omega))]
      refine Ev.bind (l24Gcd_ev _ _ (by omega) (by omega)) (Ev.bind (l24Gcd_ev _ _ (gcd_le_max _ _ (by omega) (by omega)) (by omega)) ?_)
      unfold crossD
      split <;> exact Ev.now _
    · simp only [if_neg h2, Bool.not_eq_true _ ▸ h2, Bool.not_false]
      exact stop
  · simp only [if_neg h1]; exact stop
theorem crossT_impl (a b c d e f : Int) : Ev (fun k => impl_CrossOf.f k a b c d e f) (crossT a b c d e f) := by
  simp only [impl_CrossOf.f, isLimited_eq 1000000 _ (show (0 : Int) ≤ 1000000 by omega) (by omega), Option.bind_some, crossT, List.all_cons, List.all_nil, Bool.and_true, fits3_def]
  by_cases h1 : fits3 a b c 1000000 = true
  · by_cases h2 : fits3 d e f 1000000 = true
    · simp only [h1, h2, Bool.and_self, if_true, ww_sub_l, ww_sub_r]
      rw [fits3_iff] at h1 h2
      obtain ⟨ha, hb, hc⟩ := h1
      obtain ⟨hd, he, hf⟩ := h2
      have b1 := det2 hb hf hc he
      have b2 := det2 hc hd ha hf
      have b3 := det2 ha he hb hd
      simp only [wrap_abs _ (Nat.le_trans b1 (by omega)), wrap_abs _ (Nat.le_trans b2 (by omega)), wrap_abs _ (Nat.le_trans b3 (by omega))]
      refine Ev.bind (divisor3 _ _ _ (by omega) (by omega) (by omega)) ?_
      unfold crossD
      split <;> exact Ev.now _
    · simp only [if_neg h2, Bool.not_eq_true _ ▸ h2, Bool.and_false, Bool.false_eq_true, if_false, ite_self]
      exact Ev.now _
  · simp only [if_neg h1, Bool.not_eq_true _ ▸ h1, Bool.false_and, Bool.false_eq_true, if_false]
    exact Ev.now _
end Go.Proofs.Ytldcckcljjlglaa.Pure

namespace Go.Proofs.Ytldcckcljjlglaa.Pure
open Go.RowKit Go.Proofs.Ytldcckcljjlglaa.P Go.Proofs.YtldcckcljjlglaaW.PrintWords Go.Proofs.YtldcckcljjlglaaW.PrintLast Go.Proofs.Ytldcckcljjlglaa.Com
set_option linter.unusedSimpArgs false
set_option linter.unusedVariables false

def zeroT (c : Int × Int × Int) : Bool := c.1 == 0 && (c.2.1 == 0 && c.2.2 == 0)
def crossTT (a b : Int × Int × Int) : Int × Int × Int := crossT a.1 a.2.1 a.2.2 b.1 b.2.1 b.2.2
/-- The line through two of a list's points. -/
def thrT (l : List Pt) (a b : Int) : Int × Int × Int := crossT (rd_T80 l a).f0 (rd_T80 l a).f1 1 (rd_T80 l b).f0 (rd_T80 l b).f1 1
theorem l26Equal_ev (a b c d e f : Int) : Ev (fun k => spec_l26Equal.f k a b c d e f) (zeroT (crossT a b c d e f)) := by
  simp only [spec_l26Equal.f]
  exact Ev.bind (crossT_spec _ _ _ _ _ _) (Ev.now _)
theorem areOneLine_ev (a b c d e f : Int) : Ev (fun k => impl_areOneLine.f k a b c d e f) (zeroT (crossT a b c d e f)) := by
  simp only [impl_areOneLine.f]
  exact Ev.bind (crossT_impl _ _ _ _ _ _) (Ev.now _)
theorem through_ev (a b c d : Int) : Ev (fun k => impl_through.f k a b c d) (crossT a b 1 c d 1) := by
  simp only [impl_through.f, impl_TripleOf.f, Option.bind_some]
  exact Ev.bind (crossT_impl _ _ _ _ _ _) (Ev.now _)
theorem tr_map (l : List Pt) (i : Int) (h0 : 0 ≤ i) (h1 : i < l.length) : rd_T72 (l.map toT) i = toT (rd_T80 l i) := by
  unfold rd_T72 rd_T80
  exact getD_map toT l i.toNat _ _ (by omega)
theorem crossS_ev (l : List Pt) (a b : Int) (ha : 0 ≤ a) (ha' : a < l.length) (hb : 0 ≤ b) (hb' : b < l.length) : Ev (fun k => crossS k (tr (l.map toT) a) (tr (l.map toT) b)) (thrT l a b) := by
  simp only [crossS, tr, tr_map l a ha ha', tr_map l b hb hb']
  exact crossT_spec _ _ _ _ _ _
theorem thr_ev (l : List Pt) (a b : Int) : Ev (fun k => thr k (pt l a) (pt l b)) (thrT l a b) := through_ev _ _ _ _
/-- The meeting points of lines of pairs, if no pair's lines are the same. -/
def desM (l : List Pt) : List (Int × Int) → List Tr → List Tr × Bool
  | [], out => (out, true)
  | (a, b) :: es, out => if zeroT (crossTT (thrT l a b) (thrT l (a + 3) (b + 3))) = true then ([], false) else desM l es (out ++ [⟨(crossTT (thrT l a b) (thrT l (a + 3) (b + 3))).1, (crossTT (thrT l a b) (thrT l (a + 3) (b + 3))).2.1, (crossTT (thrT l a b) (thrT l (a + 3) (b + 3))).2.2⟩])
theorem desM_length (l : List Pt) : ∀ es out, (desM l es out).1.length ≤ out.length + es.length
  | [], out => Nat.le_refl _
  | (a, b) :: es, out => by
    unfold desM
    split
    · exact Nat.zero_le _
    · have := desM_length l es (out ++ [⟨(crossTT (thrT l a b) (thrT l (a + 3) (b + 3))).1, (crossTT (thrT l a b) (thrT l (a + 3) (b + 3))).2.1, (crossTT (thrT l a b) (thrT l (a + 3) (b + 3))).2.2⟩])
      simp only [List.length_append, List.length_cons, List.length_nil] at this ⊢
      omega
theorem spec_round (l : List Pt) (h6 : l.length = 6) (i : Nat) (hi : i < 3) (es : List (Int × Int)) (out : List Tr) (ho : out.length < 1000000)
    (h : ∀ o : List Tr, o.length = out.length + 1 → Ev (fun k => spec_DesarguesOf.l0 k (l.map toT) o (i + 1)) (desM l es o)) :
    Ev (fun k => spec_DesarguesOf.l0 k (l.map toT) out i) (desM l (((pairA i : Nat), (pairB i : Nat)) :: es) out) := by
  have hp : pairA i < 3 ∧ pairB i < 3 := by unfold pairA pairB; constructor <;> split <;> decide
  have e1 := crossS_ev l (pairA i : Nat) (pairB i : Nat) (by omega) (by omega) (by omega) (by omega)
  have e2 := crossS_ev l (3 + (pairA i : Nat)) (3 + (pairB i : Nat)) (by omega) (by omega) (by omega) (by omega)
  rw [Int.add_comm 3, Int.add_comm 3] at e2
  refine Ev.step (fun k => by simp only [spec_DesarguesOf.l0]; rw [if_pos hi]) ?_
  rw [show ((3 : Int) + (pairA i : Nat)) = (pairA i : Nat) + 3 by omega, show ((3 : Int) + (pairB i : Nat)) = (pairB i : Nat) + 3 by omega]
  refine Ev.bind e1 (Ev.bind e2 (Ev.bind (l26Equal_ev _ _ _ _ _ _) ?_))
  unfold desM
  by_cases z : zeroT (crossTT (thrT l (pairA i : Nat) (pairB i : Nat)) (thrT l ((pairA i : Nat) + 3) ((pairB i : Nat) + 3))) = true
  · rw [if_pos z]; exact Ev.iteT z (Ev.now _)
  · rw [if_neg z]
    refine Ev.iteF z (Ev.bind (crossT_spec _ _ _ _ _ _) (Ev.iteT ho ?_))
    exact h _ (by simp)
def es3 : List S123 := [⟨0, 1⟩, ⟨0, 2⟩, ⟨1, 2⟩]
theorem edges3 : Ev (fun k => impl_edgesOf.f k 3) es3 := by
  refine ⟨20, fun k hk => ?_⟩
  obtain ⟨m, rfl⟩ : ∃ m, k = m + 20 := ⟨k - 20, by omega⟩
  simp only [impl_edgesOf.f]
  simp [impl_edgesOf.l0, impl_edgesOf.l1, wrap64, es3]
theorem impl_round (l : List Pt) (h6 : l.length = 6) (i : Nat) (hi : i < 3) (a b : Int) (hab : rd_T123 es3 (i : Int) = ⟨a, b⟩) (h0 : 0 ≤ a ∧ a < 3 ∧ 0 ≤ b ∧ b < 3) (es : List (Int × Int)) (out : List Tr) (ho : out.length < 1000000)
    (h : ∀ o : List Tr, o.length = out.length + 1 → Ev (fun k => impl_DesarguesOf.l0 k l es3 o ((i + 1 : Nat) : Int)) (desM l es o)) :
    Ev (fun k => impl_DesarguesOf.l0 k l es3 out (i : Int)) (desM l ((a, b) :: es) out) := by
  refine Ev.step (fun k => by simp only [impl_DesarguesOf.l0, hab]; rw [if_pos (show (i : Int) < ((es3.length : Nat) : Int) by show (i : Int) < 3; omega), if_pos (show 0 ≤ (i : Int) ∧ 0 ≤ a ∧ a < 3 ∧ 0 ≤ b ∧ b < 3 by omega)]) ?_
  refine Ev.bind (thr_ev l a b) (Ev.bind (thr_ev l (a + 3) (b + 3)) (Ev.bind (areOneLine_ev _ _ _ _ _ _) ?_))
  unfold desM
  by_cases z : zeroT (crossTT (thrT l a b) (thrT l (a + 3) (b + 3))) = true
  · rw [if_pos z]; exact Ev.iteT z (Ev.now _)
  · rw [if_neg z]
    refine Ev.iteF z (Ev.bind (crossT_impl _ _ _ _ _ _) (Ev.iteT ho ?_))
    exact h _ (by simp)
def areaP (a b c d e f : Int) : Int := wrap64 (a * d - a * f + c * f - c * b + e * b - e * d)
theorem area_is (a b c d e f : Int) : impl_area.f a b c d e f = some (areaP a b c d e f) := by
  simp only [impl_area.f, areaP, ww_sub_l, ww_sub_r, ww_mul_l, ww_mul_r]
  congr 2
  grind
theorem inB_more {n : Int} (h : inB n 20 = true) : inB n 100000 = true := by rw [inB_iff] at h ⊢; omega
theorem onOne_is (p q r : Pt) (hp : fits20 p = true) (hq : fits20 q = true) (hr : fits20 r = true) : spec_AreOnOne.f p.f0 p.f1 1 q.f0 q.f1 1 r.f0 r.f1 1 = some (areaP p.f0 p.f1 q.f0 q.f1 r.f0 r.f1 == 0) := by
  simp only [fits20, Bool.and_eq_true] at hp hq hr
  simp only [spec_AreOnOne.f, l26Fits_eq _ _ _ 100000 (show (0 : Int) ≤ 100000 by omega) (by omega), Option.bind_some, inB_more hp.1, inB_more hp.2, inB_more hq.1, inB_more hq.2, inB_more hr.1, inB_more hr.2, Bool.true_and, show inB 1 100000 = true from rfl, if_true]
  simp only [ww_sub_l, ww_sub_r, ww_mul_l, ww_mul_r, ww_add_l, ww_add_r, areaP]
  congr 3
  grind
theorem onS_is (l : List Pt) (hs : sixP l) (i : Int) (h0 : 0 ≤ i) (h1 : i ≤ 3) : onS (l.map toT) i = some (areaP (pt l i).f0 (pt l i).f1 (pt l (i + 1)).f0 (pt l (i + 1)).f1 (pt l (i + 2)).f0 (pt l (i + 2)).f1 == 0) := by
  have hl := hs.1
  unfold onS tr
  rw [tr_map l i h0 (by omega), tr_map l (i + 1) (by omega) (by omega), tr_map l (i + 2) (by omega) (by omega)]
  exact onOne_is _ _ _ (hs.2.1 i h0 (by omega)) (hs.2.1 (i + 1) (by omega) (by omega)) (hs.2.1 (i + 2) (by omega) (by omega))
/-- What DesarguesOf comes to. -/
def desA (l : List Pt) (i : Int) : Int := areaP (pt l i).f0 (pt l i).f1 (pt l (i + 1)).f0 (pt l (i + 1)).f1 (pt l (i + 2)).f0 (pt l (i + 2)).f1
open Classical in
noncomputable def desR (l : List Pt) : List Tr × Bool := if sixP l then if desA l 0 = 0 then ([], false) else if desA l 3 = 0 then ([], false) else desM l [(0, 1), (0, 2), (1, 2)] [] else ([], false)
theorem desR_length (l : List Pt) : (desR l).1.length ≤ 3 := by
  unfold desR
  split
  · split
    · exact Nat.zero_le _
    · split
      · exact Nat.zero_le _
      · exact desM_length l _ _
  · exact Nat.zero_le _
theorem spec_Desargues_ev (l : List Pt) (hl : l.length ≤ 1099511627776) : Ev (fun k => spec_DesarguesOf.f k l) (desR l) := by
  obtain ⟨s, h1, h2, h3⟩ := l26Six_ev l hl
  simp only [spec_DesarguesOf.f]
  refine Ev.bind h1 ?_
  unfold desR
  by_cases hs : sixP l
  · have e := h3 (h2.2 hs)
    rw [if_pos hs]
    refine Ev.iteT (h2.2 hs) (Ev.iteT (by rw [e, List.length_map]; exact hs.1) ?_)
    rw [e, onS_is l hs 0 (by omega) (by omega)]
    simp only [Option.bind_some]
    by_cases z : desA l 0 = 0
    · rw [if_pos z]; exact Ev.iteT (by simpa [desA] using z) (Ev.now _)
    · rw [if_neg z]
      refine Ev.iteF (by simpa [desA] using z) ?_
      rw [onS_is l hs 3 (by omega) (by omega)]
      simp only [Option.bind_some]
      by_cases z : desA l 3 = 0
      · rw [if_pos z]; exact Ev.iteT (by simpa [desA] using z) (Ev.now _)
      · rw [if_neg z]
        refine Ev.iteF (by simpa [desA] using z) ?_
        refine spec_round l hs.1 0 (by omega) _ [] (by simp) (fun o1 ho1 => spec_round l hs.1 1 (by omega) _ o1 (by rw [ho1]; simp) (fun o2 ho2 => spec_round l hs.1 2 (by omega) _ o2 (by rw [ho2, ho1]; simp) (fun o3 ho3 => ?_)))
        exact Ev.step (f := fun _ => some (o3, true)) (fun k => by simp only [spec_DesarguesOf.l0]; rw [if_neg (by omega)]) (Ev.now _)
  · rw [if_neg hs]
    exact Ev.iteF (fun h => hs (h2.1 h)) (Ev.now _)
theorem impl_Desargues_ev (l : List Pt) (hl : l.length ≤ 1099511627776) : Ev (fun k => impl_DesarguesOf.f k l) (desR l) := by
  obtain ⟨b, h1, h2⟩ := areSix_ev l hl
  simp only [impl_DesarguesOf.f]
  refine Ev.bind h1 ?_
  unfold desR
  by_cases hs : sixP l
  · rw [if_pos hs]
    refine Ev.iteT (h2.2 hs) (Ev.iteT hs.1 ?_)
    simp only [ar, area_is, Option.bind_some]
    by_cases z : desA l 0 = 0
    · rw [if_pos z]; exact Ev.iteT z (Ev.now _)
    · rw [if_neg z]
      refine Ev.iteF z ?_
      by_cases z : desA l 3 = 0
      · rw [if_pos z]; exact Ev.iteT z (Ev.now _)
      · rw [if_neg z]
        refine Ev.iteF z (Ev.bind edges3 ?_)
        refine impl_round l hs.1 0 (by omega) 0 1 rfl (by omega) _ [] (by simp) (fun o1 ho1 => impl_round l hs.1 1 (by omega) 0 2 rfl (by omega) _ o1 (by rw [ho1]; simp) (fun o2 ho2 => impl_round l hs.1 2 (by omega) 1 2 rfl (by omega) _ o2 (by rw [ho2, ho1]; simp) (fun o3 ho3 => ?_)))
        exact Ev.step (f := fun _ => some (o3, true)) (fun k => by simp only [impl_DesarguesOf.l0]; rw [if_neg (show ¬ (((2 + 1 : Nat) : Int) < ((es3.length : Nat) : Int)) by decide)]) (Ev.now _)
  · rw [if_neg hs]
    exact Ev.iteF (fun h => hs (h2.1 h)) (Ev.now _)
end Go.Proofs.Ytldcckcljjlglaa.Pure

namespace Go.Proofs.Ytldcckcljjlglaa.Pure
open Go.RowKit Go.Proofs.Ytldcckcljjlglaa.P Go.Proofs.YtldcckcljjlglaaW.PrintWords Go.Proofs.YtldcckcljjlglaaW.PrintLast Go.Proofs.Ytldcckcljjlglaa.Com
set_option linter.unusedSimpArgs false
set_option linter.unusedVariables false

theorem desR_six (l : List Pt) (h : (desR l).2 = true) : sixP l := by
  unfold desR at h
  by_cases hs : sixP l
  · exact hs
  · rw [if_neg hs] at h; cases h
/-- Three triples' numbers are in bounds and their determinant, wrapped, is zero. -/
def onOneB (a b c d e f g h i : Int) : Bool := (spec_AreOnOne.f a b c d e f g h i).getD false
theorem onOne_spec (a b c d e f g h i : Int) : spec_AreOnOne.f a b c d e f g h i = some (onOneB a b c d e f g h i) := by
  unfold onOneB
  simp only [spec_AreOnOne.f, l26Fits_eq _ _ _ 100000 (show (0 : Int) ≤ 100000 by omega) (by omega), Option.bind_some]
  split
  · split
    · split <;> rfl
    · rfl
  · rfl
theorem onOne_impl (a b c d e f g h i : Int) : impl_AreOnOne.f a b c d e f g h i = some (onOneB a b c d e f g h i) := by
  unfold onOneB
  simp only [spec_AreOnOne.f, l26Fits_eq _ _ _ 100000 (show (0 : Int) ≤ 100000 by omega) (by omega), Option.bind_some, impl_AreOnOne.f, isLimited_eq 100000 _ (show (0 : Int) ≤ 100000 by omega) (by omega), List.all_cons, List.all_nil, Bool.and_true, fits3_def]
  cases fits3 a b c 100000 <;> cases fits3 d e f 100000 <;> cases fits3 g h i 100000 <;> simp
def perspD (x y z : Int × Int × Int) : Bool := if zeroT (crossTT x y) = true then false else if zeroT (crossTT x z) = true then false else if zeroT (crossTT y z) = true then false else onOneB x.1 x.2.1 x.2.2 y.1 y.2.1 y.2.2 z.1 z.2.1 z.2.2
noncomputable def perspR (l : List Pt) : Bool := if (desR l).2 = true then perspD (thrT l 0 3) (thrT l 1 4) (thrT l 2 5) else false
theorem spec_Perspective_ev (l : List Pt) (hl : l.length ≤ 1099511627776) : Ev (fun k => spec_ArePerspective.f k l) (perspR l) := by
  simp only [spec_ArePerspective.f]
  refine Ev.bind (spec_Desargues_ev l hl) ?_
  unfold perspR
  by_cases hd : (desR l).2 = true
  · rw [if_pos hd]
    refine Ev.iteT hd ?_
    have hs := desR_six l hd
    have h6 := hs.1
    obtain ⟨s, h1, h2, h3⟩ := l26Six_ev l hl
    have e := h3 (h2.2 hs)
    refine Ev.bind h1 (Ev.iteT (by rw [e, List.length_map]; exact hs.1) ?_)
    rw [e]
    refine Ev.bind (crossS_ev l 0 3 (by omega) (by omega) (by omega) (by omega)) (Ev.bind (crossS_ev l 1 4 (by omega) (by omega) (by omega) (by omega)) (Ev.bind (crossS_ev l 2 5 (by omega) (by omega) (by omega) (by omega)) (Ev.bind (l26Equal_ev _ _ _ _ _ _) ?_)))
    unfold perspD
    by_cases z : zeroT (crossTT (thrT l 0 3) (thrT l 1 4)) = true
    · rw [if_pos z]; exact Ev.iteT z (Ev.now _)
    · rw [if_neg z]
      refine Ev.iteF z (Ev.bind (l26Equal_ev _ _ _ _ _ _) ?_)
      by_cases z : zeroT (crossTT (thrT l 0 3) (thrT l 2 5)) = true
      · rw [if_pos z]; exact Ev.iteT z (Ev.now _)
      · rw [if_neg z]
        refine Ev.iteF z (Ev.bind (l26Equal_ev _ _ _ _ _ _) ?_)
        by_cases z : zeroT (crossTT (thrT l 1 4) (thrT l 2 5)) = true
        · rw [if_pos z]; exact Ev.iteT z (Ev.now _)
        · rw [if_neg z]
          exact Ev.iteF z (Ev.const (onOne_spec _ _ _ _ _ _ _ _ _))
  · rw [if_neg hd]
    exact Ev.iteF hd (Ev.now _)
theorem impl_Perspective_ev (l : List Pt) (hl : l.length ≤ 1099511627776) : Ev (fun k => impl_ArePerspective.f k l) (perspR l) := by
  simp only [impl_ArePerspective.f]
  refine Ev.bind (impl_Desargues_ev l hl) ?_
  unfold perspR
  by_cases hd : (desR l).2 = true
  · rw [if_pos hd]
    have hs := desR_six l hd
    refine Ev.iteT hd (Ev.iteT hs.1 ?_)
    refine Ev.bind (thr_ev l 0 3) (Ev.bind (thr_ev l 1 4) (Ev.bind (thr_ev l 2 5) (Ev.bind (areOneLine_ev _ _ _ _ _ _) ?_)))
    unfold perspD
    by_cases z : zeroT (crossTT (thrT l 0 3) (thrT l 1 4)) = true
    · rw [if_pos z]; exact Ev.iteT z (Ev.now _)
    · rw [if_neg z]
      refine Ev.iteF z (Ev.bind (areOneLine_ev _ _ _ _ _ _) ?_)
      by_cases z : zeroT (crossTT (thrT l 0 3) (thrT l 2 5)) = true
      · rw [if_pos z]; exact Ev.iteT z (Ev.now _)
      · rw [if_neg z]
        refine Ev.iteF z (Ev.bind (areOneLine_ev _ _ _ _ _ _) ?_)
        by_cases z : zeroT (crossTT (thrT l 1 4) (thrT l 2 5)) = true
        · rw [if_pos z]; exact Ev.iteT z (Ev.now _)
        · rw [if_neg z]
          exact Ev.iteF z (Ev.const (onOne_impl _ _ _ _ _ _ _ _ _))
  · rw [if_neg hd]
    exact Ev.iteF hd (Ev.now _)
end Go.Proofs.Ytldcckcljjlglaa.Pure

namespace Go.Proofs.Ytldcckcljjlglaa.Pure
open Go.RowKit Go.Proofs.Ytldcckcljjlglaa.P Go.Proofs.YtldcckcljjlglaaW.PrintWords Go.Proofs.YtldcckcljjlglaaW.PrintLast Go.Proofs.Ytldcckcljjlglaa.Com
set_option linter.unusedSimpArgs false
set_option linter.unusedVariables false

theorem FnExactArePerspective : laws_FnExactArePerspective.Pure := by
  rintro x ⟨hm, _⟩
  apply Ev.rounds
  simp only [laws_FnExactArePerspective.f, szPointS_eq x hm, Option.bind_some]
  by_cases h : x.length ≤ 1048576
  · rw [if_pos h]
    refine Ev.iteF (by omega) ?_
    have hl : (x.map convPoint).length ≤ 1048576 := by simpa using h
    obtain ⟨r, h1, h2⟩ := (fun l hl => ⟨_, spec_Perspective_ev l hl, impl_Perspective_ev l hl⟩ : ∀ (l : List S80), l.length ≤ 1099511627776 → ∃ r, Ev (fun k => spec_ArePerspective.f k l) r ∧ Ev (fun k => impl_ArePerspective.f k l) r) (x.map convPoint) (by omega)
    refine Ev.bind (toPointS_eq x h) (Ev.bind h1 (Ev.bind (toPointS_eq x h) (Ev.bind h2 ?_)))
    have rest : Ev (fun k => (laws_toPointS.f k x).bind fun t => (laws_eqPointS.f k (x.map convPoint) t).bind fun b => if b = true then some true else some false) true :=
      Ev.bind (toPointS_eq x h) (Ev.bind (eqPointS_refl _ (by omega)) (Ev.now true))
    first
    | exact Ev.iteF (by simp) rest
    | exact Ev.iteT rfl rest
  · rw [if_neg h]
    exact Ev.iteT (by omega) (Ev.now true)
end Go.Proofs.Ytldcckcljjlglaa.Pure

namespace Go.Proofs.Ytldcckcljjlglaa.Opn
open Go Go.Deep Go.ChangeShapes Go.WideShapes Go.Proofs.YtldcckcljjlglaaW.PrintWords

section
variable {H : Type} (enc : TypeId × Value → H) (P : Program) (w : World) (base : Nat) (spare : Nat → Bool) (held : Bool)
/-- Whatever is read at type t is told by the kind d, and Q holds of it. -/
def Opens {α : Type} (d : Kd α) (t : TypeId) (Q : α → Prop) : Prop :=
  ∀ (fuel : Nat) (cs : List Value) (x : DataW H × List MemPlace), DataW.trod enc P w base spare held fuel t cs = some x → ∃ a, d.K w a cs ∧ Q a
end
section
variable {H : Type} {enc : TypeId × Value → H} {P : Program} {w : World} {base : Nat} {spare : Nat → Bool} {held : Bool}
theorem opens_int {t : TypeId} {k : IntKind} (ht : P.underlying t = some (.int k)) : Opens enc P w base spare held (Kd.int k) t (fun n => (Lit.int k n).wf = true) := fun fuel cs x h => by
  obtain ⟨n, rfl, _, hw⟩ := DataW.trod_int ht h
  exact ⟨n, rfl, hw⟩
theorem opens_bool {t : TypeId} (ht : P.underlying t = some .bool) : Opens enc P w base spare held Kd.bool t (fun _ => True) := fun fuel cs x h => by
  obtain ⟨n, rfl, _⟩ := DataW.trod_bool ht h
  exact ⟨n, rfl, trivial⟩
theorem opens_string {t : TypeId} (ht : P.underlying t = some .string) : Opens enc P w base spare held Kd.string t (fun s => s.size ≤ maxLen) := fun fuel cs x h => by
  obtain ⟨n, rfl, _, hs⟩ := DataW.trod_string ht h
  exact ⟨n, rfl, hs⟩
theorem opens_iso {α β : Type} {d : Kd α} {t : TypeId} {Q : α → Prop} (h : Opens enc P w base spare held d t Q) (f : β → α) (g : α → β) (hfg : ∀ a, f (g a) = a) : Opens enc P w base spare held (Kd.iso d f) t (fun b => Q (f b)) := fun fuel cs x hx => by
  obtain ⟨a, hK, hQ⟩ := h fuel cs x hx
  exact ⟨g a, by show d.K w (f (g a)) cs; rw [hfg]; exact hK, by show Q (f (g a)); rw [hfg]; exact hQ⟩
/-- A list of fields, one behind the other, from the cell o on. -/
def OpensFs (enc : TypeId × Value → H) (P : Program) (w : World) (base : Nat) (spare : Nat → Bool) (held : Bool) {α : Type} (d : Kd α) (o : Nat) (fs : List Field) (Q : α → Prop) : Prop :=
  ∀ (n : Nat) (cs : List Value), cs.length = o + d.sz → (∀ f ∈ fs, ∃ x, DataW.trod enc P w base spare held n f.type ((cs.drop f.offset).take (P.cellsOf f.type)) = some x) → ∃ a, d.K w a (cs.drop o) ∧ Q a
theorem opensFs_one {α : Type} {d : Kd α} {o : Nat} {f : Field} {Q : α → Prop} (h : Opens enc P w base spare held d f.type Q) (ho : f.offset = o) (hc : P.cellsOf f.type = d.sz) : OpensFs enc P w base spare held d o [f] Q := by
  intro n cs hl hf
  obtain ⟨x, hx⟩ := hf f (by simp)
  obtain ⟨a, hK, hQ⟩ := h n _ x hx
  refine ⟨a, ?_, hQ⟩
  rwa [ho, hc, List.take_of_length_le (by rw [List.length_drop]; omega)] at hK
theorem opensFs_cons {α β : Type} {d : Kd α} {e : Kd β} {o : Nat} {f : Field} {fs : List Field} {Q : α → Prop} {R : β → Prop} (h : Opens enc P w base spare held d f.type Q) (hs : OpensFs enc P w base spare held e (o + d.sz) fs R) (ho : f.offset = o) (hc : P.cellsOf f.type = d.sz) :
    OpensFs enc P w base spare held (Kd.pair d e) o (f :: fs) (fun x => Q x.1 ∧ R x.2) := by
  intro n cs hl hf
  have hz : (Kd.pair d e).sz = d.sz + e.sz := rfl
  rw [hz] at hl
  obtain ⟨x, hx⟩ := hf f (by simp)
  obtain ⟨a, hK, hQ⟩ := h n _ x hx
  obtain ⟨b, hK', hR⟩ := hs n cs (by omega) (fun g hg => hf g (by simp [hg]))
  rw [ho, hc] at hK
  refine ⟨(a, b), ⟨(cs.drop o).take d.sz, cs.drop (o + d.sz), ?_, hK, hK'⟩, hQ, hR⟩
  rw [← List.drop_drop, List.take_append_drop]
theorem opens_struct {α : Type} {d : Kd α} {t : TypeId} {fs : Array Field} {Q : α → Prop} (ht : P.underlying t = some (.struct fs)) (hc : P.cellsOf t = d.sz) (h : OpensFs enc P w base spare held d 0 fs.toList Q) : Opens enc P w base spare held d t Q := fun fuel cs x hx => by
  obtain ⟨xs, n, rfl, rfl, hl, hlen, hf⟩ := DataW.trod_struct ht hx
  obtain ⟨a, hK, hQ⟩ := h n cs (by omega) (fun f hm => by
    obtain ⟨i, hi, rfl⟩ := List.mem_iff_getElem.1 hm
    have hi' : i < fs.size := by simpa using hi
    have := hf i fs[i] (by simp [hi'])
    rw [List.getElem?_eq_getElem (by omega)] at this
    exact ⟨_, by simpa using this⟩)
  exact ⟨a, by simpa using hK, hQ⟩
theorem opens_slice {α : Type} {d : Kd α} {t e : TypeId} {Q : α → Prop} (ht : P.underlying t = some (.slice e)) (hc : P.cellsOf e = d.sz) (h : Opens enc P w base spare held d e Q) :
    Opens enc P w base spare held (Kd.slice e d) t (fun xs => xs.length ≤ maxLen ∧ ∀ x ∈ xs, Q x) := fun fuel cs x hx => by
  rcases open_slice ht hx with ⟨rfl, _⟩ | ⟨a, len, cap, m, n, D, Pl, rfl, _, hl, hm, hmm, _, hel⟩
  · exact ⟨[], ⟨none, 0, rfl, Nat.le_refl _, ⟨rfl, by simp, fun h => by simp at h⟩⟩, by simp⟩
  have hlm : len ≤ m := by rw [hmm]; split <;> omega
  have hi : ∀ i : Fin len, ∃ y : α, (∃ cs', w.cells? base (a.add (i.val * P.cellsOf e)) (P.cellsOf e) = some cs' ∧ d.K w y cs') ∧ Q y := fun i => by
    obtain ⟨cs', h1, h2⟩ := hel i.val (by omega)
    obtain ⟨y, hK, hQ⟩ := h _ _ _ h2
    exact ⟨y, ⟨cs', h1, hK⟩, hQ⟩
  let f : Fin len → α := fun i => Classical.choose (hi i)
  have hfs : ∀ i : Fin len, (∃ cs', w.cells? base (a.add (i.val * P.cellsOf e)) (P.cellsOf e) = some cs' ∧ d.K w (f i) cs') ∧ Q (f i) := fun i => Classical.choose_spec (hi i)
  have hlen : (List.ofFn f).length = len := by simp
  have hmax : cap ≤ 9223372036854775807 := by unfold maxLen at hm; omega
  refine ⟨List.ofFn f, ⟨some a, cap, by rw [hlen], by omega, ⟨rfl, by omega, fun _ => ⟨a, rfl, fun j p hj => ?_⟩⟩⟩, by omega, fun y hy => ?_⟩
  · obtain ⟨hj', rfl⟩ := List.getElem?_eq_some_iff.1 hj
    obtain ⟨⟨cs', h1, hK⟩, _⟩ := hfs ⟨j, by omega⟩
    obtain ⟨_, hcl, hcell⟩ := World.cells?_some h1
    refine ⟨cs', by omega, by simpa using hK, fun i u hu => ?_⟩
    have hiu : i < P.cellsOf e := by
      have := (List.getElem?_eq_some_iff.1 hu).1
      omega
    have := hcell i hiu
    rw [Go.Deep.add_add, hu, hc] at this
    exact this
  · obtain ⟨i, rfl⟩ := (List.mem_ofFn).1 hy
    exact (hfs i).2
end
end Go.Proofs.Ytldcckcljjlglaa.Opn

namespace Go.Proofs.Ytldcckcljjlglaa.fnExactArePerspective
open Go.ChangeShapes Go.WideShapes Go.ChangeAt Go.RowKit Go.Proofs.Ytldcckcljjlglaa.P Go.Proofs.Ytldcckcljjlglaa.Opn Go.Proofs.YtldcckcljjlglaaW.PrintWords
open Go.ChangeMaps (open_string shut_string)
set_option linter.unusedVariables false
set_option linter.unusedSimpArgs false
theorem own : ownKnob Try.prog.godebug = none := by kernel_rfl
theorem laidOut : laidOutB Try.prog = true := by kernel_rfl
set_option maxRecDepth 100000 in
theorem lifted (os : Os) (started : os.Started) (H : Type) (enc : TypeId × Value → H) :
  ReturnsInHanded {} Try.checked os 11 .any (Rows.fnExactArePerspectiveSpec.pre6 enc Try.prog Try.f11 Rows.fnExactArePerspectiveRow.domain false) (Rows.fnExactArePerspectiveSpec.post enc Try.prog Try.f11 false true false false) := by
 refine returnsInHanded_of_change_sized (C := Try.checked) own started (by kernel_rfl) Try.func11
  (ChangeSpec.witness6 (enc := enc) (C := Try.checked) false ⟨#[], #[.slice none 0 0], []⟩ 8 (by kernel_rfl) (by kernel_rfl) (by kernel_rfl) (by kernel_rfl)) ?_
 intro W base args ds gs before hval0 hW hcnd hsz0 _
 have hval : ∀ (j : Nat) t v, Try.f11.params[j]? = some t → args[j]? = some v → Value.okWide Try.prog W .any base t v := hval0
 have hW' := hW
 obtain ⟨p, q, hA0, hV, rfl, hfz, hnd⟩ := hW
 have hA : DataW.TrodAll enc Try.prog W 0 (fun _ => true) true Try.f11.params.toList args.toList ds p := hA0
 rw [Try.params11] at hA hval
 obtain ⟨v0, vs0, d0, ds0, p0, q0, hargs, rfl, rfl, h0, r0⟩ := trodAll_cons hA
 obtain ⟨rfl, rfl, rfl⟩ := trodAll_nil r0
 obtain rfl : args = #[v0] := by cases args; simp_all
 obtain ⟨rfl, rfl⟩ := trodVars_none hV
 have k0 := h0
 have lt0 : ∀ x ∈ p0, x.block < W.heap.size := by obtain ⟨m, hm⟩ := k0; exact DataW.trod_lt m _ _ _ hm
 obtain ⟨a0, len0, cap0, rfl⟩ := okWide_slice Try.underlying58 (hval 0 58 v0 rfl rfl)
 obtain ⟨x0, ⟨A0, c0, e0, hc0, hC0⟩, y0⟩ : ∃ xs : List (S114), (Kd.slice 114 k114).K W xs [.slice a0 len0 cap0] ∧ (xs.length ≤ maxLen ∧ ∀ y0 ∈ xs, ((Lit.int .i64 y0.f0).wf = true ∧ (Lit.int .i64 y0.f1).wf = true)) := by obtain ⟨m, hm⟩ := h0; exact (opens_slice Try.underlying58 (by kernel_rfl) (opens_iso (opens_struct Try.underlying114 (by kernel_rfl) (opensFs_cons (opens_int Try.underlying3) (opensFs_one (opens_int Try.underlying3) rfl (by kernel_rfl)) rfl (by kernel_rfl))) (fun x : S114 => (x.f0, x.f1)) (fun a => (⟨a.1, a.2⟩ : S114)) (fun _ => rfl))) m _ _ hm
 simp only [List.cons.injEq, Value.slice.injEq, and_true] at e0
 obtain ⟨rfl, rfl, rfl⟩ := e0
 clear hA0 hval0 hsz0
 obtain ⟨k, hP⟩ := Pure.FnExactArePerspective x0 y0
 refine (laws_FnExactArePerspective.calls k _ _ x0 true W hC0 hc0 hP).mono ?_
 rintro e W' ⟨he, bel0⟩
 have bel : Below W.heap.size W W' := bel0
 subst he
 exact ⟨_, rfl, _, _, _, [], _, [], hW', trodAll_mk1 (shut_bool Try.underlying4 _), (trodAll_cons_mk (Below.trod laidOut (by kernel_rfl) (of_decide_eq_true (by kernel_rfl)) k0 bel lt0) trodAll_mk0), rfl, bel.frame _, fun h => by cases h⟩
theorem over : Rows.fnExactArePerspectiveRow.holds Try.pinned (OpenSpec.ofChange Rows.fnExactArePerspectiveSpec) :=
 OpenClaim.holds_of_wide 11 Try.f11 rfl rfl rfl rfl rfl rfl rfl ⟨rfl, rfl, rfl, rfl, rfl⟩ rfl rfl rfl rfl rfl (by kernel_rfl) Try.func11 (by kernel_rfl)
  (of_decide_eq_true (by kernel_rfl)) (by unfold Func.isWrapper; first | (rw [if_pos (by decide +kernel)]; kernel_rfl) | (rw [if_neg (by decide +kernel)]; exact ⟨rfl, rfl⟩))
  (fun os started H enc _ => lifted os started H enc)
theorem proved : Rows.FnExactArePerspectiveSaid := over
#print axioms proved
end Go.Proofs.Ytldcckcljjlglaa.fnExactArePerspective
namespace Go.Proofs.Ytldcckcljjlglaa
/-- The row, under a short name, for the claim. -/
theorem fnExactArePerspective_holds : Rows.FnExactArePerspectiveSaid := fnExactArePerspective.proved
end Go.Proofs.Ytldcckcljjlglaa

