/- A part of the proof of FnExactPappusOf: printed contracts and plain laws, joined by a program of this session. -/
import Derived.Test.YtldcckcljjlglaaZFnExactPappusOf1
import Derived.Test.YtldcckcljjlglaaRows
import Derived.Test.YtldcckcljjlglaaProg
import Derived.Below
import Derived.Deep.Draws
import Derived.Deep.AppendLies
import Derived.Maps.AppendAt
import Derived.OwnWalk
import Derived.Laws.BytesArg
import Derived.Laws.MakeOwn
import Derived.Laws.OwnMore
import Derived.Deep.OwnRows
import Derived.Tactics
import Derived.Lib.ConvBytes
import Derived.Laws.Slices
import Derived.WalkKit
import Derived.KernelRfl
import Derived.RowKit3
import Derived.Deep.LoopGhost
import Derived.Deep.QuietTactic
import Derived.BigQuiet
import Derived.WideLaws
import Derived.Deep.DeepCutAuto
import Derived.Deep.CutBlock
import Derived.Deep.RegionHeld3
import Derived.Laws.Rows
import Derived.Lib.AppendStr
import Derived.ArgAppend
import Derived.Laws.IdiomCopy
import Derived.OrdersHeld
import Derived.Laws.BitsLemmas
import Derived.RowKit
import Derived.Shelf.Abstract
import Derived.Test.YtldcckcljjlglaaWWords
import Derived.Test.YtldcckcljjlglaaWLast
import Derived.Test.YtldcckcljjlglaaWTab
import Derived.Test.YtldcckcljjlglaaWQPut
import Derived.Test.YtldcckcljjlglaaWApart
import Derived.Test.YtldcckcljjlglaaWArr
import Derived.Test.YtldcckcljjlglaaWZeros
import Derived.Test.YtldcckcljjlglaaWFoot
import Derived.Test.YtldcckcljjlglaaWKept
import Derived.Test.YtldcckcljjlglaaWShare
import Derived.Test.YtldcckcljjlglaaWN
import Derived.Test.YtldcckcljjlglaaWEqStruct
import Derived.Test.YtldcckcljjlglaaWRepsOne
import Derived.Test.YtldcckcljjlglaaWNEv
import Derived.Test.YtldcckcljjlglaaWMore
import Derived.Deep.Slices
import Derived.ChangeOld
import Derived.Carry
import Derived.ProofKit
import Derived.OpenShut
import Derived.ShutString
import Derived.SizedLaws
namespace Go.Proofs.Ytldcckcljjlglaa.P
open Go.RowKit Go.Proofs.YtldcckcljjlglaaW.PrintWords Go.Proofs.YtldcckcljjlglaaW.PrintLast Go.Proofs.YtldcckcljjlglaaW.PrintMore
attribute [local go_sem] max2_int min2_int max_two min_two max_three min_three max_four min_four   -- for this text's walks alone
set_option linter.unusedVariables false
set_option linter.unusedSimpArgs false

/-! ### impl_CrossOf: function 77 -/
def impl_CrossOf.f (k : Nat) (a0_0 : Int) (a0_1 : Int) (a0_2 : Int) (a1_0 : Int) (a1_1 : Int) (a1_2 : Int) : Option (Int × Int × Int) := (impl_isLimited.f 1000000 (([(⟨a0_0, a0_1, a0_2⟩ : S72), (⟨a1_0, a1_1, a1_2⟩ : S72)] : List (S72)))).bind fun t107 => (if t107 = true then ((impl_divisor.f k (([wrap64 ((wrap64 (a0_1 * a1_2)) - (wrap64 (a0_2 * a1_1))), wrap64 ((wrap64 (a0_2 * a1_0)) - (wrap64 (a0_0 * a1_2))), wrap64 ((wrap64 (a0_0 * a1_1)) - (wrap64 (a0_1 * a1_0)))] : List Int))).bind fun t111 => (if t111 = 0 then (some (0, 0, 0)) else (some (wrap64 (Int.tdiv (wrap64 ((wrap64 (a0_1 * a1_2)) - (wrap64 (a0_2 * a1_1)))) t111), wrap64 (Int.tdiv (wrap64 ((wrap64 (a0_2 * a1_0)) - (wrap64 (a0_0 * a1_2)))) t111), wrap64 (Int.tdiv (wrap64 ((wrap64 (a0_0 * a1_1)) - (wrap64 (a0_1 * a1_0)))) t111))))) else (some (0, 0, 0)))
theorem impl_CrossOf.mono : ∀ a0 a1 a2 a3 a4 a5 k, LeO (impl_CrossOf.f k a0 a1 a2 a3 a4 a5) (impl_CrossOf.f (k + 1) a0 a1 a2 a3 a4 a5) := by
 intro a0 a1 a2 a3 a4 a5 k
 unfold impl_CrossOf.f
 repeat' first
   | (with_reducible exact impl_divisor.mono _ _)
   | (with_reducible exact LeO.refl _)
   | (with_reducible exact LeO.none _)
   | (with_reducible refine LeO.ite ?_ ?_)
   | (with_reducible refine LeO.bind ?_ (fun _ => ?_))
   | exact impl_divisor.mono _ _
   | exact LeO.none _
   | refine LeO.ite ?_ ?_
   | refine LeO.bind ?_ (fun _ => ?_)
def impl_CrossOf.T3 : Bool × List (List Nat × List Nat) := (true, [([], []), ([0], [0]), ([], []), ([2], [2]), ([1, 3], [1, 3]), ([], []), ([5], [5]), ([], []), ([7], [7]), ([6, 8], [6, 8]), ([4, 9], [4, 9]), ([], []), ([11], [11]), ([], []), ([13], [13]), ([12, 14], [12, 14]), ([], []), ([16], [16]), ([], []), ([18], [18]), ([17, 19], [17, 19]), ([15, 20], [15, 20]), ([], []), ([22], [22]), ([], []), ([24], [24]), ([23, 25], [23, 25]), ([], []), ([27], [27]), ([], []), ([29], [29]), ([28, 30], [28, 30]), ([26, 31], [26, 31]), ([10, 0, 1, 2, 3, 4, 5, 6, 7, 8, 9, 10], [10]), ([21, 33, 0, 1, 2, 3, 4, 5, 6, 7, 8, 9, 10, 11, 12, 13, 14, 15, 16, 17, 18, 19, 20, 21, 33], [21]), ([32, 34, 0, 1, 2, 3, 4, 5, 6, 7, 8, 9, 10, 11, 12, 13, 14, 15, 16, 17, 18, 19, 20, 21, 22, 23, 24, 25, 26, 27, 28, 29, 30, 31, 32, 33, 34], [32])])
def impl_CrossOf.B3 : List Nat := [0, 1, 0, 4, 15, 0, 32, 0, 128, 480, 1023, 0, 2048, 0, 8192, 30720, 0, 65536, 0, 262144, 983040, 2095104, 0, 4194304, 0, 16777216, 62914560, 0, 134217728, 0, 536870912, 2013265920, 4290772992, 2047, 8594128895, 34359738367]
theorem impl_CrossOf.tab3 : rtab .any (opsOf Try.f77 3) = impl_CrossOf.T3 := by kernel_rfl
theorem impl_CrossOf.bits3 : waitsOk impl_CrossOf.T3.2 impl_CrossOf.B3 = true := by kernel_rfl
def impl_CrossOf.T7 : Bool × List (List Nat × List Nat) := (true, [([], []), ([], []), ([0, 1], [0, 1]), ([], []), ([], []), ([3, 4], [3, 4]), ([], []), ([], []), ([6, 7], [6, 7]), ([2, 5, 8], [2, 5, 8]), ([9, 0, 1, 2, 3, 4, 5, 6, 7, 8, 9], [9])])
def impl_CrossOf.B7 : List Nat := [0, 0, 3, 0, 0, 24, 0, 0, 192, 511, 1023]
theorem impl_CrossOf.tab7 : rtab .any (opsOf Try.f77 7) = impl_CrossOf.T7 := by kernel_rfl
theorem impl_CrossOf.bits7 : waitsOk impl_CrossOf.T7.2 impl_CrossOf.B7 = true := by kernel_rfl
set_option maxHeartbeats 8000000 in
set_option maxRecDepth 100000 in
theorem impl_CrossOf.calls (k : Nat) (a0_0 : Int) (a0_1 : Int) (a0_2 : Int) (a1_0 : Int) (a1_1 : Int) (a1_2 : Int) (r1 : Int) (r2 : Int) (r3 : Int) (w : World) (h : impl_CrossOf.f k a0_0 a0_1 a0_2 a1_0 a1_1 a1_2 = some (r1, r2, r3)) :
  Calls Try.prog 77 #[.agg #[.int .i64 a0_0, .int .i64 a0_1, .int .i64 a0_2], .agg #[.int .i64 a1_0, .int .i64 a1_1, .int .i64 a1_2]] w fun e w' => e = .returned (.agg #[.int .i64 r1, .int .i64 r2, .int .i64 r3]) ∧ Below w.heap.size w w' := by
 have hu72 := Try.underlying72
 have HB := Aside0.mk (Below.refl w.heap.size w)
 have H : ((impl_isLimited.f 1000000 (([(⟨a0_0, a0_1, a0_2⟩ : S72), (⟨a1_0, a1_1, a1_2⟩ : S72)] : List (S72)))).bind fun t107 => (if t107 = true then ((impl_divisor.f k (([wrap64 ((wrap64 (a0_1 * a1_2)) - (wrap64 (a0_2 * a1_1))), wrap64 ((wrap64 (a0_2 * a1_0)) - (wrap64 (a0_0 * a1_2))), wrap64 ((wrap64 (a0_0 * a1_1)) - (wrap64 (a0_1 * a1_0)))] : List Int))).bind fun t111 => (if t111 = 0 then (some (0, 0, 0)) else (some (wrap64 (Int.tdiv (wrap64 ((wrap64 (a0_1 * a1_2)) - (wrap64 (a0_2 * a1_1)))) t111), wrap64 (Int.tdiv (wrap64 ((wrap64 (a0_2 * a1_0)) - (wrap64 (a0_0 * a1_2)))) t111), wrap64 (Int.tdiv (wrap64 ((wrap64 (a0_0 * a1_1)) - (wrap64 (a0_1 * a1_0)))) t111))))) else (some (0, 0, 0)))) = some (r1, r2, r3) := h
 clear h
 obtain ⟨y104, hy104⟩ : ∃ y_ : List (S72), y_ = (([(⟨a0_0, a0_1, a0_2⟩ : S72), (⟨a1_0, a1_1, a1_2⟩ : S72)] : List (S72))) := ⟨_, rfl⟩
 replace H : ((impl_isLimited.f 1000000 y104).bind fun t107 => (if t107 = true then ((impl_divisor.f k (([wrap64 ((wrap64 (a0_1 * a1_2)) - (wrap64 (a0_2 * a1_1))), wrap64 ((wrap64 (a0_2 * a1_0)) - (wrap64 (a0_0 * a1_2))), wrap64 ((wrap64 (a0_0 * a1_1)) - (wrap64 (a0_1 * a1_0)))] : List Int))).bind fun t111 => (if t111 = 0 then (some (0, 0, 0)) else (some (wrap64 (Int.tdiv (wrap64 ((wrap64 (a0_1 * a1_2)) - (wrap64 (a0_2 * a1_1)))) t111), wrap64 (Int.tdiv (wrap64 ((wrap64 (a0_2 * a1_0)) - (wrap64 (a0_0 * a1_2)))) t111), wrap64 (Int.tdiv (wrap64 ((wrap64 (a0_0 * a1_1)) - (wrap64 (a0_1 * a1_0)))) t111))))) else (some (0, 0, 0)))) = some (r1, r2, r3) := by first | (rw [hy104]; with_reducible exact H) | (have H2_ := (Option.bind_some _ _).symm.trans H; rw [hy104]; with_reducible exact H2_) | (have H2_ := (Option.bind_some _ _).symm.trans H; with_reducible exact H2_) | with_reducible exact H | (rw [hy104]; exact H) | exact H
 have Ny104 := Aside0.mk hy104
 clear hy104
 replace H := Option.bind_eq_some_iff.mp H
 obtain ⟨t107, A30, H⟩ := H
 replace H : (if t107 = true then ((impl_divisor.f k (([wrap64 ((wrap64 (a0_1 * a1_2)) - (wrap64 (a0_2 * a1_1))), wrap64 ((wrap64 (a0_2 * a1_0)) - (wrap64 (a0_0 * a1_2))), wrap64 ((wrap64 (a0_0 * a1_1)) - (wrap64 (a0_1 * a1_0)))] : List Int))).bind fun t111 => (if t111 = 0 then (some (0, 0, 0)) else (some (wrap64 (Int.tdiv (wrap64 ((wrap64 (a0_1 * a1_2)) - (wrap64 (a0_2 * a1_1)))) t111), wrap64 (Int.tdiv (wrap64 ((wrap64 (a0_2 * a1_0)) - (wrap64 (a0_0 * a1_2)))) t111), wrap64 (Int.tdiv (wrap64 ((wrap64 (a0_0 * a1_1)) - (wrap64 (a0_1 * a1_0)))) t111))))) else (some (0, 0, 0))) = some (r1, r2, r3) := H
 have A3 := Aside0.mk A30
 clear A30
 by_cases c4 : t107 = true
 ·subst c4
  have H1 : ((impl_divisor.f k (([wrap64 ((wrap64 (a0_1 * a1_2)) - (wrap64 (a0_2 * a1_1))), wrap64 ((wrap64 (a0_2 * a1_0)) - (wrap64 (a0_0 * a1_2))), wrap64 ((wrap64 (a0_0 * a1_1)) - (wrap64 (a0_1 * a1_0)))] : List Int))).bind fun t111 => (if t111 = 0 then (some (0, 0, 0)) else (some (wrap64 (Int.tdiv (wrap64 ((wrap64 (a0_1 * a1_2)) - (wrap64 (a0_2 * a1_1)))) t111), wrap64 (Int.tdiv (wrap64 ((wrap64 (a0_2 * a1_0)) - (wrap64 (a0_0 * a1_2)))) t111), wrap64 (Int.tdiv (wrap64 ((wrap64 (a0_0 * a1_1)) - (wrap64 (a0_1 * a1_0)))) t111))))) = some (r1, r2, r3) := by rw [if_pos rfl] at H; exact H
  clear H
  have H := H1
  clear H1
  obtain ⟨y108, hy108⟩ : ∃ y_ : List Int, y_ = (([wrap64 ((wrap64 (a0_1 * a1_2)) - (wrap64 (a0_2 * a1_1))), wrap64 ((wrap64 (a0_2 * a1_0)) - (wrap64 (a0_0 * a1_2))), wrap64 ((wrap64 (a0_0 * a1_1)) - (wrap64 (a0_1 * a1_0)))] : List Int)) := ⟨_, rfl⟩
  replace H : ((impl_divisor.f k y108).bind fun t111 => (if t111 = 0 then (some (0, 0, 0)) else (some (wrap64 (Int.tdiv (wrap64 ((wrap64 (a0_1 * a1_2)) - (wrap64 (a0_2 * a1_1)))) t111), wrap64 (Int.tdiv (wrap64 ((wrap64 (a0_2 * a1_0)) - (wrap64 (a0_0 * a1_2)))) t111), wrap64 (Int.tdiv (wrap64 ((wrap64 (a0_0 * a1_1)) - (wrap64 (a0_1 * a1_0)))) t111))))) = some (r1, r2, r3) := by first | (rw [hy108]; with_reducible exact H) | (have H2_ := (Option.bind_some _ _).symm.trans H; rw [hy108]; with_reducible exact H2_) | (have H2_ := (Option.bind_some _ _).symm.trans H; with_reducible exact H2_) | with_reducible exact H | (rw [hy108]; exact H) | exact H
  have Ny108 := Aside0.mk hy108
  clear hy108
  replace H := Option.bind_eq_some_iff.mp H
  obtain ⟨t111, A50, H⟩ := H
  replace H : (if t111 = 0 then (some (0, 0, 0)) else (some (wrap64 (Int.tdiv (wrap64 ((wrap64 (a0_1 * a1_2)) - (wrap64 (a0_2 * a1_1)))) t111), wrap64 (Int.tdiv (wrap64 ((wrap64 (a0_2 * a1_0)) - (wrap64 (a0_0 * a1_2)))) t111), wrap64 (Int.tdiv (wrap64 ((wrap64 (a0_0 * a1_1)) - (wrap64 (a0_1 * a1_0)))) t111)))) = some (r1, r2, r3) := H
  have A5 := Aside0.mk A50
  clear A50
  by_cases c6 : t111 = 0
  ·rw [if_pos c6] at H
   have c6b0 : (t111 == 0) = true := beq_iff_eq.mpr c6
   have c6b1 : (t111 != 0) = false := bne_eq_false_iff_eq.mpr c6
   clear c6
   simp only [Option.some.injEq, Prod.mk.injEq] at H
   obtain ⟨rfl, rfl, rfl⟩ := H
   go_enter Try.func77, Try.ntmps77
   try go_wp2_with (first | ((with_reducible refine gate_dst (N := 2) rfl ?_); refine box_event ?hg (N := 2) ?hd (cs := #[.int .i64 a0_0, .int .i64 a0_1, .int .i64 a0_2]) (t := 72) ?hr ?_; (case hd => rfl); (case hg => rfl); (case hr => first | (go_simp; done) | (go_simp; rfl)); intro gb101 hg w7 hbox hb; have n0_ := Aside0.mk (below_step (by repeat (first | (with_reducible first | exact HB.out | apply below_alloc | apply pw_below_drewN | apply below_drew1) | exact HB.out)) hb); have n1_ := Aside0.mk (hbox); have n2_ := Aside0.mk ((by rw [hg]; exact (below_size (by repeat (first | (with_reducible first | exact HB.out | apply below_alloc | apply pw_below_drewN | apply below_drew1) | exact HB.out))) : w.heap.size ≤ gb101)); have n3_ := Aside0.mk ((by rw [hg]; exact (below_size (by repeat (first | (with_reducible first | exact HB.out | apply below_alloc | apply pw_below_drewN | apply below_drew1) | exact HB.out))) : w.heap.size ≤ gb101)); clear HB; have HB := n0_; have BK101 := n1_; have GW101 := n2_; have GE101 := n3_; clear n0_ n1_ n2_ n3_; clear hb hbox hg) | ((with_reducible refine gate_dst (N := 3) rfl ?_); refine box_event ?hg (N := 3) ?hd (cs := #[.int .i64 a1_0, .int .i64 a1_1, .int .i64 a1_2]) (t := 72) ?hr ?_; (case hd => rfl); (case hg => rfl); (case hr => first | (go_simp; done) | (go_simp; rfl)); intro gb102 hg w8 hbox hb; have n0_ := Aside0.mk (blk_below (g := gb101) (o := .cells #[.int .i64 a0_0, .int .i64 a0_1, .int .i64 a0_2] 72 (0, 0)) (by (with_reducible repeat (first | refine blk_drewN ?_ _ | refine blk_drew ?_ | refine blk_alloc ?_ _)); exact BK101.out) hb); have n1_ := Aside0.mk (below_step (by repeat (first | (with_reducible first | exact HB.out | apply below_alloc | apply pw_below_drewN | apply below_drew1 | refine below_set ?_ GE101.out) | exact HB.out)) hb); have n2_ := Aside0.mk (hbox); have n3_ := Aside0.mk ((by rw [hg]; exact (below_size (by repeat (first | (with_reducible first | exact HB.out | apply below_alloc | apply pw_below_drewN | apply below_drew1 | refine below_set ?_ GE101.out) | exact HB.out))) : w.heap.size ≤ gb102)); have n4_ := Aside0.mk ((by rw [hg]; exact (below_size (by repeat (first | (with_reducible first | exact HB.out | apply below_alloc | apply pw_below_drewN | apply below_drew1 | refine below_set ?_ GE101.out) | exact HB.out))) : w.heap.size ≤ gb102)); have n5_ := Aside0.mk ((by rw [hg]; exact Nat.ne_of_lt (blk_lt (g := gb101) (o := .cells #[.int .i64 a0_0, .int .i64 a0_1, .int .i64 a0_2] 72 (0, 0)) (by (with_reducible repeat (first | refine blk_drewN ?_ _ | refine blk_drew ?_ | refine blk_alloc ?_ _)); exact BK101.out)) : gb101 ≠ gb102)); have n6_ := Aside0.mk ((by rw [hg]; exact Nat.ne_of_gt (blk_lt (g := gb101) (o := .cells #[.int .i64 a0_0, .int .i64 a0_1, .int .i64 a0_2] 72 (0, 0)) (by (with_reducible repeat (first | refine blk_drewN ?_ _ | refine blk_drew ?_ | refine blk_alloc ?_ _)); exact BK101.out)) : gb102 ≠ gb101)); clear BK101; clear HB; have BK101 := n0_; have HB := n1_; have BK102 := n2_; have GW102 := n3_; have GE102 := n4_; have NB101_102 := n5_; have NB102_101 := n6_; clear n0_ n1_ n2_ n3_ n4_ n5_ n6_; clear hb hbox hg) | ((with_reducible refine gate_dst (N := 4) rfl ?_); refine box_event ?hg (N := 4) ?hd (cs := #[.int .i64 0, .int .i64 0, .int .i64 0]) (t := 72) ?hr ?_; (case hd => rfl); (case hg => rfl); (case hr => first | (go_simp; done) | (go_simp; rfl)); intro gb103 hg w9 hbox hb; have n0_ := Aside0.mk (blk_below (g := gb101) (o := .cells #[.int .i64 a0_0, .int .i64 a0_1, .int .i64 a0_2] 72 (0, 0)) (by (with_reducible repeat (first | refine blk_drewN ?_ _ | refine blk_drew ?_ | refine blk_alloc ?_ _)); exact BK101.out) hb); have n1_ := Aside0.mk (blk_below (g := gb102) (o := .cells #[.int .i64 a1_0, .int .i64 a1_1, .int .i64 a1_2] 72 (0, 0)) (by (with_reducible repeat (first | refine blk_drewN ?_ _ | refine blk_drew ?_ | refine blk_alloc ?_ _)); exact BK102.out) hb); have n2_ := Aside0.mk (below_step (by repeat (first | (with_reducible first | exact HB.out | apply below_alloc | apply pw_below_drewN | apply below_drew1 | refine below_set ?_ GE101.out | refine below_set ?_ GE102.out) | exact HB.out)) hb); have n3_ := Aside0.mk (hbox); have n4_ := Aside0.mk ((by rw [hg]; exact (below_size (by repeat (first | (with_reducible first | exact HB.out | apply below_alloc | apply pw_below_drewN | apply below_drew1 | refine below_set ?_ GE101.out | refine below_set ?_ GE102.out) | exact HB.out))) : w.heap.size ≤ gb103)); have n5_ := Aside0.mk ((by rw [hg]; exact (below_size (by repeat (first | (with_reducible first | exact HB.out | apply below_alloc | apply pw_below_drewN | apply below_drew1 | refine below_set ?_ GE101.out | refine below_set ?_ GE102.out) | exact HB.out))) : w.heap.size ≤ gb103)); have n6_ := Aside0.mk ((by rw [hg]; exact Nat.ne_of_lt (blk_lt (g := gb101) (o := .cells #[.int .i64 a0_0, .int .i64 a0_1, .int .i64 a0_2] 72 (0, 0)) (by (with_reducible repeat (first | refine blk_drewN ?_ _ | refine blk_drew ?_ | refine blk_alloc ?_ _)); exact BK101.out)) : gb101 ≠ gb103)); have n7_ := Aside0.mk ((by rw [hg]; exact Nat.ne_of_gt (blk_lt (g := gb101) (o := .cells #[.int .i64 a0_0, .int .i64 a0_1, .int .i64 a0_2] 72 (0, 0)) (by (with_reducible repeat (first | refine blk_drewN ?_ _ | refine blk_drew ?_ | refine blk_alloc ?_ _)); exact BK101.out)) : gb103 ≠ gb101)); have n8_ := Aside0.mk ((by rw [hg]; exact Nat.ne_of_lt (blk_lt (g := gb102) (o := .cells #[.int .i64 a1_0, .int .i64 a1_1, .int .i64 a1_2] 72 (0, 0)) (by (with_reducible repeat (first | refine blk_drewN ?_ _ | refine blk_drew ?_ | refine blk_alloc ?_ _)); exact BK102.out)) : gb102 ≠ gb103)); have n9_ := Aside0.mk ((by rw [hg]; exact Nat.ne_of_gt (blk_lt (g := gb102) (o := .cells #[.int .i64 a1_0, .int .i64 a1_1, .int .i64 a1_2] 72 (0, 0)) (by (with_reducible repeat (first | refine blk_drewN ?_ _ | refine blk_drew ?_ | refine blk_alloc ?_ _)); exact BK102.out)) : gb103 ≠ gb102)); clear BK101; clear BK102; clear HB; have BK101 := n0_; have BK102 := n1_; have HB := n2_; have BK103 := n3_; have GW103 := n4_; have GE103 := n5_; have NB101_103 := n6_; have NB103_101 := n7_; have NB102_103 := n8_; have NB103_102 := n9_; clear n0_ n1_ n2_ n3_ n4_ n5_ n6_ n7_ n8_ n9_; clear hb hbox hg; have hnb10 := NB101_102.out; have hnc10 := NB102_101.out; have hnb11 := NB101_103.out; have hnc11 := NB103_101.out; have hcz12_0 : w9.cell? ⟨gb101, 0, none⟩ = some (.int .i64 a0_0) := (blk_cell BK101.out 0).trans rfl; have hcz12_1 : w9.cell? ⟨gb101, 1, none⟩ = some (.int .i64 a0_1) := (blk_cell BK101.out 1).trans rfl; have hcz12_2 : w9.cell? ⟨gb101, 2, none⟩ = some (.int .i64 a0_2) := (blk_cell BK101.out 2).trans rfl; have hfz12_0 := blk_frozen BK101.out 0; have hfz12_1 := blk_frozen BK101.out 1; have hfz12_2 := blk_frozen BK101.out 2; have hnb13 := NB102_103.out; have hnc13 := NB103_102.out; have hcz14_0 : w9.cell? ⟨gb102, 0, none⟩ = some (.int .i64 a1_0) := (blk_cell BK102.out 0).trans rfl; have hcz14_1 : w9.cell? ⟨gb102, 1, none⟩ = some (.int .i64 a1_1) := (blk_cell BK102.out 1).trans rfl; have hcz14_2 : w9.cell? ⟨gb102, 2, none⟩ = some (.int .i64 a1_2) := (blk_cell BK102.out 2).trans rfl; have hfz14_0 := blk_frozen BK102.out 0; have hfz14_1 := blk_frozen BK102.out 1; have hfz14_2 := blk_frozen BK102.out 2) | ((with_reducible refine gate_dst (N := 11) rfl ?_); refine Kd.R_lit k72 _ 72 ?hg (N := 11) ?hd (xs := ([(⟨a0_0, a0_1, a0_2⟩ : S72), (⟨a1_0, a1_1, a1_2⟩ : S72)] : List (S72))) (inner := [.int .i64 a0_0, .int .i64 a0_1, .int .i64 a0_2, .int .i64 a1_0, .int .i64 a1_1, .int .i64 a1_2]) (ok := fun _ => True) (okp := fun _ => True) ?hr ?hp (fun _ hk => hk) trivial (Below.refl _ _) (Nat.le_refl _) (by simp) ?_; (case hd => rfl); (case hg => rfl); (case hr => first | (go_simp; done) | (go_simp; rfl)); (case hp => exact (Reps.c3 (show Kd.M k72 _ _ _ (⟨a0_0, a0_1, a0_2⟩ : S72) [.int .i64 a0_0, .int .i64 a0_1, .int .i64 a0_2] from (k72_mkM _ _ _ (⟨a0_0, a0_1, a0_2⟩ : S72) )) (Reps.c3 (show Kd.M k72 _ _ _ (⟨a1_0, a1_1, a1_2⟩ : S72) [.int .i64 a1_0, .int .i64 a1_1, .int .i64 a1_2] from (k72_mkM _ _ _ (⟨a1_0, a1_1, a1_2⟩ : S72) )) (Reps.none _ _)))); intro v105 w15 ho16 hb hg_ hnew_; clear hg_ hnew_; (first | rw [← Ny104.out] at ho16 | (simp only [Int.reduceToNat] at ho16; rw [← Ny104.out] at ho16)); have n0_ := Aside0.mk (Kd.R_lower (Kd.R_newB (Kd.R_newB (Kd.R_newB ho16 (g := gb101) (o := .cells #[.int .i64 a0_0, .int .i64 a0_1, .int .i64 a0_2] 72 (0, 0)) (by (with_reducible repeat (first | refine blk_drewN ?_ _ | refine blk_drew ?_ | refine blk_alloc ?_ _)); exact BK101.out)) (g := gb102) (o := .cells #[.int .i64 a1_0, .int .i64 a1_1, .int .i64 a1_2] 72 (0, 0)) (by (with_reducible repeat (first | refine blk_drewN ?_ _ | refine blk_drew ?_ | refine blk_alloc ?_ _)); exact BK102.out)) (g := gb103) (o := .cells #[.int .i64 0, .int .i64 0, .int .i64 0] 72 (0, 0)) (by (with_reducible repeat (first | refine blk_drewN ?_ _ | refine blk_drew ?_ | refine blk_alloc ?_ _)); exact BK103.out)) (below_size (by repeat (first | (with_reducible first | exact HB.out | apply below_alloc | apply pw_below_drewN | apply below_drew1 | refine below_set ?_ GE101.out | refine below_set ?_ GE102.out | refine below_set ?_ GE103.out) | exact HB.out)))); have n1_ := Aside0.mk (blk_below (g := gb101) (o := .cells #[.int .i64 a0_0, .int .i64 a0_1, .int .i64 a0_2] 72 (0, 0)) (by (with_reducible repeat (first | refine blk_drewN ?_ _ | refine blk_drew ?_ | refine blk_alloc ?_ _)); exact BK101.out) hb); have n2_ := Aside0.mk (blk_below (g := gb102) (o := .cells #[.int .i64 a1_0, .int .i64 a1_1, .int .i64 a1_2] 72 (0, 0)) (by (with_reducible repeat (first | refine blk_drewN ?_ _ | refine blk_drew ?_ | refine blk_alloc ?_ _)); exact BK102.out) hb); have n3_ := Aside0.mk (blk_below (g := gb103) (o := .cells #[.int .i64 0, .int .i64 0, .int .i64 0] 72 (0, 0)) (by (with_reducible repeat (first | refine blk_drewN ?_ _ | refine blk_drew ?_ | refine blk_alloc ?_ _)); exact BK103.out) hb); have n4_ := Aside0.mk (below_step (by repeat (first | (with_reducible first | exact HB.out | apply below_alloc | apply pw_below_drewN | apply below_drew1 | refine below_set ?_ GE101.out | refine below_set ?_ GE102.out | refine below_set ?_ GE103.out) | exact HB.out)) hb); clear BK101; clear BK102; clear BK103; clear HB; have HO106 := n0_; have BK101 := n1_; have BK102 := n2_; have BK103 := n3_; have HB := n4_; clear n0_ n1_ n2_ n3_ n4_; clear hb ho16; obtain ⟨Ao17, co17, eo17⟩ := Kd.R_slice HO106.out; subst eo17) | ((with_reducible refine gate_callee (f := 136) rfl ?_); refine goesL_ (some 12) rfl rfl Try.func136 (by kernel_rfl) rfl #[.int .i64 1000000, .slice Ao17 y104.length co17] rfl (by (try simp only [List.map_toArray, List.map_cons, List.map_nil]); first | done | rfl | (simp only [List.length_drop, List.length_take]; rfl)) ?_; (with_reducible refine (impl_isLimited.calls 1000000 _ _ y104 true _ ?side1 ?side2 A3.out).mono ?_); (case side1 => repeat (first | exact (Kd.R_reads' HO106.out).2.2 | (with_reducible refine Kd.C_alloc ?_ _) | (with_reducible refine Kd.C_drewN ?_ _) | (with_reducible refine Kd.C_drew ?_))); (case side2 => exact (Kd.R_reads' HO106.out).2.1); rintro e w18 ⟨rfl, hb⟩; refine ⟨_, rfl, ?_⟩; have n0_ := Aside0.mk (Kd.R_below (by (with_reducible repeat (first | apply Kd.R_alloc | apply Kd.R_drewN | apply Kd.R_drew)); exact HO106.out) hb); have n1_ := Aside0.mk (blk_below (g := gb101) (o := .cells #[.int .i64 a0_0, .int .i64 a0_1, .int .i64 a0_2] 72 (0, 0)) (by (with_reducible repeat (first | refine blk_drewN ?_ _ | refine blk_drew ?_ | refine blk_alloc ?_ _)); exact BK101.out) hb); have n2_ := Aside0.mk (blk_below (g := gb102) (o := .cells #[.int .i64 a1_0, .int .i64 a1_1, .int .i64 a1_2] 72 (0, 0)) (by (with_reducible repeat (first | refine blk_drewN ?_ _ | refine blk_drew ?_ | refine blk_alloc ?_ _)); exact BK102.out) hb); have n3_ := Aside0.mk (blk_below (g := gb103) (o := .cells #[.int .i64 0, .int .i64 0, .int .i64 0] 72 (0, 0)) (by (with_reducible repeat (first | refine blk_drewN ?_ _ | refine blk_drew ?_ | refine blk_alloc ?_ _)); exact BK103.out) hb); have n4_ := Aside0.mk (below_step (by repeat (first | (with_reducible first | exact HB.out | apply below_alloc | apply pw_below_drewN | apply below_drew1 | refine below_set ?_ GE101.out | refine below_set ?_ GE102.out | refine below_set ?_ GE103.out) | exact HB.out)) hb); clear HO106; clear BK101; clear BK102; clear BK103; clear HB; have HO106 := n0_; have BK101 := n1_; have BK102 := n2_; have BK103 := n3_; have HB := n4_; clear n0_ n1_ n2_ n3_ n4_; (try clear hb); (try clear hb2); (try clear hk); (try clear hi)))
   have n0_ := Aside0.mk (Kd.R_drew HO106.out)
   have n1_ := Aside0.mk (blk_drew BK101.out)
   have n2_ := Aside0.mk (blk_drew BK102.out)
   have n3_ := Aside0.mk (blk_drew BK103.out)
   have n4_ := Aside0.mk (below_drew1 HB.out)
   clear HO106
   clear BK101
   clear BK102
   clear BK103
   clear HB
   have HO106 := n0_
   have BK101 := n1_
   have BK102 := n2_
   have BK103 := n3_
   have HB := n4_
   clear n0_ n1_ n2_ n3_ n4_
   refine start_ (n := 36) (S := fun w' => w'.cell? ⟨gb101, 0, none⟩ = some (.int .i64 a0_0) ∧ w'.cell? ⟨gb101, 1, none⟩ = some (.int .i64 a0_1) ∧ w'.cell? ⟨gb101, 2, none⟩ = some (.int .i64 a0_2) ∧ w'.cell? ⟨gb102, 0, none⟩ = some (.int .i64 a1_0) ∧ w'.cell? ⟨gb102, 1, none⟩ = some (.int .i64 a1_1) ∧ w'.cell? ⟨gb102, 2, none⟩ = some (.int .i64 a1_2)) (ds := []) (bm 36 0) (by kernel_rfl) rfl rfl ⟨(blk_cell BK101.out 0).trans rfl, (blk_cell BK101.out 1).trans rfl, (blk_cell BK101.out 2).trans rfl, (blk_cell BK102.out 0).trans rfl, (blk_cell BK102.out 1).trans rfl, (blk_cell BK102.out 2).trans rfl⟩ (fun hHeld => ?_); refine with_tabW impl_CrossOf.tab3 impl_CrossOf.bits3 (fun HT_ HW_ => ?_)
   generalize w18.drew = w19 at HO106 BK101 BK102 BK103 HB hHeld ⊢
   refine plan_ ((0, 0, 15, 1) :: (0, 2, 17, 5) :: (0, 5, 20, 37) :: (0, 7, 22, 165) :: (0, 11, 26, 2213) :: (0, 13, 28, 10405) :: (0, 16, 31, 75941) :: (0, 18, 33, 338085) :: (0, 22, 37, 4532389) :: (0, 24, 39, 21309605) :: (0, 27, 42, 155527333) :: (0, 29, 44, 692398245) :: (2, 1, 16, 692398247) :: (2, 3, 18, 692398255) :: (0, 4, 19, 692398271) :: (2, 6, 21, 692398335) :: (2, 8, 23, 692398591) :: (0, 9, 24, 692399103) :: (0, 10, 25, 692400127) :: (0, 33, 5, 9282334719) :: (2, 12, 27, 9282338815) :: (2, 14, 29, 9282355199) :: (0, 15, 30, 9282387967) :: (2, 17, 32, 9282519039) :: (2, 19, 34, 9283043327) :: (0, 20, 35, 9284091903) :: (0, 21, 36, 9286189055) :: (0, 34, 6, 26466058239) :: (2, 23, 38, 26474446847) :: (2, 25, 40, 26508001279) :: (0, 26, 41, 26575110143) :: (2, 28, 43, 26843545599) :: (2, 30, 45, 27917287423) :: (0, 31, 46, 30064771071) :: (0, 32, 47, 34359738367) :: (0, 35, 7, 68719476735) :: []) ?_
   iterate 36 (first | (refine planV_ ?_ ?_ rfl rfl (any_of HT_.out (by kernel_rfl)) (fun _ _ _ h => h) (Or.inl ⟨by rfl, ?_⟩) ?_ ?_; rotate_left 2; (· intro w'; go_simp; with_reducible rfl); (· simp only [Act.put, List.setIfInBounds_toArray, List.set_cons_zero, List.set_cons_succ, i64_w, i32_w]; rfl)) | (refine planT_ ?_ ?_ rfl rfl (take_ofW HT_.out HW_.out (by kernel_rfl)) (fun _ _ _ h => h) (Or.inl ⟨by rfl, ?_⟩) hHeld ?_ ?_; rotate_left 2; (· rintro w' ⟨s0, s1, s2, s3, s4, s5⟩; go_simp; with_reducible rfl); (· simp only [Act.put, List.setIfInBounds_toArray, List.set_cons_zero, List.set_cons_succ, i64_w, i32_w]; rfl)))
   refine planEnd_ ?_
   refine done_ (done_of HT_.out (by kernel_rfl)) ?_
   try go_wp2_with (first | ((with_reducible refine gate_dst (N := 51) rfl ?_); refine Kd.R_lit (Kd.int .i64) _ 3 ?hg (N := 51) ?hd (xs := ([wrap64 ((wrap64 (a0_1 * a1_2)) - (wrap64 (a0_2 * a1_1))), wrap64 ((wrap64 (a0_2 * a1_0)) - (wrap64 (a0_0 * a1_2))), wrap64 ((wrap64 (a0_0 * a1_1)) - (wrap64 (a0_1 * a1_0)))] : List Int)) (inner := [.int .i64 (wrap64 ((wrap64 (a0_1 * a1_2)) - (wrap64 (a0_2 * a1_1)))), .int .i64 (wrap64 ((wrap64 (a0_2 * a1_0)) - (wrap64 (a0_0 * a1_2)))), .int .i64 (wrap64 ((wrap64 (a0_0 * a1_1)) - (wrap64 (a0_1 * a1_0))))]) (ok := fun _ => True) (okp := fun _ => True) ?hr ?hp (fun _ hk => hk) trivial (Below.refl _ _) (Nat.le_refl _) (by simp) ?_; (case hd => rfl); (case hg => rfl); (case hr => first | (go_simp; done) | (go_simp; rfl)); (case hp => exact (Reps.one (show Kd.M (Kd.int .i64) _ _ _ (wrap64 ((wrap64 (a0_1 * a1_2)) - (wrap64 (a0_2 * a1_1)))) [.int .i64 (wrap64 ((wrap64 (a0_1 * a1_2)) - (wrap64 (a0_2 * a1_1))))] from rfl) (Reps.one (show Kd.M (Kd.int .i64) _ _ _ (wrap64 ((wrap64 (a0_2 * a1_0)) - (wrap64 (a0_0 * a1_2)))) [.int .i64 (wrap64 ((wrap64 (a0_2 * a1_0)) - (wrap64 (a0_0 * a1_2))))] from rfl) (Reps.one (show Kd.M (Kd.int .i64) _ _ _ (wrap64 ((wrap64 (a0_0 * a1_1)) - (wrap64 (a0_1 * a1_0)))) [.int .i64 (wrap64 ((wrap64 (a0_0 * a1_1)) - (wrap64 (a0_1 * a1_0))))] from rfl) (Reps.none _ _))))); intro v109 w20 ho21 hb hg_ hnew_; clear hg_ hnew_; (first | rw [← Ny108.out] at ho21 | (simp only [Int.reduceToNat] at ho21; rw [← Ny108.out] at ho21)); have n0_ := Aside0.mk (Kd.R_below (by (with_reducible repeat (first | apply Kd.R_alloc | apply Kd.R_drewN | apply Kd.R_drew)); exact HO106.out) hb); have n1_ := Aside0.mk (Kd.R_lower ho21 (below_size (by repeat (first | (with_reducible first | exact HB.out | apply below_alloc | apply pw_below_drewN | apply below_drew1 | refine below_set ?_ GE101.out | refine below_set ?_ GE102.out | refine below_set ?_ GE103.out) | exact HB.out)))); have n2_ := Aside0.mk (blk_below (g := gb101) (o := .cells #[.int .i64 a0_0, .int .i64 a0_1, .int .i64 a0_2] 72 (0, 0)) (by (with_reducible repeat (first | refine blk_drewN ?_ _ | refine blk_drew ?_ | refine blk_alloc ?_ _)); exact BK101.out) hb); have n3_ := Aside0.mk (blk_below (g := gb102) (o := .cells #[.int .i64 a1_0, .int .i64 a1_1, .int .i64 a1_2] 72 (0, 0)) (by (with_reducible repeat (first | refine blk_drewN ?_ _ | refine blk_drew ?_ | refine blk_alloc ?_ _)); exact BK102.out) hb); have n4_ := Aside0.mk (blk_below (g := gb103) (o := .cells #[.int .i64 0, .int .i64 0, .int .i64 0] 72 (0, 0)) (by (with_reducible repeat (first | refine blk_drewN ?_ _ | refine blk_drew ?_ | refine blk_alloc ?_ _)); exact BK103.out) hb); have n5_ := Aside0.mk (below_step (by repeat (first | (with_reducible first | exact HB.out | apply below_alloc | apply pw_below_drewN | apply below_drew1 | refine below_set ?_ GE101.out | refine below_set ?_ GE102.out | refine below_set ?_ GE103.out) | exact HB.out)) hb); clear HO106; clear BK101; clear BK102; clear BK103; clear HB; have HO106 := n0_; have HO110 := n1_; have BK101 := n2_; have BK102 := n3_; have BK103 := n4_; have HB := n5_; clear n0_ n1_ n2_ n3_ n4_ n5_; clear hb ho21; obtain ⟨Ao22, co22, eo22⟩ := Kd.R_slice HO110.out; subst eo22) | ((with_reducible refine gate_callee (f := 103) rfl ?_); refine goesL_ (some 52) rfl rfl Try.func103 (by kernel_rfl) rfl #[.slice Ao22 y108.length co22] rfl (by (try simp only [List.map_toArray, List.map_cons, List.map_nil]); first | done | rfl | (simp only [List.length_drop, List.length_take]; rfl)) ?_; (with_reducible refine (impl_divisor.calls k _ _ y108 t111 _ ?side1 ?side2 A5.out).mono ?_); (case side1 => repeat (first | exact (Kd.R_reads' HO110.out).2.2 | (with_reducible refine Kd.C_alloc ?_ _) | (with_reducible refine Kd.C_drewN ?_ _) | (with_reducible refine Kd.C_drew ?_))); (case side2 => exact (Kd.R_reads' HO110.out).2.1); rintro e w23 ⟨rfl, hb⟩; refine ⟨_, rfl, ?_⟩; have n0_ := Aside0.mk (Kd.R_below (by (with_reducible repeat (first | apply Kd.R_alloc | apply Kd.R_drewN | apply Kd.R_drew)); exact HO106.out) hb); have n1_ := Aside0.mk (Kd.R_below (by (with_reducible repeat (first | apply Kd.R_alloc | apply Kd.R_drewN | apply Kd.R_drew)); exact HO110.out) hb); have n2_ := Aside0.mk (blk_below (g := gb101) (o := .cells #[.int .i64 a0_0, .int .i64 a0_1, .int .i64 a0_2] 72 (0, 0)) (by (with_reducible repeat (first | refine blk_drewN ?_ _ | refine blk_drew ?_ | refine blk_alloc ?_ _)); exact BK101.out) hb); have n3_ := Aside0.mk (blk_below (g := gb102) (o := .cells #[.int .i64 a1_0, .int .i64 a1_1, .int .i64 a1_2] 72 (0, 0)) (by (with_reducible repeat (first | refine blk_drewN ?_ _ | refine blk_drew ?_ | refine blk_alloc ?_ _)); exact BK102.out) hb); have n4_ := Aside0.mk (blk_below (g := gb103) (o := .cells #[.int .i64 0, .int .i64 0, .int .i64 0] 72 (0, 0)) (by (with_reducible repeat (first | refine blk_drewN ?_ _ | refine blk_drew ?_ | refine blk_alloc ?_ _)); exact BK103.out) hb); have n5_ := Aside0.mk (below_step (by repeat (first | (with_reducible first | exact HB.out | apply below_alloc | apply pw_below_drewN | apply below_drew1 | refine below_set ?_ GE101.out | refine below_set ?_ GE102.out | refine below_set ?_ GE103.out) | exact HB.out)) hb); clear HO106; clear HO110; clear BK101; clear BK102; clear BK103; clear HB; have HO106 := n0_; have HO110 := n1_; have BK101 := n2_; have BK102 := n3_; have BK103 := n4_; have HB := n5_; clear n0_ n1_ n2_ n3_ n4_ n5_; (try clear hb); (try clear hb2); (try clear hk); (try clear hi); have hcz24_0 : w23.cell? ⟨gb103, 0, none⟩ = some (.int .i64 0) := (blk_cell BK103.out 0).trans rfl; have hcz24_1 : w23.cell? ⟨gb103, 1, none⟩ = some (.int .i64 0) := (blk_cell BK103.out 1).trans rfl; have hcz24_2 : w23.cell? ⟨gb103, 2, none⟩ = some (.int .i64 0) := (blk_cell BK103.out 2).trans rfl; have hfz24_0 := blk_frozen BK103.out 0; have hfz24_1 := blk_frozen BK103.out 1; have hfz24_2 := blk_frozen BK103.out 2))
   refine bodyPost_ret (results_cell_row rfl _ _ gb103 72 #[.int .i64 0, .int .i64 0, .int .i64 0] (0, 0) _ rfl (by (with_reducible repeat (first | refine blk_drewN ?_ _ | refine blk_drew ?_ | refine blk_alloc ?_ _)); refine blk_put (cs := #[.int .i64 0, .int .i64 0, .int .i64 0]) ?_ 2 _ rfl; (with_reducible repeat (first | refine blk_drewN ?_ _ | refine blk_drew ?_ | refine blk_alloc ?_ _)); refine blk_put (cs := #[.int .i64 0, .int .i64 0, .int .i64 0]) ?_ 1 _ rfl; (with_reducible repeat (first | refine blk_drewN ?_ _ | refine blk_drew ?_ | refine blk_alloc ?_ _)); refine blk_put (cs := #[.int .i64 0, .int .i64 0, .int .i64 0]) ?_ 0 _ rfl; (with_reducible repeat (first | refine blk_drewN ?_ _ | refine blk_drew ?_ | refine blk_alloc ?_ _)); exact BK103.out) Try.underlying72 rfl (by kernel_rfl)) rfl ?_
   exact ⟨by first | rfl | (simp [errW_none, errW_some] <;> rfl) | (simp [*, errW_none, errW_some] <;> rfl), by repeat (first | (with_reducible first | exact HB.out | apply below_alloc | apply pw_below_drewN | apply below_drew1 | refine below_set ?_ GE101.out | refine below_set ?_ GE102.out | refine below_set ?_ GE103.out) | exact HB.out)⟩
  ·rw [if_neg c6] at H
   have c6b0 : (t111 == 0) = false := beq_eq_false_iff_ne.mpr c6
   have c6b1 : (t111 != 0) = true := bne_iff_ne.mpr c6
   simp only [Option.some.injEq, Prod.mk.injEq] at H
   obtain ⟨rfl, rfl, rfl⟩ := H
   go_enter Try.func77, Try.ntmps77
   try go_wp2_with (first | ((with_reducible refine gate_dst (N := 2) rfl ?_); refine box_event ?hg (N := 2) ?hd (cs := #[.int .i64 a0_0, .int .i64 a0_1, .int .i64 a0_2]) (t := 72) ?hr ?_; (case hd => rfl); (case hg => rfl); (case hr => first | (go_simp; done) | (go_simp; rfl)); intro gb101 hg w25 hbox hb; have n0_ := Aside0.mk (below_step (by repeat (first | (with_reducible first | exact HB.out | apply below_alloc | apply pw_below_drewN | apply below_drew1) | exact HB.out)) hb); have n1_ := Aside0.mk (hbox); have n2_ := Aside0.mk ((by rw [hg]; exact (below_size (by repeat (first | (with_reducible first | exact HB.out | apply below_alloc | apply pw_below_drewN | apply below_drew1) | exact HB.out))) : w.heap.size ≤ gb101)); have n3_ := Aside0.mk ((by rw [hg]; exact (below_size (by repeat (first | (with_reducible first | exact HB.out | apply below_alloc | apply pw_below_drewN | apply below_drew1) | exact HB.out))) : w.heap.size ≤ gb101)); clear HB; have HB := n0_; have BK101 := n1_; have GW101 := n2_; have GE101 := n3_; clear n0_ n1_ n2_ n3_; clear hb hbox hg) | ((with_reducible refine gate_dst (N := 3) rfl ?_); refine box_event ?hg (N := 3) ?hd (cs := #[.int .i64 a1_0, .int .i64 a1_1, .int .i64 a1_2]) (t := 72) ?hr ?_; (case hd => rfl); (case hg => rfl); (case hr => first | (go_simp; done) | (go_simp; rfl)); intro gb102 hg w26 hbox hb; have n0_ := Aside0.mk (blk_below (g := gb101) (o := .cells #[.int .i64 a0_0, .int .i64 a0_1, .int .i64 a0_2] 72 (0, 0)) (by (with_reducible repeat (first | refine blk_drewN ?_ _ | refine blk_drew ?_ | refine blk_alloc ?_ _)); exact BK101.out) hb); have n1_ := Aside0.mk (below_step (by repeat (first | (with_reducible first | exact HB.out | apply below_alloc | apply pw_below_drewN | apply below_drew1 | refine below_set ?_ GE101.out) | exact HB.out)) hb); have n2_ := Aside0.mk (hbox); have n3_ := Aside0.mk ((by rw [hg]; exact (below_size (by repeat (first | (with_reducible first | exact HB.out | apply below_alloc | apply pw_below_drewN | apply below_drew1 | refine below_set ?_ GE101.out) | exact HB.out))) : w.heap.size ≤ gb102)); have n4_ := Aside0.mk ((by rw [hg]; exact (below_size (by repeat (first | (with_reducible first | exact HB.out | apply below_alloc | apply pw_below_drewN | apply below_drew1 | refine below_set ?_ GE101.out) | exact HB.out))) : w.heap.size ≤ gb102)); have n5_ := Aside0.mk ((by rw [hg]; exact Nat.ne_of_lt (blk_lt (g := gb101) (o := .cells #[.int .i64 a0_0, .int .i64 a0_1, .int .i64 a0_2] 72 (0, 0)) (by (with_reducible repeat (first | refine blk_drewN ?_ _ | refine blk_drew ?_ | refine blk_alloc ?_ _)); exact BK101.out)) : gb101 ≠ gb102)); have n6_ := Aside0.mk ((by rw [hg]; exact Nat.ne_of_gt (blk_lt (g := gb101) (o := .cells #[.int .i64 a0_0, .int .i64 a0_1, .int .i64 a0_2] 72 (0, 0)) (by (with_reducible repeat (first | refine blk_drewN ?_ _ | refine blk_drew ?_ | refine blk_alloc ?_ _)); exact BK101.out)) : gb102 ≠ gb101)); clear BK101; clear HB; have BK101 := n0_; have HB := n1_; have BK102 := n2_; have GW102 := n3_; have GE102 := n4_; have NB101_102 := n5_; have NB102_101 := n6_; clear n0_ n1_ n2_ n3_ n4_ n5_ n6_; clear hb hbox hg) | ((with_reducible refine gate_dst (N := 4) rfl ?_); refine box_event ?hg (N := 4) ?hd (cs := #[.int .i64 0, .int .i64 0, .int .i64 0]) (t := 72) ?hr ?_; (case hd => rfl); (case hg => rfl); (case hr => first | (go_simp; done) | (go_simp; rfl)); intro gb103 hg w27 hbox hb; have n0_ := Aside0.mk (blk_below (g := gb101) (o := .cells #[.int .i64 a0_0, .int .i64 a0_1, .int .i64 a0_2] 72 (0, 0)) (by (with_reducible repeat (first | refine blk_drewN ?_ _ | refine blk_drew ?_ | refine blk_alloc ?_ _)); exact BK101.out) hb); have n1_ := Aside0.mk (blk_below (g := gb102) (o := .cells #[.int .i64 a1_0, .int .i64 a1_1, .int .i64 a1_2] 72 (0, 0)) (by (with_reducible repeat (first | refine blk_drewN ?_ _ | refine blk_drew ?_ | refine blk_alloc ?_ _)); exact BK102.out) hb); have n2_ := Aside0.mk (below_step (by repeat (first | (with_reducible first | exact HB.out | apply below_alloc | apply pw_below_drewN | apply below_drew1 | refine below_set ?_ GE101.out | refine below_set ?_ GE102.out) | exact HB.out)) hb); have n3_ := Aside0.mk (hbox); have n4_ := Aside0.mk ((by rw [hg]; exact (below_size (by repeat (first | (with_reducible first | exact HB.out | apply below_alloc | apply pw_below_drewN | apply below_drew1 | refine below_set ?_ GE101.out | refine below_set ?_ GE102.out) | exact HB.out))) : w.heap.size ≤ gb103)); have n5_ := Aside0.mk ((by rw [hg]; exact (below_size (by repeat (first | (with_reducible first | exact HB.out | apply below_alloc | apply pw_below_drewN | apply below_drew1 | refine below_set ?_ GE101.out | refine below_set ?_ GE102.out) | exact HB.out))) : w.heap.size ≤ gb103)); have n6_ := Aside0.mk ((by rw [hg]; exact Nat.ne_of_lt (blk_lt (g := gb101) (o := .cells #[.int .i64 a0_0, .int .i64 a0_1, .int .i64 a0_2] 72 (0, 0)) (by (with_reducible repeat (first | refine blk_drewN ?_ _ | refine blk_drew ?_ | refine blk_alloc ?_ _)); exact BK101.out)) : gb101 ≠ gb103)); have n7_ := Aside0.mk ((by rw [hg]; exact Nat.ne_of_gt (blk_lt (g := gb101) (o := .cells #[.int .i64 a0_0, .int .i64 a0_1, .int .i64 a0_2] 72 (0, 0)) (by (with_reducible repeat (first | refine blk_drewN ?_ _ | refine blk_drew ?_ | refine blk_alloc ?_ _)); exact BK101.out)) : gb103 ≠ gb101)); have n8_ := Aside0.mk ((by rw [hg]; exact Nat.ne_of_lt (blk_lt (g := gb102) (o := .cells #[.int .i64 a1_0, .int .i64 a1_1, .int .i64 a1_2] 72 (0, 0)) (by (with_reducible repeat (first | refine blk_drewN ?_ _ | refine blk_drew ?_ | refine blk_alloc ?_ _)); exact BK102.out)) : gb102 ≠ gb103)); have n9_ := Aside0.mk ((by rw [hg]; exact Nat.ne_of_gt (blk_lt (g := gb102) (o := .cells #[.int .i64 a1_0, .int .i64 a1_1, .int .i64 a1_2] 72 (0, 0)) (by (with_reducible repeat (first | refine blk_drewN ?_ _ | refine blk_drew ?_ | refine blk_alloc ?_ _)); exact BK102.out)) : gb103 ≠ gb102)); clear BK101; clear BK102; clear HB; have BK101 := n0_; have BK102 := n1_; have HB := n2_; have BK103 := n3_; have GW103 := n4_; have GE103 := n5_; have NB101_103 := n6_; have NB103_101 := n7_; have NB102_103 := n8_; have NB103_102 := n9_; clear n0_ n1_ n2_ n3_ n4_ n5_ n6_ n7_ n8_ n9_; clear hb hbox hg; have hnb28 := NB101_102.out; have hnc28 := NB102_101.out; have hnb29 := NB101_103.out; have hnc29 := NB103_101.out; have hcz30_0 : w27.cell? ⟨gb101, 0, none⟩ = some (.int .i64 a0_0) := (blk_cell BK101.out 0).trans rfl; have hcz30_1 : w27.cell? ⟨gb101, 1, none⟩ = some (.int .i64 a0_1) := (blk_cell BK101.out 1).trans rfl; have hcz30_2 : w27.cell? ⟨gb101, 2, none⟩ = some (.int .i64 a0_2) := (blk_cell BK101.out 2).trans rfl; have hfz30_0 := blk_frozen BK101.out 0; have hfz30_1 := blk_frozen BK101.out 1; have hfz30_2 := blk_frozen BK101.out 2; have hnb31 := NB102_103.out; have hnc31 := NB103_102.out; have hcz32_0 : w27.cell? ⟨gb102, 0, none⟩ = some (.int .i64 a1_0) := (blk_cell BK102.out 0).trans rfl; have hcz32_1 : w27.cell? ⟨gb102, 1, none⟩ = some (.int .i64 a1_1) := (blk_cell BK102.out 1).trans rfl; have hcz32_2 : w27.cell? ⟨gb102, 2, none⟩ = some (.int .i64 a1_2) := (blk_cell BK102.out 2).trans rfl; have hfz32_0 := blk_frozen BK102.out 0; have hfz32_1 := blk_frozen BK102.out 1; have hfz32_2 := blk_frozen BK102.out 2) | ((with_reducible refine gate_dst (N := 11) rfl ?_); refine Kd.R_lit k72 _ 72 ?hg (N := 11) ?hd (xs := ([(⟨a0_0, a0_1, a0_2⟩ : S72), (⟨a1_0, a1_1, a1_2⟩ : S72)] : List (S72))) (inner := [.int .i64 a0_0, .int .i64 a0_1, .int .i64 a0_2, .int .i64 a1_0, .int .i64 a1_1, .int .i64 a1_2]) (ok := fun _ => True) (okp := fun _ => True) ?hr ?hp (fun _ hk => hk) trivial (Below.refl _ _) (Nat.le_refl _) (by simp) ?_; (case hd => rfl); (case hg => rfl); (case hr => first | (go_simp; done) | (go_simp; rfl)); (case hp => exact (Reps.c3 (show Kd.M k72 _ _ _ (⟨a0_0, a0_1, a0_2⟩ : S72) [.int .i64 a0_0, .int .i64 a0_1, .int .i64 a0_2] from (k72_mkM _ _ _ (⟨a0_0, a0_1, a0_2⟩ : S72) )) (Reps.c3 (show Kd.M k72 _ _ _ (⟨a1_0, a1_1, a1_2⟩ : S72) [.int .i64 a1_0, .int .i64 a1_1, .int .i64 a1_2] from (k72_mkM _ _ _ (⟨a1_0, a1_1, a1_2⟩ : S72) )) (Reps.none _ _)))); intro v105 w33 ho34 hb hg_ hnew_; clear hg_ hnew_; (first | rw [← Ny104.out] at ho34 | (simp only [Int.reduceToNat] at ho34; rw [← Ny104.out] at ho34)); have n0_ := Aside0.mk (Kd.R_lower (Kd.R_newB (Kd.R_newB (Kd.R_newB ho34 (g := gb101) (o := .cells #[.int .i64 a0_0, .int .i64 a0_1, .int .i64 a0_2] 72 (0, 0)) (by (with_reducible repeat (first | refine blk_drewN ?_ _ | refine blk_drew ?_ | refine blk_alloc ?_ _)); exact BK101.out)) (g := gb102) (o := .cells #[.int .i64 a1_0, .int .i64 a1_1, .int .i64 a1_2] 72 (0, 0)) (by (with_reducible repeat (first | refine blk_drewN ?_ _ | refine blk_drew ?_ | refine blk_alloc ?_ _)); exact BK102.out)) (g := gb103) (o := .cells #[.int .i64 0, .int .i64 0, .int .i64 0] 72 (0, 0)) (by (with_reducible repeat (first | refine blk_drewN ?_ _ | refine blk_drew ?_ | refine blk_alloc ?_ _)); exact BK103.out)) (below_size (by repeat (first | (with_reducible first | exact HB.out | apply below_alloc | apply pw_below_drewN | apply below_drew1 | refine below_set ?_ GE101.out | refine below_set ?_ GE102.out | refine below_set ?_ GE103.out) | exact HB.out)))); have n1_ := Aside0.mk (blk_below (g := gb101) (o := .cells #[.int .i64 a0_0, .int .i64 a0_1, .int .i64 a0_2] 72 (0, 0)) (by (with_reducible repeat (first | refine blk_drewN ?_ _ | refine blk_drew ?_ | refine blk_alloc ?_ _)); exact BK101.out) hb); have n2_ := Aside0.mk (blk_below (g := gb102) (o := .cells #[.int .i64 a1_0, .int .i64 a1_1, .int .i64 a1_2] 72 (0, 0)) (by (with_reducible repeat (first | refine blk_drewN ?_ _ | refine blk_drew ?_ | refine blk_alloc ?_ _)); exact BK102.out) hb); have n3_ := Aside0.mk (blk_below (g := gb103) (o := .cells #[.int .i64 0, .int .i64 0, .int .i64 0] 72 (0, 0)) (by (with_reducible repeat (first | refine blk_drewN ?_ _ | refine blk_drew ?_ | refine blk_alloc ?_ _)); exact BK103.out) hb); have n4_ := Aside0.mk (below_step (by repeat (first | (with_reducible first | exact HB.out | apply below_alloc | apply pw_below_drewN | apply below_drew1 | refine below_set ?_ GE101.out | refine below_set ?_ GE102.out | refine below_set ?_ GE103.out) | exact HB.out)) hb); clear BK101; clear BK102; clear BK103; clear HB; have HO106 := n0_; have BK101 := n1_; have BK102 := n2_; have BK103 := n3_; have HB := n4_; clear n0_ n1_ n2_ n3_ n4_; clear hb ho34; obtain ⟨Ao35, co35, eo35⟩ := Kd.R_slice HO106.out; subst eo35) | ((with_reducible refine gate_callee (f := 136) rfl ?_); refine goesL_ (some 12) rfl rfl Try.func136 (by kernel_rfl) rfl #[.int .i64 1000000, .slice Ao35 y104.length co35] rfl (by (try simp only [List.map_toArray, List.map_cons, List.map_nil]); first | done | rfl | (simp only [List.length_drop, List.length_take]; rfl)) ?_; (with_reducible refine (impl_isLimited.calls 1000000 _ _ y104 true _ ?side1 ?side2 A3.out).mono ?_); (case side1 => repeat (first | exact (Kd.R_reads' HO106.out).2.2 | (with_reducible refine Kd.C_alloc ?_ _) | (with_reducible refine Kd.C_drewN ?_ _) | (with_reducible refine Kd.C_drew ?_))); (case side2 => exact (Kd.R_reads' HO106.out).2.1); rintro e w36 ⟨rfl, hb⟩; refine ⟨_, rfl, ?_⟩; have n0_ := Aside0.mk (Kd.R_below (by (with_reducible repeat (first | apply Kd.R_alloc | apply Kd.R_drewN | apply Kd.R_drew)); exact HO106.out) hb); have n1_ := Aside0.mk (blk_below (g := gb101) (o := .cells #[.int .i64 a0_0, .int .i64 a0_1, .int .i64 a0_2] 72 (0, 0)) (by (with_reducible repeat (first | refine blk_drewN ?_ _ | refine blk_drew ?_ | refine blk_alloc ?_ _)); exact BK101.out) hb); have n2_ := Aside0.mk (blk_below (g := gb102) (o := .cells #[.int .i64 a1_0, .int .i64 a1_1, .int .i64 a1_2] 72 (0, 0)) (by (with_reducible repeat (first | refine blk_drewN ?_ _ | refine blk_drew ?_ | refine blk_alloc ?_ _)); exact BK102.out) hb); have n3_ := Aside0.mk (blk_below (g := gb103) (o := .cells #[.int .i64 0, .int .i64 0, .int .i64 0] 72 (0, 0)) (by (with_reducible repeat (first | refine blk_drewN ?_ _ | refine blk_drew ?_ | refine blk_alloc ?_ _)); exact BK103.out) hb); have n4_ := Aside0.mk (below_step (by repeat (first | (with_reducible first | exact HB.out | apply below_alloc | apply pw_below_drewN | apply below_drew1 | refine below_set ?_ GE101.out | refine below_set ?_ GE102.out | refine below_set ?_ GE103.out) | exact HB.out)) hb); clear HO106; clear BK101; clear BK102; clear BK103; clear HB; have HO106 := n0_; have BK101 := n1_; have BK102 := n2_; have BK103 := n3_; have HB := n4_; clear n0_ n1_ n2_ n3_ n4_; (try clear hb); (try clear hb2); (try clear hk); (try clear hi)))
   have n0_ := Aside0.mk (Kd.R_drew HO106.out)
   have n1_ := Aside0.mk (blk_drew BK101.out)
   have n2_ := Aside0.mk (blk_drew BK102.out)
   have n3_ := Aside0.mk (blk_drew BK103.out)
   have n4_ := Aside0.mk (below_drew1 HB.out)
   clear HO106
   clear BK101
   clear BK102
   clear BK103
   clear HB
   have HO106 := n0_
   have BK101 := n1_
   have BK102 := n2_
   have BK103 := n3_
   have HB := n4_
   clear n0_ n1_ n2_ n3_ n4_
   refine start_ (n := 36) (S := fun w' => w'.cell? ⟨gb101, 0, none⟩ = some (.int .i64 a0_0) ∧ w'.cell? ⟨gb101, 1, none⟩ = some (.int .i64 a0_1) ∧ w'.cell? ⟨gb101, 2, none⟩ = some (.int .i64 a0_2) ∧ w'.cell? ⟨gb102, 0, none⟩ = some (.int .i64 a1_0) ∧ w'.cell? ⟨gb102, 1, none⟩ = some (.int .i64 a1_1) ∧ w'.cell? ⟨gb102, 2, none⟩ = some (.int .i64 a1_2)) (ds := []) (bm 36 0) (by kernel_rfl) rfl rfl ⟨(blk_cell BK101.out 0).trans rfl, (blk_cell BK101.out 1).trans rfl, (blk_cell BK101.out 2).trans rfl, (blk_cell BK102.out 0).trans rfl, (blk_cell BK102.out 1).trans rfl, (blk_cell BK102.out 2).trans rfl⟩ (fun hHeld => ?_); refine with_tabW impl_CrossOf.tab3 impl_CrossOf.bits3 (fun HT_ HW_ => ?_)
   generalize w36.drew = w37 at HO106 BK101 BK102 BK103 HB hHeld ⊢
   refine plan_ ((0, 0, 15, 1) :: (0, 2, 17, 5) :: (0, 5, 20, 37) :: (0, 7, 22, 165) :: (0, 11, 26, 2213) :: (0, 13, 28, 10405) :: (0, 16, 31, 75941) :: (0, 18, 33, 338085) :: (0, 22, 37, 4532389) :: (0, 24, 39, 21309605) :: (0, 27, 42, 155527333) :: (0, 29, 44, 692398245) :: (2, 1, 16, 692398247) :: (2, 3, 18, 692398255) :: (0, 4, 19, 692398271) :: (2, 6, 21, 692398335) :: (2, 8, 23, 692398591) :: (0, 9, 24, 692399103) :: (0, 10, 25, 692400127) :: (0, 33, 5, 9282334719) :: (2, 12, 27, 9282338815) :: (2, 14, 29, 9282355199) :: (0, 15, 30, 9282387967) :: (2, 17, 32, 9282519039) :: (2, 19, 34, 9283043327) :: (0, 20, 35, 9284091903) :: (0, 21, 36, 9286189055) :: (0, 34, 6, 26466058239) :: (2, 23, 38, 26474446847) :: (2, 25, 40, 26508001279) :: (0, 26, 41, 26575110143) :: (2, 28, 43, 26843545599) :: (2, 30, 45, 27917287423) :: (0, 31, 46, 30064771071) :: (0, 32, 47, 34359738367) :: (0, 35, 7, 68719476735) :: []) ?_
   iterate 36 (first | (refine planV_ ?_ ?_ rfl rfl (any_of HT_.out (by kernel_rfl)) (fun _ _ _ h => h) (Or.inl ⟨by rfl, ?_⟩) ?_ ?_; rotate_left 2; (· intro w'; go_simp; with_reducible rfl); (· simp only [Act.put, List.setIfInBounds_toArray, List.set_cons_zero, List.set_cons_succ, i64_w, i32_w]; rfl)) | (refine planT_ ?_ ?_ rfl rfl (take_ofW HT_.out HW_.out (by kernel_rfl)) (fun _ _ _ h => h) (Or.inl ⟨by rfl, ?_⟩) hHeld ?_ ?_; rotate_left 2; (· rintro w' ⟨s0, s1, s2, s3, s4, s5⟩; go_simp; with_reducible rfl); (· simp only [Act.put, List.setIfInBounds_toArray, List.set_cons_zero, List.set_cons_succ, i64_w, i32_w]; rfl)))
   refine planEnd_ ?_
   refine done_ (done_of HT_.out (by kernel_rfl)) ?_
   try go_wp2_with (first | ((with_reducible refine gate_dst (N := 51) rfl ?_); refine Kd.R_lit (Kd.int .i64) _ 3 ?hg (N := 51) ?hd (xs := ([wrap64 ((wrap64 (a0_1 * a1_2)) - (wrap64 (a0_2 * a1_1))), wrap64 ((wrap64 (a0_2 * a1_0)) - (wrap64 (a0_0 * a1_2))), wrap64 ((wrap64 (a0_0 * a1_1)) - (wrap64 (a0_1 * a1_0)))] : List Int)) (inner := [.int .i64 (wrap64 ((wrap64 (a0_1 * a1_2)) - (wrap64 (a0_2 * a1_1)))), .int .i64 (wrap64 ((wrap64 (a0_2 * a1_0)) - (wrap64 (a0_0 * a1_2)))), .int .i64 (wrap64 ((wrap64 (a0_0 * a1_1)) - (wrap64 (a0_1 * a1_0))))]) (ok := fun _ => True) (okp := fun _ => True) ?hr ?hp (fun _ hk => hk) trivial (Below.refl _ _) (Nat.le_refl _) (by simp) ?_; (case hd => rfl); (case hg => rfl); (case hr => first | (go_simp; done) | (go_simp; rfl)); (case hp => exact (Reps.one (show Kd.M (Kd.int .i64) _ _ _ (wrap64 ((wrap64 (a0_1 * a1_2)) - (wrap64 (a0_2 * a1_1)))) [.int .i64 (wrap64 ((wrap64 (a0_1 * a1_2)) - (wrap64 (a0_2 * a1_1))))] from rfl) (Reps.one (show Kd.M (Kd.int .i64) _ _ _ (wrap64 ((wrap64 (a0_2 * a1_0)) - (wrap64 (a0_0 * a1_2)))) [.int .i64 (wrap64 ((wrap64 (a0_2 * a1_0)) - (wrap64 (a0_0 * a1_2))))] from rfl) (Reps.one (show Kd.M (Kd.int .i64) _ _ _ (wrap64 ((wrap64 (a0_0 * a1_1)) - (wrap64 (a0_1 * a1_0)))) [.int .i64 (wrap64 ((wrap64 (a0_0 * a1_1)) - (wrap64 (a0_1 * a1_0))))] from rfl) (Reps.none _ _))))); intro v109 w38 ho39 hb hg_ hnew_; clear hg_ hnew_; (first | rw [← Ny108.out] at ho39 | (simp only [Int.reduceToNat] at ho39; rw [← Ny108.out] at ho39)); have n0_ := Aside0.mk (Kd.R_below (by (with_reducible repeat (first | apply Kd.R_alloc | apply Kd.R_drewN | apply Kd.R_drew)); exact HO106.out) hb); have n1_ := Aside0.mk (Kd.R_lower ho39 (below_size (by repeat (first | (with_reducible first | exact HB.out | apply below_alloc | apply pw_below_drewN | apply below_drew1 | refine below_set ?_ GE101.out | refine below_set ?_ GE102.out | refine below_set ?_ GE103.out) | exact HB.out)))); have n2_ := Aside0.mk (blk_below (g := gb101) (o := .cells #[.int .i64 a0_0, .int .i64 a0_1, .int .i64 a0_2] 72 (0, 0)) (by (with_reducible repeat (first | refine blk_drewN ?_ _ | refine blk_drew ?_ | refine blk_alloc ?_ _)); exact BK101.out) hb); have n3_ := Aside0.mk (blk_below (g := gb102) (o := .cells #[.int .i64 a1_0, .int .i64 a1_1, .int .i64 a1_2] 72 (0, 0)) (by (with_reducible repeat (first | refine blk_drewN ?_ _ | refine blk_drew ?_ | refine blk_alloc ?_ _)); exact BK102.out) hb); have n4_ := Aside0.mk (blk_below (g := gb103) (o := .cells #[.int .i64 0, .int .i64 0, .int .i64 0] 72 (0, 0)) (by (with_reducible repeat (first | refine blk_drewN ?_ _ | refine blk_drew ?_ | refine blk_alloc ?_ _)); exact BK103.out) hb); have n5_ := Aside0.mk (below_step (by repeat (first | (with_reducible first | exact HB.out | apply below_alloc | apply pw_below_drewN | apply below_drew1 | refine below_set ?_ GE101.out | refine below_set ?_ GE102.out | refine below_set ?_ GE103.out) | exact HB.out)) hb); clear HO106; clear BK101; clear BK102; clear BK103; clear HB; have HO106 := n0_; have HO110 := n1_; have BK101 := n2_; have BK102 := n3_; have BK103 := n4_; have HB := n5_; clear n0_ n1_ n2_ n3_ n4_ n5_; clear hb ho39; obtain ⟨Ao40, co40, eo40⟩ := Kd.R_slice HO110.out; subst eo40) | ((with_reducible refine gate_callee (f := 103) rfl ?_); refine goesL_ (some 52) rfl rfl Try.func103 (by kernel_rfl) rfl #[.slice Ao40 y108.length co40] rfl (by (try simp only [List.map_toArray, List.map_cons, List.map_nil]); first | done | rfl | (simp only [List.length_drop, List.length_take]; rfl)) ?_; (with_reducible refine (impl_divisor.calls k _ _ y108 t111 _ ?side1 ?side2 A5.out).mono ?_); (case side1 => repeat (first | exact (Kd.R_reads' HO110.out).2.2 | (with_reducible refine Kd.C_alloc ?_ _) | (with_reducible refine Kd.C_drewN ?_ _) | (with_reducible refine Kd.C_drew ?_))); (case side2 => exact (Kd.R_reads' HO110.out).2.1); rintro e w41 ⟨rfl, hb⟩; refine ⟨_, rfl, ?_⟩; have n0_ := Aside0.mk (Kd.R_below (by (with_reducible repeat (first | apply Kd.R_alloc | apply Kd.R_drewN | apply Kd.R_drew)); exact HO106.out) hb); have n1_ := Aside0.mk (Kd.R_below (by (with_reducible repeat (first | apply Kd.R_alloc | apply Kd.R_drewN | apply Kd.R_drew)); exact HO110.out) hb); have n2_ := Aside0.mk (blk_below (g := gb101) (o := .cells #[.int .i64 a0_0, .int .i64 a0_1, .int .i64 a0_2] 72 (0, 0)) (by (with_reducible repeat (first | refine blk_drewN ?_ _ | refine blk_drew ?_ | refine blk_alloc ?_ _)); exact BK101.out) hb); have n3_ := Aside0.mk (blk_below (g := gb102) (o := .cells #[.int .i64 a1_0, .int .i64 a1_1, .int .i64 a1_2] 72 (0, 0)) (by (with_reducible repeat (first | refine blk_drewN ?_ _ | refine blk_drew ?_ | refine blk_alloc ?_ _)); exact BK102.out) hb); have n4_ := Aside0.mk (blk_below (g := gb103) (o := .cells #[.int .i64 0, .int .i64 0, .int .i64 0] 72 (0, 0)) (by (with_reducible repeat (first | refine blk_drewN ?_ _ | refine blk_drew ?_ | refine blk_alloc ?_ _)); exact BK103.out) hb); have n5_ := Aside0.mk (below_step (by repeat (first | (with_reducible first | exact HB.out | apply below_alloc | apply pw_below_drewN | apply below_drew1 | refine below_set ?_ GE101.out | refine below_set ?_ GE102.out | refine below_set ?_ GE103.out) | exact HB.out)) hb); clear HO106; clear HO110; clear BK101; clear BK102; clear BK103; clear HB; have HO106 := n0_; have HO110 := n1_; have BK101 := n2_; have BK102 := n3_; have BK103 := n4_; have HB := n5_; clear n0_ n1_ n2_ n3_ n4_ n5_; (try clear hb); (try clear hb2); (try clear hk); (try clear hi)))
   have n0_ := Aside0.mk (Kd.R_drew HO106.out)
   have n1_ := Aside0.mk (Kd.R_drew HO110.out)
   have n2_ := Aside0.mk (blk_drew BK101.out)
   have n3_ := Aside0.mk (blk_drew BK102.out)
   have n4_ := Aside0.mk (blk_drew BK103.out)
   have n5_ := Aside0.mk (below_drew1 HB.out)
   clear HO106
   clear HO110
   clear BK101
   clear BK102
   clear BK103
   clear HB
   have HO106 := n0_
   have HO110 := n1_
   have BK101 := n2_
   have BK102 := n3_
   have BK103 := n4_
   have HB := n5_
   clear n0_ n1_ n2_ n3_ n4_ n5_
   refine start_ (n := 11) (S := fun w' => True) (ds := []) (bm 11 0) (by kernel_rfl) rfl rfl trivial (fun hHeld => ?_); refine with_tabW impl_CrossOf.tab7 impl_CrossOf.bits7 (fun HT_ HW_ => ?_)
   generalize w41.drew = w42 at HO106 HO110 BK101 BK102 BK103 HB hHeld ⊢
   refine plan_ ((0, 0, 56, 1) :: (0, 1, 57, 3) :: (0, 2, 58, 7) :: (0, 3, 59, 15) :: (0, 4, 60, 31) :: (0, 5, 61, 63) :: (0, 6, 62, 127) :: (0, 7, 63, 255) :: (0, 8, 64, 511) :: (0, 9, 65, 1023) :: []) ?_
   iterate 10 (first | (refine planV_ ?_ ?_ rfl rfl (any_of HT_.out (by kernel_rfl)) (fun _ _ _ h => h) (Or.inl ⟨by rfl, ?_⟩) ?_ ?_; rotate_left 2; (· intro w'; go_simp; with_reducible rfl); (· simp only [Act.put, List.setIfInBounds_toArray, List.set_cons_zero, List.set_cons_succ, i64_w, i32_w]; rfl)))
   refine planEnd_ ?_
   refine one_ (i := 10) (N := none) (bm 11 2047) rfl rfl (one_of HT_.out (by kernel_rfl)) (by decide) (fun K hK => ?_)
   have hs43 : w42.cell? ⟨gb103, 0, none⟩ = some (.int .i64 0) := (blk_cell BK103.out 0).trans rfl
   have hfs43 := blk_frozen BK103.out 0
   have hns43_0 := NB101_103.out
   have hns43_1 := NB102_103.out
   have hms43_0 := NB103_101.out
   have hms43_1 := NB103_102.out
   have hs44 : w42.cell? ⟨gb103, 1, none⟩ = some (.int .i64 0) := (blk_cell BK103.out 1).trans rfl
   have hfs44 := blk_frozen BK103.out 1
   have hns44_0 := NB101_103.out
   have hns44_1 := NB102_103.out
   have hms44_0 := NB103_101.out
   have hms44_1 := NB103_102.out
   have hs45 : w42.cell? ⟨gb103, 2, none⟩ = some (.int .i64 0) := (blk_cell BK103.out 2).trans rfl
   have hfs45 := blk_frozen BK103.out 2
   have hns45_0 := NB101_103.out
   have hns45_1 := NB102_103.out
   have hms45_0 := NB103_101.out
   have hms45_1 := NB103_102.out
   refine skip_ (w1 := ?_) (by rfl) rfl ?_ ?_
   rotate_left
   ·go_simp
    rfl
   refine hK.out _ _ trivial (fun hHeld => ?_)
   clear hK K
   refine done_ (done_of HT_.out (by kernel_rfl)) ?_
   try go_wp2
   refine bodyPost_ret (results_cell_row rfl _ _ gb103 72 #[.int .i64 (wrap64 (Int.tdiv (wrap64 ((wrap64 (a0_1 * a1_2)) - (wrap64 (a0_2 * a1_1)))) t111)), .int .i64 (wrap64 (Int.tdiv (wrap64 ((wrap64 (a0_2 * a1_0)) - (wrap64 (a0_0 * a1_2)))) t111)), .int .i64 (wrap64 (Int.tdiv (wrap64 ((wrap64 (a0_0 * a1_1)) - (wrap64 (a0_1 * a1_0)))) t111))] (0, 0) _ rfl (by (with_reducible repeat (first | refine blk_drewN ?_ _ | refine blk_drew ?_ | refine blk_alloc ?_ _)); refine blk_put (cs := #[.int .i64 (wrap64 (Int.tdiv (wrap64 ((wrap64 (a0_1 * a1_2)) - (wrap64 (a0_2 * a1_1)))) t111)), .int .i64 (wrap64 (Int.tdiv (wrap64 ((wrap64 (a0_2 * a1_0)) - (wrap64 (a0_0 * a1_2)))) t111)), .int .i64 0]) ?_ 2 _ rfl; (with_reducible repeat (first | refine blk_drewN ?_ _ | refine blk_drew ?_ | refine blk_alloc ?_ _)); refine blk_put (cs := #[.int .i64 (wrap64 (Int.tdiv (wrap64 ((wrap64 (a0_1 * a1_2)) - (wrap64 (a0_2 * a1_1)))) t111)), .int .i64 0, .int .i64 0]) ?_ 1 _ rfl; (with_reducible repeat (first | refine blk_drewN ?_ _ | refine blk_drew ?_ | refine blk_alloc ?_ _)); refine blk_put (cs := #[.int .i64 0, .int .i64 0, .int .i64 0]) ?_ 0 _ rfl; (with_reducible repeat (first | refine blk_drewN ?_ _ | refine blk_drew ?_ | refine blk_alloc ?_ _)); exact BK103.out) Try.underlying72 rfl (by kernel_rfl)) rfl ?_
   exact ⟨by first | rfl | (simp [errW_none, errW_some] <;> rfl) | (simp [*, errW_none, errW_some] <;> rfl), by repeat (first | (with_reducible first | exact HB.out | apply below_alloc | apply pw_below_drewN | apply below_drew1 | refine below_set ?_ GE101.out | refine below_set ?_ GE102.out | refine below_set ?_ GE103.out) | exact HB.out)⟩
 ·replace c4 := Bool.eq_false_iff.mpr c4
  subst c4
  have H1 : (some (0, 0, 0)) = some (r1, r2, r3) := by rw [if_neg (show ¬ (false = true) by decide)] at H; exact H
  clear H
  have H := H1
  clear H1
  simp only [Option.some.injEq, Prod.mk.injEq] at H
  obtain ⟨rfl, rfl, rfl⟩ := H
  go_enter Try.func77, Try.ntmps77
  go_wp2_with (first | ((with_reducible refine gate_dst (N := 2) rfl ?_); refine box_event ?hg (N := 2) ?hd (cs := #[.int .i64 a0_0, .int .i64 a0_1, .int .i64 a0_2]) (t := 72) ?hr ?_; (case hd => rfl); (case hg => rfl); (case hr => first | (go_simp; done) | (go_simp; rfl)); intro gb101 hg w46 hbox hb; have n0_ := Aside0.mk (below_step (by repeat (first | (with_reducible first | exact HB.out | apply below_alloc | apply pw_below_drewN | apply below_drew1) | exact HB.out)) hb); have n1_ := Aside0.mk (hbox); have n2_ := Aside0.mk ((by rw [hg]; exact (below_size (by repeat (first | (with_reducible first | exact HB.out | apply below_alloc | apply pw_below_drewN | apply below_drew1) | exact HB.out))) : w.heap.size ≤ gb101)); have n3_ := Aside0.mk ((by rw [hg]; exact (below_size (by repeat (first | (with_reducible first | exact HB.out | apply below_alloc | apply pw_below_drewN | apply below_drew1) | exact HB.out))) : w.heap.size ≤ gb101)); clear HB; have HB := n0_; have BK101 := n1_; have GW101 := n2_; have GE101 := n3_; clear n0_ n1_ n2_ n3_; clear hb hbox hg) | ((with_reducible refine gate_dst (N := 3) rfl ?_); refine box_event ?hg (N := 3) ?hd (cs := #[.int .i64 a1_0, .int .i64 a1_1, .int .i64 a1_2]) (t := 72) ?hr ?_; (case hd => rfl); (case hg => rfl); (case hr => first | (go_simp; done) | (go_simp; rfl)); intro gb102 hg w47 hbox hb; have n0_ := Aside0.mk (blk_below (g := gb101) (o := .cells #[.int .i64 a0_0, .int .i64 a0_1, .int .i64 a0_2] 72 (0, 0)) (by (with_reducible repeat (first | refine blk_drewN ?_ _ | refine blk_drew ?_ | refine blk_alloc ?_ _)); exact BK101.out) hb); have n1_ := Aside0.mk (below_step (by repeat (first | (with_reducible first | exact HB.out | apply below_alloc | apply pw_below_drewN | apply below_drew1 | refine below_set ?_ GE101.out) | exact HB.out)) hb); have n2_ := Aside0.mk (hbox); have n3_ := Aside0.mk ((by rw [hg]; exact (below_size (by repeat (first | (with_reducible first | exact HB.out | apply below_alloc | apply pw_below_drewN | apply below_drew1 | refine below_set ?_ GE101.out) | exact HB.out))) : w.heap.size ≤ gb102)); have n4_ := Aside0.mk ((by rw [hg]; exact (below_size (by repeat (first | (with_reducible first | exact HB.out | apply below_alloc | apply pw_below_drewN | apply below_drew1 | refine below_set ?_ GE101.out) | exact HB.out))) : w.heap.size ≤ gb102)); have n5_ := Aside0.mk ((by rw [hg]; exact Nat.ne_of_lt (blk_lt (g := gb101) (o := .cells #[.int .i64 a0_0, .int .i64 a0_1, .int .i64 a0_2] 72 (0, 0)) (by (with_reducible repeat (first | refine blk_drewN ?_ _ | refine blk_drew ?_ | refine blk_alloc ?_ _)); exact BK101.out)) : gb101 ≠ gb102)); have n6_ := Aside0.mk ((by rw [hg]; exact Nat.ne_of_gt (blk_lt (g := gb101) (o := .cells #[.int .i64 a0_0, .int .i64 a0_1, .int .i64 a0_2] 72 (0, 0)) (by (with_reducible repeat (first | refine blk_drewN ?_ _ | refine blk_drew ?_ | refine blk_alloc ?_ _)); exact BK101.out)) : gb102 ≠ gb101)); clear BK101; clear HB; have BK101 := n0_; have HB := n1_; have BK102 := n2_; have GW102 := n3_; have GE102 := n4_; have NB101_102 := n5_; have NB102_101 := n6_; clear n0_ n1_ n2_ n3_ n4_ n5_ n6_; clear hb hbox hg) | ((with_reducible refine gate_dst (N := 4) rfl ?_); refine box_event ?hg (N := 4) ?hd (cs := #[.int .i64 0, .int .i64 0, .int .i64 0]) (t := 72) ?hr ?_; (case hd => rfl); (case hg => rfl); (case hr => first | (go_simp; done) | (go_simp; rfl)); intro gb103 hg w48 hbox hb; have n0_ := Aside0.mk (blk_below (g := gb101) (o := .cells #[.int .i64 a0_0, .int .i64 a0_1, .int .i64 a0_2] 72 (0, 0)) (by (with_reducible repeat (first | refine blk_drewN ?_ _ | refine blk_drew ?_ | refine blk_alloc ?_ _)); exact BK101.out) hb); have n1_ := Aside0.mk (blk_below (g := gb102) (o := .cells #[.int .i64 a1_0, .int .i64 a1_1, .int .i64 a1_2] 72 (0, 0)) (by (with_reducible repeat (first | refine blk_drewN ?_ _ | refine blk_drew ?_ | refine blk_alloc ?_ _)); exact BK102.out) hb); have n2_ := Aside0.mk (below_step (by repeat (first | (with_reducible first | exact HB.out | apply below_alloc | apply pw_below_drewN | apply below_drew1 | refine below_set ?_ GE101.out | refine below_set ?_ GE102.out) | exact HB.out)) hb); have n3_ := Aside0.mk (hbox); have n4_ := Aside0.mk ((by rw [hg]; exact (below_size (by repeat (first | (with_reducible first | exact HB.out | apply below_alloc | apply pw_below_drewN | apply below_drew1 | refine below_set ?_ GE101.out | refine below_set ?_ GE102.out) | exact HB.out))) : w.heap.size ≤ gb103)); have n5_ := Aside0.mk ((by rw [hg]; exact (below_size (by repeat (first | (with_reducible first | exact HB.out | apply below_alloc | apply pw_below_drewN | apply below_drew1 | refine below_set ?_ GE101.out | refine below_set ?_ GE102.out) | exact HB.out))) : w.heap.size ≤ gb103)); have n6_ := Aside0.mk ((by rw [hg]; exact Nat.ne_of_lt (blk_lt (g := gb101) (o := .cells #[.int .i64 a0_0, .int .i64 a0_1, .int .i64 a0_2] 72 (0, 0)) (by (with_reducible repeat (first | refine blk_drewN ?_ _ | refine blk_drew ?_ | refine blk_alloc ?_ _)); exact BK101.out)) : gb101 ≠ gb103)); have n7_ := Aside0.mk ((by rw [hg]; exact Nat.ne_of_gt (blk_lt (g := gb101) (o := .cells #[.int .i64 a0_0, .int .i64 a0_1, .int .i64 a0_2] 72 (0, 0)) (by (with_reducible repeat (first | refine blk_drewN ?_ _ | refine blk_drew ?_ | refine blk_alloc ?_ _)); exact BK101.out)) : gb103 ≠ gb101)); have n8_ := Aside0.mk ((by rw [hg]; exact Nat.ne_of_lt (blk_lt (g := gb102) (o := .cells #[.int .i64 a1_0, .int .i64 a1_1, .int .i64 a1_2] 72 (0, 0)) (by (with_reducible repeat (first | refine blk_drewN ?_ _ | refine blk_drew ?_ | refine blk_alloc ?_ _)); exact BK102.out)) : gb102 ≠ gb103)); have n9_ := Aside0.mk ((by rw [hg]; exact Nat.ne_of_gt (blk_lt (g := gb102) (o := .cells #[.int .i64 a1_0, .int .i64 a1_1, .int .i64 a1_2] 72 (0, 0)) (by (with_reducible repeat (first | refine blk_drewN ?_ _ | refine blk_drew ?_ | refine blk_alloc ?_ _)); exact BK102.out)) : gb103 ≠ gb102)); clear BK101; clear BK102; clear HB; have BK101 := n0_; have BK102 := n1_; have HB := n2_; have BK103 := n3_; have GW103 := n4_; have GE103 := n5_; have NB101_103 := n6_; have NB103_101 := n7_; have NB102_103 := n8_; have NB103_102 := n9_; clear n0_ n1_ n2_ n3_ n4_ n5_ n6_ n7_ n8_ n9_; clear hb hbox hg; have hnb49 := NB101_102.out; have hnc49 := NB102_101.out; have hnb50 := NB101_103.out; have hnc50 := NB103_101.out; have hcz51_0 : w48.cell? ⟨gb101, 0, none⟩ = some (.int .i64 a0_0) := (blk_cell BK101.out 0).trans rfl; have hcz51_1 : w48.cell? ⟨gb101, 1, none⟩ = some (.int .i64 a0_1) := (blk_cell BK101.out 1).trans rfl; have hcz51_2 : w48.cell? ⟨gb101, 2, none⟩ = some (.int .i64 a0_2) := (blk_cell BK101.out 2).trans rfl; have hfz51_0 := blk_frozen BK101.out 0; have hfz51_1 := blk_frozen BK101.out 1; have hfz51_2 := blk_frozen BK101.out 2; have hnb52 := NB102_103.out; have hnc52 := NB103_102.out; have hcz53_0 : w48.cell? ⟨gb102, 0, none⟩ = some (.int .i64 a1_0) := (blk_cell BK102.out 0).trans rfl; have hcz53_1 : w48.cell? ⟨gb102, 1, none⟩ = some (.int .i64 a1_1) := (blk_cell BK102.out 1).trans rfl; have hcz53_2 : w48.cell? ⟨gb102, 2, none⟩ = some (.int .i64 a1_2) := (blk_cell BK102.out 2).trans rfl; have hfz53_0 := blk_frozen BK102.out 0; have hfz53_1 := blk_frozen BK102.out 1; have hfz53_2 := blk_frozen BK102.out 2) | ((with_reducible refine gate_dst (N := 11) rfl ?_); refine Kd.R_lit k72 _ 72 ?hg (N := 11) ?hd (xs := ([(⟨a0_0, a0_1, a0_2⟩ : S72), (⟨a1_0, a1_1, a1_2⟩ : S72)] : List (S72))) (inner := [.int .i64 a0_0, .int .i64 a0_1, .int .i64 a0_2, .int .i64 a1_0, .int .i64 a1_1, .int .i64 a1_2]) (ok := fun _ => True) (okp := fun _ => True) ?hr ?hp (fun _ hk => hk) trivial (Below.refl _ _) (Nat.le_refl _) (by simp) ?_; (case hd => rfl); (case hg => rfl); (case hr => first | (go_simp; done) | (go_simp; rfl)); (case hp => exact (Reps.c3 (show Kd.M k72 _ _ _ (⟨a0_0, a0_1, a0_2⟩ : S72) [.int .i64 a0_0, .int .i64 a0_1, .int .i64 a0_2] from (k72_mkM _ _ _ (⟨a0_0, a0_1, a0_2⟩ : S72) )) (Reps.c3 (show Kd.M k72 _ _ _ (⟨a1_0, a1_1, a1_2⟩ : S72) [.int .i64 a1_0, .int .i64 a1_1, .int .i64 a1_2] from (k72_mkM _ _ _ (⟨a1_0, a1_1, a1_2⟩ : S72) )) (Reps.none _ _)))); intro v105 w54 ho55 hb hg_ hnew_; clear hg_ hnew_; (first | rw [← Ny104.out] at ho55 | (simp only [Int.reduceToNat] at ho55; rw [← Ny104.out] at ho55)); have n0_ := Aside0.mk (Kd.R_lower (Kd.R_newB (Kd.R_newB (Kd.R_newB ho55 (g := gb101) (o := .cells #[.int .i64 a0_0, .int .i64 a0_1, .int .i64 a0_2] 72 (0, 0)) (by (with_reducible repeat (first | refine blk_drewN ?_ _ | refine blk_drew ?_ | refine blk_alloc ?_ _)); exact BK101.out)) (g := gb102) (o := .cells #[.int .i64 a1_0, .int .i64 a1_1, .int .i64 a1_2] 72 (0, 0)) (by (with_reducible repeat (first | refine blk_drewN ?_ _ | refine blk_drew ?_ | refine blk_alloc ?_ _)); exact BK102.out)) (g := gb103) (o := .cells #[.int .i64 0, .int .i64 0, .int .i64 0] 72 (0, 0)) (by (with_reducible repeat (first | refine blk_drewN ?_ _ | refine blk_drew ?_ | refine blk_alloc ?_ _)); exact BK103.out)) (below_size (by repeat (first | (with_reducible first | exact HB.out | apply below_alloc | apply pw_below_drewN | apply below_drew1 | refine below_set ?_ GE101.out | refine below_set ?_ GE102.out | refine below_set ?_ GE103.out) | exact HB.out)))); have n1_ := Aside0.mk (blk_below (g := gb101) (o := .cells #[.int .i64 a0_0, .int .i64 a0_1, .int .i64 a0_2] 72 (0, 0)) (by (with_reducible repeat (first | refine blk_drewN ?_ _ | refine blk_drew ?_ | refine blk_alloc ?_ _)); exact BK101.out) hb); have n2_ := Aside0.mk (blk_below (g := gb102) (o := .cells #[.int .i64 a1_0, .int .i64 a1_1, .int .i64 a1_2] 72 (0, 0)) (by (with_reducible repeat (first | refine blk_drewN ?_ _ | refine blk_drew ?_ | refine blk_alloc ?_ _)); exact BK102.out) hb); have n3_ := Aside0.mk (blk_below (g := gb103) (o := .cells #[.int .i64 0, .int .i64 0, .int .i64 0] 72 (0, 0)) (by (with_reducible repeat (first | refine blk_drewN ?_ _ | refine blk_drew ?_ | refine blk_alloc ?_ _)); exact BK103.out) hb); have n4_ := Aside0.mk (below_step (by repeat (first | (with_reducible first | exact HB.out | apply below_alloc | apply pw_below_drewN | apply below_drew1 | refine below_set ?_ GE101.out | refine below_set ?_ GE102.out | refine below_set ?_ GE103.out) | exact HB.out)) hb); clear BK101; clear BK102; clear BK103; clear HB; have HO106 := n0_; have BK101 := n1_; have BK102 := n2_; have BK103 := n3_; have HB := n4_; clear n0_ n1_ n2_ n3_ n4_; clear hb ho55; obtain ⟨Ao56, co56, eo56⟩ := Kd.R_slice HO106.out; subst eo56) | ((with_reducible refine gate_callee (f := 136) rfl ?_); refine goesL_ (some 12) rfl rfl Try.func136 (by kernel_rfl) rfl #[.int .i64 1000000, .slice Ao56 y104.length co56] rfl (by (try simp only [List.map_toArray, List.map_cons, List.map_nil]); first | done | rfl | (simp only [List.length_drop, List.length_take]; rfl)) ?_; (with_reducible refine (impl_isLimited.calls 1000000 _ _ y104 false _ ?side1 ?side2 A3.out).mono ?_); (case side1 => repeat (first | exact (Kd.R_reads' HO106.out).2.2 | (with_reducible refine Kd.C_alloc ?_ _) | (with_reducible refine Kd.C_drewN ?_ _) | (with_reducible refine Kd.C_drew ?_))); (case side2 => exact (Kd.R_reads' HO106.out).2.1); rintro e w57 ⟨rfl, hb⟩; refine ⟨_, rfl, ?_⟩; have n0_ := Aside0.mk (Kd.R_below (by (with_reducible repeat (first | apply Kd.R_alloc | apply Kd.R_drewN | apply Kd.R_drew)); exact HO106.out) hb); have n1_ := Aside0.mk (blk_below (g := gb101) (o := .cells #[.int .i64 a0_0, .int .i64 a0_1, .int .i64 a0_2] 72 (0, 0)) (by (with_reducible repeat (first | refine blk_drewN ?_ _ | refine blk_drew ?_ | refine blk_alloc ?_ _)); exact BK101.out) hb); have n2_ := Aside0.mk (blk_below (g := gb102) (o := .cells #[.int .i64 a1_0, .int .i64 a1_1, .int .i64 a1_2] 72 (0, 0)) (by (with_reducible repeat (first | refine blk_drewN ?_ _ | refine blk_drew ?_ | refine blk_alloc ?_ _)); exact BK102.out) hb); have n3_ := Aside0.mk (blk_below (g := gb103) (o := .cells #[.int .i64 0, .int .i64 0, .int .i64 0] 72 (0, 0)) (by (with_reducible repeat (first | refine blk_drewN ?_ _ | refine blk_drew ?_ | refine blk_alloc ?_ _)); exact BK103.out) hb); have n4_ := Aside0.mk (below_step (by repeat (first | (with_reducible first | exact HB.out | apply below_alloc | apply pw_below_drewN | apply below_drew1 | refine below_set ?_ GE101.out | refine below_set ?_ GE102.out | refine below_set ?_ GE103.out) | exact HB.out)) hb); clear HO106; clear BK101; clear BK102; clear BK103; clear HB; have HO106 := n0_; have BK101 := n1_; have BK102 := n2_; have BK103 := n3_; have HB := n4_; clear n0_ n1_ n2_ n3_ n4_; (try clear hb); (try clear hb2); (try clear hk); (try clear hi); have hcz58_0 : w57.cell? ⟨gb103, 0, none⟩ = some (.int .i64 0) := (blk_cell BK103.out 0).trans rfl; have hcz58_1 : w57.cell? ⟨gb103, 1, none⟩ = some (.int .i64 0) := (blk_cell BK103.out 1).trans rfl; have hcz58_2 : w57.cell? ⟨gb103, 2, none⟩ = some (.int .i64 0) := (blk_cell BK103.out 2).trans rfl; have hfz58_0 := blk_frozen BK103.out 0; have hfz58_1 := blk_frozen BK103.out 1; have hfz58_2 := blk_frozen BK103.out 2))
  refine bodyPost_ret (results_cell_row rfl _ _ gb103 72 #[.int .i64 0, .int .i64 0, .int .i64 0] (0, 0) _ rfl (by (with_reducible repeat (first | refine blk_drewN ?_ _ | refine blk_drew ?_ | refine blk_alloc ?_ _)); refine blk_put (cs := #[.int .i64 0, .int .i64 0, .int .i64 0]) ?_ 2 _ rfl; (with_reducible repeat (first | refine blk_drewN ?_ _ | refine blk_drew ?_ | refine blk_alloc ?_ _)); refine blk_put (cs := #[.int .i64 0, .int .i64 0, .int .i64 0]) ?_ 1 _ rfl; (with_reducible repeat (first | refine blk_drewN ?_ _ | refine blk_drew ?_ | refine blk_alloc ?_ _)); refine blk_put (cs := #[.int .i64 0, .int .i64 0, .int .i64 0]) ?_ 0 _ rfl; (with_reducible repeat (first | refine blk_drewN ?_ _ | refine blk_drew ?_ | refine blk_alloc ?_ _)); exact BK103.out) Try.underlying72 rfl (by kernel_rfl)) rfl ?_
  exact ⟨by first | rfl | (simp [errW_none, errW_some] <;> rfl) | (simp [*, errW_none, errW_some] <;> rfl), by repeat (first | (with_reducible first | exact HB.out | apply below_alloc | apply pw_below_drewN | apply below_drew1 | refine below_set ?_ GE101.out | refine below_set ?_ GE102.out | refine below_set ?_ GE103.out) | exact HB.out)⟩

end Go.Proofs.Ytldcckcljjlglaa.P

namespace Go.Proofs.Ytldcckcljjlglaa.P
open Go.RowKit Go.Proofs.YtldcckcljjlglaaW.PrintWords Go.Proofs.YtldcckcljjlglaaW.PrintLast Go.Proofs.YtldcckcljjlglaaW.PrintMore
attribute [local go_sem] max2_int min2_int max_two min_two max_three min_three max_four min_four   -- for this text's walks alone
set_option linter.unusedVariables false
set_option linter.unusedSimpArgs false

/-! ### impl_TripleOf: function 86 -/
def impl_TripleOf.f (a0_0 : Int) (a0_1 : Int) : Option (Int × Int × Int) := some (a0_0, a0_1, 1)
set_option maxHeartbeats 8000000 in
set_option maxRecDepth 100000 in
theorem impl_TripleOf.calls (a0_0 : Int) (a0_1 : Int) (r1 : Int) (r2 : Int) (r3 : Int) (w : World) (h : impl_TripleOf.f a0_0 a0_1 = some (r1, r2, r3)) :
  Calls Try.prog 86 #[.agg #[.int .i64 a0_0, .int .i64 a0_1]] w fun e w' => e = .returned (.agg #[.int .i64 r1, .int .i64 r2, .int .i64 r3]) ∧ Below w.heap.size w w' := by
 have hu80 := Try.underlying80
 have hu72 := Try.underlying72
 have HB := Aside0.mk (Below.refl w.heap.size w)
 have H : (some (a0_0, a0_1, 1)) = some (r1, r2, r3) := h
 clear h
 simp only [Option.some.injEq, Prod.mk.injEq] at H
 obtain ⟨rfl, rfl, rfl⟩ := H
 go_enter Try.func86, Try.ntmps86
 go_wp2_with (first | ((with_reducible refine gate_dst (N := 1) rfl ?_); refine box_event ?hg (N := 1) ?hd (cs := #[.int .i64 a0_0, .int .i64 a0_1]) (t := 80) ?hr ?_; (case hd => rfl); (case hg => rfl); (case hr => first | (go_simp; done) | (go_simp; rfl)); intro gb101 hg w2 hbox hb; have n0_ := Aside0.mk (below_step (by repeat (first | (with_reducible first | exact HB.out | apply below_alloc | apply pw_below_drewN | apply below_drew1) | exact HB.out)) hb); have n1_ := Aside0.mk (hbox); have n2_ := Aside0.mk ((by rw [hg]; exact (below_size (by repeat (first | (with_reducible first | exact HB.out | apply below_alloc | apply pw_below_drewN | apply below_drew1) | exact HB.out))) : w.heap.size ≤ gb101)); have n3_ := Aside0.mk ((by rw [hg]; exact (below_size (by repeat (first | (with_reducible first | exact HB.out | apply below_alloc | apply pw_below_drewN | apply below_drew1) | exact HB.out))) : w.heap.size ≤ gb101)); clear HB; have HB := n0_; have BK101 := n1_; have GW101 := n2_; have GE101 := n3_; clear n0_ n1_ n2_ n3_; clear hb hbox hg) | ((with_reducible refine gate_dst (N := 2) rfl ?_); refine box_event ?hg (N := 2) ?hd (cs := #[.int .i64 0, .int .i64 0, .int .i64 0]) (t := 72) ?hr ?_; (case hd => rfl); (case hg => rfl); (case hr => first | (go_simp; done) | (go_simp; rfl)); intro gb102 hg w3 hbox hb; have n0_ := Aside0.mk (blk_below (g := gb101) (o := .cells #[.int .i64 a0_0, .int .i64 a0_1] 80 (0, 0)) (by (with_reducible repeat (first | refine blk_drewN ?_ _ | refine blk_drew ?_ | refine blk_alloc ?_ _)); exact BK101.out) hb); have n1_ := Aside0.mk (below_step (by repeat (first | (with_reducible first | exact HB.out | apply below_alloc | apply pw_below_drewN | apply below_drew1 | refine below_set ?_ GE101.out) | exact HB.out)) hb); have n2_ := Aside0.mk (hbox); have n3_ := Aside0.mk ((by rw [hg]; exact (below_size (by repeat (first | (with_reducible first | exact HB.out | apply below_alloc | apply pw_below_drewN | apply below_drew1 | refine below_set ?_ GE101.out) | exact HB.out))) : w.heap.size ≤ gb102)); have n4_ := Aside0.mk ((by rw [hg]; exact (below_size (by repeat (first | (with_reducible first | exact HB.out | apply below_alloc | apply pw_below_drewN | apply below_drew1 | refine below_set ?_ GE101.out) | exact HB.out))) : w.heap.size ≤ gb102)); have n5_ := Aside0.mk ((by rw [hg]; exact Nat.ne_of_lt (blk_lt (g := gb101) (o := .cells #[.int .i64 a0_0, .int .i64 a0_1] 80 (0, 0)) (by (with_reducible repeat (first | refine blk_drewN ?_ _ | refine blk_drew ?_ | refine blk_alloc ?_ _)); exact BK101.out)) : gb101 ≠ gb102)); have n6_ := Aside0.mk ((by rw [hg]; exact Nat.ne_of_gt (blk_lt (g := gb101) (o := .cells #[.int .i64 a0_0, .int .i64 a0_1] 80 (0, 0)) (by (with_reducible repeat (first | refine blk_drewN ?_ _ | refine blk_drew ?_ | refine blk_alloc ?_ _)); exact BK101.out)) : gb102 ≠ gb101)); clear BK101; clear HB; have BK101 := n0_; have HB := n1_; have BK102 := n2_; have GW102 := n3_; have GE102 := n4_; have NB101_102 := n5_; have NB102_101 := n6_; clear n0_ n1_ n2_ n3_ n4_ n5_ n6_; clear hb hbox hg; have hnb4 := NB101_102.out; have hnc4 := NB102_101.out; have hcz5_0 : w3.cell? ⟨gb101, 0, none⟩ = some (.int .i64 a0_0) := (blk_cell BK101.out 0).trans rfl; have hcz5_1 : w3.cell? ⟨gb101, 1, none⟩ = some (.int .i64 a0_1) := (blk_cell BK101.out 1).trans rfl; have hfz5_0 := blk_frozen BK101.out 0; have hfz5_1 := blk_frozen BK101.out 1; have hcz6_0 : w3.cell? ⟨gb102, 0, none⟩ = some (.int .i64 0) := (blk_cell BK102.out 0).trans rfl; have hcz6_1 : w3.cell? ⟨gb102, 1, none⟩ = some (.int .i64 0) := (blk_cell BK102.out 1).trans rfl; have hcz6_2 : w3.cell? ⟨gb102, 2, none⟩ = some (.int .i64 0) := (blk_cell BK102.out 2).trans rfl; have hfz6_0 := blk_frozen BK102.out 0; have hfz6_1 := blk_frozen BK102.out 1; have hfz6_2 := blk_frozen BK102.out 2))
 refine bodyPost_ret (results_cell_row rfl _ _ gb102 72 #[.int .i64 a0_0, .int .i64 a0_1, .int .i64 1] (0, 0) _ rfl (by (with_reducible repeat (first | refine blk_drewN ?_ _ | refine blk_drew ?_ | refine blk_alloc ?_ _)); refine blk_put (cs := #[.int .i64 a0_0, .int .i64 a0_1, .int .i64 0]) ?_ 2 _ rfl; (with_reducible repeat (first | refine blk_drewN ?_ _ | refine blk_drew ?_ | refine blk_alloc ?_ _)); refine blk_put (cs := #[.int .i64 a0_0, .int .i64 0, .int .i64 0]) ?_ 1 _ rfl; (with_reducible repeat (first | refine blk_drewN ?_ _ | refine blk_drew ?_ | refine blk_alloc ?_ _)); refine blk_put (cs := #[.int .i64 0, .int .i64 0, .int .i64 0]) ?_ 0 _ rfl; (with_reducible repeat (first | refine blk_drewN ?_ _ | refine blk_drew ?_ | refine blk_alloc ?_ _)); exact BK102.out) Try.underlying72 rfl (by kernel_rfl)) rfl ?_
 exact ⟨by first | rfl | (simp [errW_none, errW_some] <;> rfl) | (simp [*, errW_none, errW_some] <;> rfl), by repeat (first | (with_reducible first | exact HB.out | apply below_alloc | apply pw_below_drewN | apply below_drew1 | refine below_set ?_ GE101.out | refine below_set ?_ GE102.out) | exact HB.out)⟩

end Go.Proofs.Ytldcckcljjlglaa.P

namespace Go.Proofs.Ytldcckcljjlglaa.P
open Go.RowKit Go.Proofs.YtldcckcljjlglaaW.PrintWords Go.Proofs.YtldcckcljjlglaaW.PrintLast Go.Proofs.YtldcckcljjlglaaW.PrintMore
attribute [local go_sem] max2_int min2_int max_two min_two max_three min_three max_four min_four   -- for this text's walks alone
set_option linter.unusedVariables false
set_option linter.unusedSimpArgs false

/-! ### impl_through: function 125 -/
def impl_through.f (k : Nat) (a0_0 : Int) (a0_1 : Int) (a1_0 : Int) (a1_1 : Int) : Option (Int × Int × Int) := (impl_TripleOf.f a0_0 a0_1).bind fun bt104 => ((impl_TripleOf.f a1_0 a1_1).bind fun bt107 => ((impl_CrossOf.f k bt104.1 bt104.2.1 bt104.2.2 bt107.1 bt107.2.1 bt107.2.2).bind fun bt110 => (some (bt110.1, bt110.2.1, bt110.2.2))))
theorem impl_through.mono : ∀ a0 a1 a2 a3 k, LeO (impl_through.f k a0 a1 a2 a3) (impl_through.f (k + 1) a0 a1 a2 a3) := by
 intro a0 a1 a2 a3 k
 unfold impl_through.f
 repeat' first
   | (with_reducible exact impl_CrossOf.mono _ _ _ _ _ _ _)
   | (with_reducible exact LeO.refl _)
   | (with_reducible exact LeO.none _)
   | (with_reducible refine LeO.ite ?_ ?_)
   | (with_reducible refine LeO.bind ?_ (fun _ => ?_))
   | exact impl_CrossOf.mono _ _ _ _ _ _ _
   | exact LeO.none _
   | refine LeO.ite ?_ ?_
   | refine LeO.bind ?_ (fun _ => ?_)
set_option maxHeartbeats 8000000 in
set_option maxRecDepth 100000 in
theorem impl_through.calls (k : Nat) (a0_0 : Int) (a0_1 : Int) (a1_0 : Int) (a1_1 : Int) (r1 : Int) (r2 : Int) (r3 : Int) (w : World) (h : impl_through.f k a0_0 a0_1 a1_0 a1_1 = some (r1, r2, r3)) :
  Calls Try.prog 125 #[.agg #[.int .i64 a0_0, .int .i64 a0_1], .agg #[.int .i64 a1_0, .int .i64 a1_1]] w fun e w' => e = .returned (.agg #[.int .i64 r1, .int .i64 r2, .int .i64 r3]) ∧ Below w.heap.size w w' := by
 have hu80 := Try.underlying80
 have hu72 := Try.underlying72
 have HB := Aside0.mk (Below.refl w.heap.size w)
 have H : ((impl_TripleOf.f a0_0 a0_1).bind fun bt104 => ((impl_TripleOf.f a1_0 a1_1).bind fun bt107 => ((impl_CrossOf.f k bt104.1 bt104.2.1 bt104.2.2 bt107.1 bt107.2.1 bt107.2.2).bind fun bt110 => (some (bt110.1, bt110.2.1, bt110.2.2))))) = some (r1, r2, r3) := h
 clear h
 replace H := Option.bind_eq_some_iff.mp H
 obtain ⟨⟨t104, t105, t106⟩, A30, H⟩ := H
 replace H : ((impl_TripleOf.f a1_0 a1_1).bind fun bt107 => ((impl_CrossOf.f k t104 t105 t106 bt107.1 bt107.2.1 bt107.2.2).bind fun bt110 => (some (bt110.1, bt110.2.1, bt110.2.2)))) = some (r1, r2, r3) := H
 have A3 := Aside0.mk A30
 clear A30
 replace H := Option.bind_eq_some_iff.mp H
 obtain ⟨⟨t107, t108, t109⟩, A40, H⟩ := H
 replace H : ((impl_CrossOf.f k t104 t105 t106 t107 t108 t109).bind fun bt110 => (some (bt110.1, bt110.2.1, bt110.2.2))) = some (r1, r2, r3) := H
 have A4 := Aside0.mk A40
 clear A40
 replace H := Option.bind_eq_some_iff.mp H
 obtain ⟨⟨t110, t111, t112⟩, A50, H⟩ := H
 replace H : (some (t110, t111, t112)) = some (r1, r2, r3) := H
 have A5 := Aside0.mk A50
 clear A50
 simp only [Option.some.injEq, Prod.mk.injEq] at H
 obtain ⟨rfl, rfl, rfl⟩ := H
 go_enter Try.func125, Try.ntmps125
 try go_wp2_with (first | ((with_reducible refine gate_dst (N := 2) rfl ?_); refine box_event ?hg (N := 2) ?hd (cs := #[.int .i64 a0_0, .int .i64 a0_1]) (t := 80) ?hr ?_; (case hd => rfl); (case hg => rfl); (case hr => first | (go_simp; done) | (go_simp; rfl)); intro gb101 hg w6 hbox hb; have n0_ := Aside0.mk (below_step (by repeat (first | (with_reducible first | exact HB.out | apply below_alloc | apply pw_below_drewN | apply below_drew1) | exact HB.out)) hb); have n1_ := Aside0.mk (hbox); have n2_ := Aside0.mk ((by rw [hg]; exact (below_size (by repeat (first | (with_reducible first | exact HB.out | apply below_alloc | apply pw_below_drewN | apply below_drew1) | exact HB.out))) : w.heap.size ≤ gb101)); have n3_ := Aside0.mk ((by rw [hg]; exact (below_size (by repeat (first | (with_reducible first | exact HB.out | apply below_alloc | apply pw_below_drewN | apply below_drew1) | exact HB.out))) : w.heap.size ≤ gb101)); clear HB; have HB := n0_; have BK101 := n1_; have GW101 := n2_; have GE101 := n3_; clear n0_ n1_ n2_ n3_; clear hb hbox hg) | ((with_reducible refine gate_dst (N := 3) rfl ?_); refine box_event ?hg (N := 3) ?hd (cs := #[.int .i64 a1_0, .int .i64 a1_1]) (t := 80) ?hr ?_; (case hd => rfl); (case hg => rfl); (case hr => first | (go_simp; done) | (go_simp; rfl)); intro gb102 hg w7 hbox hb; have n0_ := Aside0.mk (blk_below (g := gb101) (o := .cells #[.int .i64 a0_0, .int .i64 a0_1] 80 (0, 0)) (by (with_reducible repeat (first | refine blk_drewN ?_ _ | refine blk_drew ?_ | refine blk_alloc ?_ _)); exact BK101.out) hb); have n1_ := Aside0.mk (below_step (by repeat (first | (with_reducible first | exact HB.out | apply below_alloc | apply pw_below_drewN | apply below_drew1 | refine below_set ?_ GE101.out) | exact HB.out)) hb); have n2_ := Aside0.mk (hbox); have n3_ := Aside0.mk ((by rw [hg]; exact (below_size (by repeat (first | (with_reducible first | exact HB.out | apply below_alloc | apply pw_below_drewN | apply below_drew1 | refine below_set ?_ GE101.out) | exact HB.out))) : w.heap.size ≤ gb102)); have n4_ := Aside0.mk ((by rw [hg]; exact (below_size (by repeat (first | (with_reducible first | exact HB.out | apply below_alloc | apply pw_below_drewN | apply below_drew1 | refine below_set ?_ GE101.out) | exact HB.out))) : w.heap.size ≤ gb102)); have n5_ := Aside0.mk ((by rw [hg]; exact Nat.ne_of_lt (blk_lt (g := gb101) (o := .cells #[.int .i64 a0_0, .int .i64 a0_1] 80 (0, 0)) (by (with_reducible repeat (first | refine blk_drewN ?_ _ | refine blk_drew ?_ | refine blk_alloc ?_ _)); exact BK101.out)) : gb101 ≠ gb102)); have n6_ := Aside0.mk ((by rw [hg]; exact Nat.ne_of_gt (blk_lt (g := gb101) (o := .cells #[.int .i64 a0_0, .int .i64 a0_1] 80 (0, 0)) (by (with_reducible repeat (first | refine blk_drewN ?_ _ | refine blk_drew ?_ | refine blk_alloc ?_ _)); exact BK101.out)) : gb102 ≠ gb101)); clear BK101; clear HB; have BK101 := n0_; have HB := n1_; have BK102 := n2_; have GW102 := n3_; have GE102 := n4_; have NB101_102 := n5_; have NB102_101 := n6_; clear n0_ n1_ n2_ n3_ n4_ n5_ n6_; clear hb hbox hg) | ((with_reducible refine gate_dst (N := 4) rfl ?_); refine box_event ?hg (N := 4) ?hd (cs := #[.int .i64 0, .int .i64 0, .int .i64 0]) (t := 72) ?hr ?_; (case hd => rfl); (case hg => rfl); (case hr => first | (go_simp; done) | (go_simp; rfl)); intro gb103 hg w8 hbox hb; have n0_ := Aside0.mk (blk_below (g := gb101) (o := .cells #[.int .i64 a0_0, .int .i64 a0_1] 80 (0, 0)) (by (with_reducible repeat (first | refine blk_drewN ?_ _ | refine blk_drew ?_ | refine blk_alloc ?_ _)); exact BK101.out) hb); have n1_ := Aside0.mk (blk_below (g := gb102) (o := .cells #[.int .i64 a1_0, .int .i64 a1_1] 80 (0, 0)) (by (with_reducible repeat (first | refine blk_drewN ?_ _ | refine blk_drew ?_ | refine blk_alloc ?_ _)); exact BK102.out) hb); have n2_ := Aside0.mk (below_step (by repeat (first | (with_reducible first | exact HB.out | apply below_alloc | apply pw_below_drewN | apply below_drew1 | refine below_set ?_ GE101.out | refine below_set ?_ GE102.out) | exact HB.out)) hb); have n3_ := Aside0.mk (hbox); have n4_ := Aside0.mk ((by rw [hg]; exact (below_size (by repeat (first | (with_reducible first | exact HB.out | apply below_alloc | apply pw_below_drewN | apply below_drew1 | refine below_set ?_ GE101.out | refine below_set ?_ GE102.out) | exact HB.out))) : w.heap.size ≤ gb103)); have n5_ := Aside0.mk ((by rw [hg]; exact (below_size (by repeat (first | (with_reducible first | exact HB.out | apply below_alloc | apply pw_below_drewN | apply below_drew1 | refine below_set ?_ GE101.out | refine below_set ?_ GE102.out) | exact HB.out))) : w.heap.size ≤ gb103)); have n6_ := Aside0.mk ((by rw [hg]; exact Nat.ne_of_lt (blk_lt (g := gb101) (o := .cells #[.int .i64 a0_0, .int .i64 a0_1] 80 (0, 0)) (by (with_reducible repeat (first | refine blk_drewN ?_ _ | refine blk_drew ?_ | refine blk_alloc ?_ _)); exact BK101.out)) : gb101 ≠ gb103)); have n7_ := Aside0.mk ((by rw [hg]; exact Nat.ne_of_gt (blk_lt (g := gb101) (o := .cells #[.int .i64 a0_0, .int .i64 a0_1] 80 (0, 0)) (by (with_reducible repeat (first | refine blk_drewN ?_ _ | refine blk_drew ?_ | refine blk_alloc ?_ _)); exact BK101.out)) : gb103 ≠ gb101)); have n8_ := Aside0.mk ((by rw [hg]; exact Nat.ne_of_lt (blk_lt (g := gb102) (o := .cells #[.int .i64 a1_0, .int .i64 a1_1] 80 (0, 0)) (by (with_reducible repeat (first | refine blk_drewN ?_ _ | refine blk_drew ?_ | refine blk_alloc ?_ _)); exact BK102.out)) : gb102 ≠ gb103)); have n9_ := Aside0.mk ((by rw [hg]; exact Nat.ne_of_gt (blk_lt (g := gb102) (o := .cells #[.int .i64 a1_0, .int .i64 a1_1] 80 (0, 0)) (by (with_reducible repeat (first | refine blk_drewN ?_ _ | refine blk_drew ?_ | refine blk_alloc ?_ _)); exact BK102.out)) : gb103 ≠ gb102)); clear BK101; clear BK102; clear HB; have BK101 := n0_; have BK102 := n1_; have HB := n2_; have BK103 := n3_; have GW103 := n4_; have GE103 := n5_; have NB101_103 := n6_; have NB103_101 := n7_; have NB102_103 := n8_; have NB103_102 := n9_; clear n0_ n1_ n2_ n3_ n4_ n5_ n6_ n7_ n8_ n9_; clear hb hbox hg))
 have n0_ := Aside0.mk (blk_drew BK101.out)
 have n1_ := Aside0.mk (blk_drew BK102.out)
 have n2_ := Aside0.mk (blk_drew BK103.out)
 have n3_ := Aside0.mk (below_drew1 HB.out)
 clear BK101
 clear BK102
 clear BK103
 clear HB
 have BK101 := n0_
 have BK102 := n1_
 have BK103 := n2_
 have HB := n3_
 clear n0_ n1_ n2_ n3_
 refine start_ (n := 6) (S := fun w' => w'.cell? ⟨gb101, 0, none⟩ = some (.int .i64 a0_0) ∧ w'.cell? ⟨gb101, 1, none⟩ = some (.int .i64 a0_1) ∧ w'.cell? ⟨gb102, 0, none⟩ = some (.int .i64 a1_0) ∧ w'.cell? ⟨gb102, 1, none⟩ = some (.int .i64 a1_1)) (ds := []) (bm 6 0) (by kernel_rfl) rfl rfl ⟨(blk_cell BK101.out 0).trans rfl, (blk_cell BK101.out 1).trans rfl, (blk_cell BK102.out 0).trans rfl, (blk_cell BK102.out 1).trans rfl⟩ (fun hHeld => ?_)
 generalize w8.drew = w9 at BK101 BK102 BK103 HB hHeld ⊢
 refine take_ (i := 0) (N := some 5) (v := ?_) (a' := ?_) (bm 6 1) rfl rfl (by kernel_rfl) (fun _ _ _ h => h) (Or.inl ⟨by rfl, ?_⟩) hHeld ?_ ?_
 rotate_left
 ·rintro w' ⟨s0, s1, s2, s3⟩
  go_simp
  with_reducible rfl
 rotate_left
 ·simp only [Act.put, List.setIfInBounds_toArray, List.set_cons_zero, List.set_cons_succ, i64_w, i32_w]
  rfl
 refine take_ (i := 2) (N := some 7) (v := ?_) (a' := ?_) (bm 6 5) rfl rfl (by kernel_rfl) (fun _ _ _ h => h) (Or.inl ⟨by rfl, ?_⟩) hHeld ?_ ?_
 rotate_left
 ·rintro w' ⟨s0, s1, s2, s3⟩
  go_simp
  with_reducible rfl
 rotate_left
 ·simp only [Act.put, List.setIfInBounds_toArray, List.set_cons_zero, List.set_cons_succ, i64_w, i32_w]
  rfl
 refine one_ (i := 1) (N := some 6) (bm 6 7) rfl rfl (by kernel_rfl) (by decide) (fun K hK => ?_)
 refine goes_ Try.func86 (by kernel_rfl) rfl #[.agg #[.int .i64 a0_0, .int .i64 a0_1]] (by rfl) rfl rfl (by (try simp only [List.map_toArray, List.map_cons, List.map_nil]); first | done | rfl | (simp only [List.length_drop, List.length_take]; rfl)) ?_
 with_reducible refine (impl_TripleOf.calls a0_0 a0_1 t104 t105 t106 _ A3.out).mono ?_
 rintro e w10 ⟨rfl, hb⟩
 refine ⟨_, rfl, ?_⟩
 have n0_ := Aside0.mk (blk_below (g := gb101) (o := .cells #[.int .i64 a0_0, .int .i64 a0_1] 80 (0, 0)) (by (with_reducible repeat (first | refine blk_drewN ?_ _ | refine blk_drew ?_ | refine blk_alloc ?_ _)); exact BK101.out) hb)
 have n1_ := Aside0.mk (blk_below (g := gb102) (o := .cells #[.int .i64 a1_0, .int .i64 a1_1] 80 (0, 0)) (by (with_reducible repeat (first | refine blk_drewN ?_ _ | refine blk_drew ?_ | refine blk_alloc ?_ _)); exact BK102.out) hb)
 have n2_ := Aside0.mk (blk_below (g := gb103) (o := .cells #[.int .i64 0, .int .i64 0, .int .i64 0] 72 (0, 0)) (by (with_reducible repeat (first | refine blk_drewN ?_ _ | refine blk_drew ?_ | refine blk_alloc ?_ _)); exact BK103.out) hb)
 have n3_ := Aside0.mk (below_step (by repeat (first | (with_reducible first | exact HB.out | apply below_alloc | apply pw_below_drewN | apply below_drew1 | refine below_set ?_ GE101.out | refine below_set ?_ GE102.out | refine below_set ?_ GE103.out) | exact HB.out)) hb)
 clear BK101
 clear BK102
 clear BK103
 clear HB
 have BK101 := n0_
 have BK102 := n1_
 have BK103 := n2_
 have HB := n3_
 clear n0_ n1_ n2_ n3_
 (try clear hb)
 (try clear hb2)
 (try clear hk)
 (try clear hi)
 refine hK.out _ _ ⟨(blk_cell BK101.out 0).trans rfl, (blk_cell BK101.out 1).trans rfl, (blk_cell BK102.out 0).trans rfl, (blk_cell BK102.out 1).trans rfl⟩ (fun hHeld => ?_)
 clear hK K
 refine norm_ (a' := ?_) ?_ ?_
 rotate_left
 ·show Act.put _ (some 6) _ = _
  simp only [Act.put, List.setIfInBounds_toArray, List.set_cons_zero, List.set_cons_succ, i64_w, i32_w]
  rfl
 refine one_ (i := 3) (N := some 8) (bm 6 15) rfl rfl (by kernel_rfl) (by decide) (fun K hK => ?_)
 refine goes_ Try.func86 (by kernel_rfl) rfl #[.agg #[.int .i64 a1_0, .int .i64 a1_1]] (by rfl) rfl rfl (by (try simp only [List.map_toArray, List.map_cons, List.map_nil]); first | done | rfl | (simp only [List.length_drop, List.length_take]; rfl)) ?_
 with_reducible refine (impl_TripleOf.calls a1_0 a1_1 t107 t108 t109 _ A4.out).mono ?_
 rintro e w11 ⟨rfl, hb⟩
 refine ⟨_, rfl, ?_⟩
 have n0_ := Aside0.mk (blk_below (g := gb101) (o := .cells #[.int .i64 a0_0, .int .i64 a0_1] 80 (0, 0)) (by (with_reducible repeat (first | refine blk_drewN ?_ _ | refine blk_drew ?_ | refine blk_alloc ?_ _)); exact BK101.out) hb)
 have n1_ := Aside0.mk (blk_below (g := gb102) (o := .cells #[.int .i64 a1_0, .int .i64 a1_1] 80 (0, 0)) (by (with_reducible repeat (first | refine blk_drewN ?_ _ | refine blk_drew ?_ | refine blk_alloc ?_ _)); exact BK102.out) hb)
 have n2_ := Aside0.mk (blk_below (g := gb103) (o := .cells #[.int .i64 0, .int .i64 0, .int .i64 0] 72 (0, 0)) (by (with_reducible repeat (first | refine blk_drewN ?_ _ | refine blk_drew ?_ | refine blk_alloc ?_ _)); exact BK103.out) hb)
 have n3_ := Aside0.mk (below_step (by repeat (first | (with_reducible first | exact HB.out | apply below_alloc | apply pw_below_drewN | apply below_drew1 | refine below_set ?_ GE101.out | refine below_set ?_ GE102.out | refine below_set ?_ GE103.out) | exact HB.out)) hb)
 clear BK101
 clear BK102
 clear BK103
 clear HB
 have BK101 := n0_
 have BK102 := n1_
 have BK103 := n2_
 have HB := n3_
 clear n0_ n1_ n2_ n3_
 (try clear hb)
 (try clear hb2)
 (try clear hk)
 (try clear hi)
 refine hK.out _ _ ⟨(blk_cell BK101.out 0).trans rfl, (blk_cell BK101.out 1).trans rfl, (blk_cell BK102.out 0).trans rfl, (blk_cell BK102.out 1).trans rfl⟩ (fun hHeld => ?_)
 clear hK K
 refine norm_ (a' := ?_) ?_ ?_
 rotate_left
 ·show Act.put _ (some 8) _ = _
  simp only [Act.put, List.setIfInBounds_toArray, List.set_cons_zero, List.set_cons_succ, i64_w, i32_w]
  rfl
 refine one_ (i := 4) (N := some 9) (bm 6 31) rfl rfl (by kernel_rfl) (by decide) (fun K hK => ?_)
 refine goes_ Try.func77 (by kernel_rfl) rfl #[.agg #[.int .i64 t104, .int .i64 t105, .int .i64 t106], .agg #[.int .i64 t107, .int .i64 t108, .int .i64 t109]] (by rfl) rfl rfl (by (try simp only [List.map_toArray, List.map_cons, List.map_nil]); first | done | rfl | (simp only [List.length_drop, List.length_take]; rfl)) ?_
 with_reducible refine (impl_CrossOf.calls k t104 t105 t106 t107 t108 t109 t110 t111 t112 _ A5.out).mono ?_
 rintro e w12 ⟨rfl, hb⟩
 refine ⟨_, rfl, ?_⟩
 have n0_ := Aside0.mk (blk_below (g := gb101) (o := .cells #[.int .i64 a0_0, .int .i64 a0_1] 80 (0, 0)) (by (with_reducible repeat (first | refine blk_drewN ?_ _ | refine blk_drew ?_ | refine blk_alloc ?_ _)); exact BK101.out) hb)
 have n1_ := Aside0.mk (blk_below (g := gb102) (o := .cells #[.int .i64 a1_0, .int .i64 a1_1] 80 (0, 0)) (by (with_reducible repeat (first | refine blk_drewN ?_ _ | refine blk_drew ?_ | refine blk_alloc ?_ _)); exact BK102.out) hb)
 have n2_ := Aside0.mk (blk_below (g := gb103) (o := .cells #[.int .i64 0, .int .i64 0, .int .i64 0] 72 (0, 0)) (by (with_reducible repeat (first | refine blk_drewN ?_ _ | refine blk_drew ?_ | refine blk_alloc ?_ _)); exact BK103.out) hb)
 have n3_ := Aside0.mk (below_step (by repeat (first | (with_reducible first | exact HB.out | apply below_alloc | apply pw_below_drewN | apply below_drew1 | refine below_set ?_ GE101.out | refine below_set ?_ GE102.out | refine below_set ?_ GE103.out) | exact HB.out)) hb)
 clear BK101
 clear BK102
 clear BK103
 clear HB
 have BK101 := n0_
 have BK102 := n1_
 have BK103 := n2_
 have HB := n3_
 clear n0_ n1_ n2_ n3_
 (try clear hb)
 (try clear hb2)
 (try clear hk)
 (try clear hi)
 refine hK.out _ _ ⟨(blk_cell BK101.out 0).trans rfl, (blk_cell BK101.out 1).trans rfl, (blk_cell BK102.out 0).trans rfl, (blk_cell BK102.out 1).trans rfl⟩ (fun hHeld => ?_)
 clear hK K
 refine norm_ (a' := ?_) ?_ ?_
 rotate_left
 ·show Act.put _ (some 9) _ = _
  simp only [Act.put, List.setIfInBounds_toArray, List.set_cons_zero, List.set_cons_succ, i64_w, i32_w]
  rfl
 refine one_ (i := 5) (N := none) (bm 6 63) rfl rfl (by kernel_rfl) (by decide) (fun K hK => ?_)
 have hs13 : w12.cell? ⟨gb103, 0, none⟩ = some (.int .i64 0) := (blk_cell BK103.out 0).trans rfl
 have hfs13 := blk_frozen BK103.out 0
 have hns13_0 := NB101_103.out
 have hns13_1 := NB102_103.out
 have hms13_0 := NB103_101.out
 have hms13_1 := NB103_102.out
 have hs14 : w12.cell? ⟨gb103, 1, none⟩ = some (.int .i64 0) := (blk_cell BK103.out 1).trans rfl
 have hfs14 := blk_frozen BK103.out 1
 have hns14_0 := NB101_103.out
 have hns14_1 := NB102_103.out
 have hms14_0 := NB103_101.out
 have hms14_1 := NB103_102.out
 have hs15 : w12.cell? ⟨gb103, 2, none⟩ = some (.int .i64 0) := (blk_cell BK103.out 2).trans rfl
 have hfs15 := blk_frozen BK103.out 2
 have hns15_0 := NB101_103.out
 have hns15_1 := NB102_103.out
 have hms15_0 := NB103_101.out
 have hms15_1 := NB103_102.out
 refine skip_ (w1 := ?_) (by rfl) rfl ?_ ?_
 rotate_left
 ·go_simp
  rfl
 refine hK.out _ _ ⟨((cell_far (p := ⟨gb103, _, none⟩) NB101_103.out _).trans (((cell_far (p := ⟨gb103, _, none⟩) NB101_103.out _).trans (((cell_far (p := ⟨gb103, _, none⟩) NB101_103.out _).trans (hHeld.1)))))), ((cell_far (p := ⟨gb103, _, none⟩) NB101_103.out _).trans (((cell_far (p := ⟨gb103, _, none⟩) NB101_103.out _).trans (((cell_far (p := ⟨gb103, _, none⟩) NB101_103.out _).trans (hHeld.2.1)))))), ((cell_far (p := ⟨gb103, _, none⟩) NB102_103.out _).trans (((cell_far (p := ⟨gb103, _, none⟩) NB102_103.out _).trans (((cell_far (p := ⟨gb103, _, none⟩) NB102_103.out _).trans (hHeld.2.2.1)))))), ((cell_far (p := ⟨gb103, _, none⟩) NB102_103.out _).trans (((cell_far (p := ⟨gb103, _, none⟩) NB102_103.out _).trans (((cell_far (p := ⟨gb103, _, none⟩) NB102_103.out _).trans (hHeld.2.2.2))))))⟩ (fun hHeld => ?_)
 clear hK K
 refine done_ (by kernel_rfl) ?_
 try go_wp2
 refine bodyPost_ret (results_cell_row rfl _ _ gb103 72 #[.int .i64 t110, .int .i64 t111, .int .i64 t112] (0, 0) _ rfl (by (with_reducible repeat (first | refine blk_drewN ?_ _ | refine blk_drew ?_ | refine blk_alloc ?_ _)); refine blk_put (cs := #[.int .i64 t110, .int .i64 t111, .int .i64 0]) ?_ 2 _ rfl; (with_reducible repeat (first | refine blk_drewN ?_ _ | refine blk_drew ?_ | refine blk_alloc ?_ _)); refine blk_put (cs := #[.int .i64 t110, .int .i64 0, .int .i64 0]) ?_ 1 _ rfl; (with_reducible repeat (first | refine blk_drewN ?_ _ | refine blk_drew ?_ | refine blk_alloc ?_ _)); refine blk_put (cs := #[.int .i64 0, .int .i64 0, .int .i64 0]) ?_ 0 _ rfl; (with_reducible repeat (first | refine blk_drewN ?_ _ | refine blk_drew ?_ | refine blk_alloc ?_ _)); exact BK103.out) Try.underlying72 rfl (by kernel_rfl)) rfl ?_
 exact ⟨by first | rfl | (simp [errW_none, errW_some] <;> rfl) | (simp [*, errW_none, errW_some] <;> rfl), by repeat (first | (with_reducible first | exact HB.out | apply below_alloc | apply pw_below_drewN | apply below_drew1 | refine below_set ?_ GE101.out | refine below_set ?_ GE102.out | refine below_set ?_ GE103.out) | exact HB.out)⟩

end Go.Proofs.Ytldcckcljjlglaa.P

namespace Go.Proofs.Ytldcckcljjlglaa.P
open Go.RowKit Go.Proofs.YtldcckcljjlglaaW.PrintWords Go.Proofs.YtldcckcljjlglaaW.PrintLast Go.Proofs.YtldcckcljjlglaaW.PrintMore
attribute [local go_sem] max2_int min2_int max_two min_two max_three min_three max_four min_four   -- for this text's walks alone
set_option linter.unusedVariables false
set_option linter.unusedSimpArgs false

attribute [local go_sem high] eqA72
/-! ### impl_areOneLine: function 126 -/
def impl_areOneLine.f (k : Nat) (a0_0 : Int) (a0_1 : Int) (a0_2 : Int) (a1_0 : Int) (a1_1 : Int) (a1_2 : Int) : Option (Bool) := (impl_CrossOf.f k a0_0 a0_1 a0_2 a1_0 a1_1 a1_2).bind fun bt103 => (some (bt103.1 == 0 && (bt103.2.1 == 0 && (bt103.2.2 == 0))))
theorem impl_areOneLine.mono : ∀ a0 a1 a2 a3 a4 a5 k, LeO (impl_areOneLine.f k a0 a1 a2 a3 a4 a5) (impl_areOneLine.f (k + 1) a0 a1 a2 a3 a4 a5) := by
 intro a0 a1 a2 a3 a4 a5 k
 unfold impl_areOneLine.f
 repeat' first
   | (with_reducible exact impl_CrossOf.mono _ _ _ _ _ _ _)
   | (with_reducible exact LeO.refl _)
   | (with_reducible exact LeO.none _)
   | (with_reducible refine LeO.ite ?_ ?_)
   | (with_reducible refine LeO.bind ?_ (fun _ => ?_))
   | exact impl_CrossOf.mono _ _ _ _ _ _ _
   | exact LeO.none _
   | refine LeO.ite ?_ ?_
   | refine LeO.bind ?_ (fun _ => ?_)
set_option maxHeartbeats 8000000 in
set_option maxRecDepth 100000 in
theorem impl_areOneLine.calls (k : Nat) (a0_0 : Int) (a0_1 : Int) (a0_2 : Int) (a1_0 : Int) (a1_1 : Int) (a1_2 : Int) (r : Bool) (w : World) (h : impl_areOneLine.f k a0_0 a0_1 a0_2 a1_0 a1_1 a1_2 = some r) :
  Calls Try.prog 126 #[.agg #[.int .i64 a0_0, .int .i64 a0_1, .int .i64 a0_2], .agg #[.int .i64 a1_0, .int .i64 a1_1, .int .i64 a1_2]] w fun e w' => e = .returned (.bool r) ∧ Below w.heap.size w w' := by
 have hu72 := Try.underlying72
 have HB := Aside0.mk (Below.refl w.heap.size w)
 have H : ((impl_CrossOf.f k a0_0 a0_1 a0_2 a1_0 a1_1 a1_2).bind fun bt103 => (some (bt103.1 == 0 && (bt103.2.1 == 0 && (bt103.2.2 == 0))))) = some r := h
 clear h
 replace H := Option.bind_eq_some_iff.mp H
 obtain ⟨⟨t103, t104, t105⟩, A30, H⟩ := H
 replace H : (some (t103 == 0 && (t104 == 0 && (t105 == 0)))) = some r := H
 have A3 := Aside0.mk A30
 clear A30
 obtain rfl := Option.some.inj H
 go_enter Try.func126, Try.ntmps126
 go_wp2_with (first | ((with_reducible refine gate_dst (N := 2) rfl ?_); refine box_event ?hg (N := 2) ?hd (cs := #[.int .i64 a0_0, .int .i64 a0_1, .int .i64 a0_2]) (t := 72) ?hr ?_; (case hd => rfl); (case hg => rfl); (case hr => first | (go_simp; done) | (go_simp; rfl)); intro gb101 hg w4 hbox hb; have n0_ := Aside0.mk (below_step (by repeat (first | (with_reducible first | exact HB.out | apply below_alloc | apply pw_below_drewN | apply below_drew1) | exact HB.out)) hb); have n1_ := Aside0.mk (hbox); have n2_ := Aside0.mk ((by rw [hg]; exact (below_size (by repeat (first | (with_reducible first | exact HB.out | apply below_alloc | apply pw_below_drewN | apply below_drew1) | exact HB.out))) : w.heap.size ≤ gb101)); have n3_ := Aside0.mk ((by rw [hg]; exact (below_size (by repeat (first | (with_reducible first | exact HB.out | apply below_alloc | apply pw_below_drewN | apply below_drew1) | exact HB.out))) : w.heap.size ≤ gb101)); clear HB; have HB := n0_; have BK101 := n1_; have GW101 := n2_; have GE101 := n3_; clear n0_ n1_ n2_ n3_; clear hb hbox hg) | ((with_reducible refine gate_dst (N := 3) rfl ?_); refine box_event ?hg (N := 3) ?hd (cs := #[.int .i64 a1_0, .int .i64 a1_1, .int .i64 a1_2]) (t := 72) ?hr ?_; (case hd => rfl); (case hg => rfl); (case hr => first | (go_simp; done) | (go_simp; rfl)); intro gb102 hg w5 hbox hb; have n0_ := Aside0.mk (blk_below (g := gb101) (o := .cells #[.int .i64 a0_0, .int .i64 a0_1, .int .i64 a0_2] 72 (0, 0)) (by (with_reducible repeat (first | refine blk_drewN ?_ _ | refine blk_drew ?_ | refine blk_alloc ?_ _)); exact BK101.out) hb); have n1_ := Aside0.mk (below_step (by repeat (first | (with_reducible first | exact HB.out | apply below_alloc | apply pw_below_drewN | apply below_drew1 | refine below_set ?_ GE101.out) | exact HB.out)) hb); have n2_ := Aside0.mk (hbox); have n3_ := Aside0.mk ((by rw [hg]; exact (below_size (by repeat (first | (with_reducible first | exact HB.out | apply below_alloc | apply pw_below_drewN | apply below_drew1 | refine below_set ?_ GE101.out) | exact HB.out))) : w.heap.size ≤ gb102)); have n4_ := Aside0.mk ((by rw [hg]; exact (below_size (by repeat (first | (with_reducible first | exact HB.out | apply below_alloc | apply pw_below_drewN | apply below_drew1 | refine below_set ?_ GE101.out) | exact HB.out))) : w.heap.size ≤ gb102)); have n5_ := Aside0.mk ((by rw [hg]; exact Nat.ne_of_lt (blk_lt (g := gb101) (o := .cells #[.int .i64 a0_0, .int .i64 a0_1, .int .i64 a0_2] 72 (0, 0)) (by (with_reducible repeat (first | refine blk_drewN ?_ _ | refine blk_drew ?_ | refine blk_alloc ?_ _)); exact BK101.out)) : gb101 ≠ gb102)); have n6_ := Aside0.mk ((by rw [hg]; exact Nat.ne_of_gt (blk_lt (g := gb101) (o := .cells #[.int .i64 a0_0, .int .i64 a0_1, .int .i64 a0_2] 72 (0, 0)) (by (with_reducible repeat (first | refine blk_drewN ?_ _ | refine blk_drew ?_ | refine blk_alloc ?_ _)); exact BK101.out)) : gb102 ≠ gb101)); clear BK101; clear HB; have BK101 := n0_; have HB := n1_; have BK102 := n2_; have GW102 := n3_; have GE102 := n4_; have NB101_102 := n5_; have NB102_101 := n6_; clear n0_ n1_ n2_ n3_ n4_ n5_ n6_; clear hb hbox hg; have hnb6 := NB101_102.out; have hnc6 := NB102_101.out; have hcz7_0 : w5.cell? ⟨gb101, 0, none⟩ = some (.int .i64 a0_0) := (blk_cell BK101.out 0).trans rfl; have hcz7_1 : w5.cell? ⟨gb101, 1, none⟩ = some (.int .i64 a0_1) := (blk_cell BK101.out 1).trans rfl; have hcz7_2 : w5.cell? ⟨gb101, 2, none⟩ = some (.int .i64 a0_2) := (blk_cell BK101.out 2).trans rfl; have hfz7_0 := blk_frozen BK101.out 0; have hfz7_1 := blk_frozen BK101.out 1; have hfz7_2 := blk_frozen BK101.out 2; have hcz8_0 : w5.cell? ⟨gb102, 0, none⟩ = some (.int .i64 a1_0) := (blk_cell BK102.out 0).trans rfl; have hcz8_1 : w5.cell? ⟨gb102, 1, none⟩ = some (.int .i64 a1_1) := (blk_cell BK102.out 1).trans rfl; have hcz8_2 : w5.cell? ⟨gb102, 2, none⟩ = some (.int .i64 a1_2) := (blk_cell BK102.out 2).trans rfl; have hfz8_0 := blk_frozen BK102.out 0; have hfz8_1 := blk_frozen BK102.out 1; have hfz8_2 := blk_frozen BK102.out 2) | ((with_reducible refine gate_callee (f := 77) rfl ?_); refine goesL_ (some 7) rfl rfl Try.func77 (by kernel_rfl) rfl #[.agg #[.int .i64 a0_0, .int .i64 a0_1, .int .i64 a0_2], .agg #[.int .i64 a1_0, .int .i64 a1_1, .int .i64 a1_2]] rfl (by (try simp only [List.map_toArray, List.map_cons, List.map_nil]); first | done | rfl | (simp only [List.length_drop, List.length_take]; rfl)) ?_; (with_reducible refine (impl_CrossOf.calls k a0_0 a0_1 a0_2 a1_0 a1_1 a1_2 t103 t104 t105 _ A3.out).mono ?_); rintro e w9 ⟨rfl, hb⟩; refine ⟨_, rfl, ?_⟩; have n0_ := Aside0.mk (blk_below (g := gb101) (o := .cells #[.int .i64 a0_0, .int .i64 a0_1, .int .i64 a0_2] 72 (0, 0)) (by (with_reducible repeat (first | refine blk_drewN ?_ _ | refine blk_drew ?_ | refine blk_alloc ?_ _)); exact BK101.out) hb); have n1_ := Aside0.mk (blk_below (g := gb102) (o := .cells #[.int .i64 a1_0, .int .i64 a1_1, .int .i64 a1_2] 72 (0, 0)) (by (with_reducible repeat (first | refine blk_drewN ?_ _ | refine blk_drew ?_ | refine blk_alloc ?_ _)); exact BK102.out) hb); have n2_ := Aside0.mk (below_step (by repeat (first | (with_reducible first | exact HB.out | apply below_alloc | apply pw_below_drewN | apply below_drew1 | refine below_set ?_ GE101.out | refine below_set ?_ GE102.out) | exact HB.out)) hb); clear BK101; clear BK102; clear HB; have BK101 := n0_; have BK102 := n1_; have HB := n2_; clear n0_ n1_ n2_; (try clear hb); (try clear hb2); (try clear hk); (try clear hi)))
 go_ret
 exact ⟨by first | rfl | (simp [errW_none, errW_some] <;> rfl) | (simp [*, errW_none, errW_some] <;> rfl), by repeat (first | (with_reducible first | exact HB.out | apply below_alloc | apply pw_below_drewN | apply below_drew1 | refine below_set ?_ GE101.out | refine below_set ?_ GE102.out) | exact HB.out)⟩

end Go.Proofs.Ytldcckcljjlglaa.P

namespace Go.Proofs.Ytldcckcljjlglaa.P
open Go.RowKit Go.Proofs.YtldcckcljjlglaaW.PrintWords Go.Proofs.YtldcckcljjlglaaW.PrintLast Go.Proofs.YtldcckcljjlglaaW.PrintMore
attribute [local go_sem] max2_int min2_int max_two min_two max_three min_three max_four min_four   -- for this text's walks alone
set_option linter.unusedVariables false
set_option linter.unusedSimpArgs false

/-! ### impl_Point_151: function 151 -/
/-- What is asked of a predicate on elements of this kind. -/
def PredPoint (g : Nat) (lb : Array Value) (p : S80 → Bool) (w : World) : Prop :=
 ∀ (W : World) (x : S80), Below w.heap.size w W → Calls Try.prog g (#[.agg #[.int .i64 x.f0, .int .i64 x.f1]] ++ lb) W fun e w' => e = .returned (.bool (p x)) ∧ Below W.heap.size W w'
def idxPoint (p : S80 → Bool) : List S80 → Nat → Int
 | [], _ => -1
 | x :: l, i => if p x then i else idxPoint p l (i + 1)
theorem idxPoint_skip (p : S80 → Bool) (l : List S80) (k i : Nat) (h : ∀ j, j < k → j < l.length → p (l.getD j z80) = false) (hk : k ≤ l.length) : idxPoint p l i = idxPoint p (l.drop k) (i + k) := by
 induction k generalizing l i with
 | zero => simp
 | succ k ih =>
  cases l with
  | nil => simp at hk
  | cons x l =>
   have hx : p x = false := by simpa using h 0 (by omega) (by simp)
   simp only [idxPoint, hx, List.drop_succ_cons]
   rw [if_neg (by decide), ih l (i + 1) (fun j hj hl => by simpa using h (j + 1) (by omega) (by simpa using hl)) (by simpa using hk)]
   simp [Nat.add_assoc, Nat.add_comm 1 k]
theorem idxPoint_any (p : S80 → Bool) (l : List S80) (i : Nat) : decide (0 ≤ idxPoint p l i) = l.any p := by
 induction l generalizing i with
 | nil => rfl
 | cons x l ih =>
  simp only [idxPoint, List.any_cons]
  by_cases h : p x = true
  ·simp [h]
  ·simp [h, ih]
set_option maxHeartbeats 1000000 in
set_option maxRecDepth 100000 in
theorem indexPoint_calls (g : Nat) (lb : Array Value) (eg : ∀ args w, (callFunc g args).run Try.prog w = .ok (.enter g args) w) (p : S80 → Bool) (A : Option Addr) (c : Nat) (l : List S80) (w : World) (hr : Kd.C k80 w A l.length l) (hc : l.length ≤ c) (hp : PredPoint g lb p w) :
  Calls Try.prog 151 #[.slice A l.length c, .func (.func g) #[] lb] w fun e w' => e = .returned (.int .i64 (idxPoint p l 0)) ∧ Below w.heap.size w w' := by
 have hu80 := Try.underlying80
 have hmax : l.length ≤ 9223372036854775807 := hr.2.1
 have HR := Aside0.mk hr
 have HP := Aside0.mk hp
 clear hr hp
 go_enter Try.func151, Try.ntmps151
 go_wp2_with fail
 go_loopg [5, 8] l.length (fun gg _ s8 wr => ∃ kk : Nat, kk ≤ l.length ∧ l.length - kk ≤ gg ∧ s8 = .int .i64 kk ∧ Aside0 (Below w.heap.size w wr) ∧ Aside0 (∀ j, j < kk → j < l.length → p (l.getD j z80) = false))
 case atStart => exact ⟨0, Nat.zero_le _, by omega, rfl, ⟨Below.refl _ w⟩, ⟨fun j hj => absurd hj (Nat.not_lt_zero _)⟩⟩
 case round =>
  obtain ⟨kk, hkk, hg, rfl, BW, AA⟩ := hrel
  by_cases hlt : kk < l.length
  ·have hltz : (kk : Int) < (l.length : Int) := by omega
   obtain ⟨ad, rfl, hx0, hx1⟩ := at_T80 (Kd.C_below HR.out BW.out) (kk : Int) (by omega) hltz
   simp only [Int.toNat_natCast] at hx0 hx1
   have hcall := HP.out wr (rd_T80 l (kk : Int)) BW.out
   have hrdk : rd_T80 l (kk : Int) = l.getD kk z80 := rfl
   generalize hy : rd_T80 l (kk : Int) = y at hx0 hx1 hcall hrdk
   have HY := Aside0.mk hrdk
   clear hrdk hy
   cases hq : p y with
   | true =>
    rw [hq] at hcall
    have HQ := Aside0.mk hq
    clear hq
    go_wp2_with (go_at_fn g; refine hcall.mono ?_; rintro e w' ⟨rfl, hb'⟩)
    go_ret
    refine ⟨?_, below_step BW.out hb'⟩
    rw [idxPoint_skip p l kk 0 AA.out hkk, List.drop_eq_getElem_cons hlt]
    have hyy : l[kk] = y := by rw [HY.out]; simp [List.getD, List.getElem?_eq_getElem hlt]
    simp only [idxPoint, hyy, HQ.out]
    simp
   | false =>
    rw [hq] at hcall
    have HQ := Aside0.mk hq
    clear hq
    go_wp2_with (go_at_fn g; refine hcall.mono ?_; rintro e w' ⟨rfl, hb'⟩)
    go_roundg (l.length - (kk + 1))
    case measure => omega
    case rel =>
     refine ⟨kk + 1, by omega, by omega, by go_num, ⟨below_step BW.out hb'⟩, ⟨fun j hj hjl => ?_⟩⟩
     by_cases e : j = kk
     ·subst e
      rw [← HY.out]; exact HQ.out
     ·exact AA.out j (by omega) hjl
  ·have hltz : ¬ (kk : Int) < (l.length : Int) := by omega
   have hkl : kk = l.length := by omega
   subst hkl
   go_wp2_with fail
   go_ret
   refine ⟨?_, BW.out⟩
   rw [idxPoint_skip p l l.length 0 AA.out (Nat.le_refl _), List.drop_length]
   rfl

end Go.Proofs.Ytldcckcljjlglaa.P

namespace Go.Proofs.Ytldcckcljjlglaa.P
open Go.RowKit Go.Proofs.YtldcckcljjlglaaW.PrintWords Go.Proofs.YtldcckcljjlglaaW.PrintLast Go.Proofs.YtldcckcljjlglaaW.PrintMore
attribute [local go_sem] max2_int min2_int max_two min_two max_three min_three max_four min_four   -- for this text's walks alone
set_option linter.unusedVariables false
set_option linter.unusedSimpArgs false

/-! ### impl_Point_130: function 130 -/
theorem containsPoint_calls (g : Nat) (lb : Array Value) (eg : ∀ args w, (callFunc g args).run Try.prog w = .ok (.enter g args) w) (p : S80 → Bool) (A : Option Addr) (c : Nat) (l : List S80) (w : World) (hr : Kd.C k80 w A l.length l) (hc : l.length ≤ c) (hp : PredPoint g lb p w) :
  Calls Try.prog 130 #[.slice A l.length c, .func (.func g) #[] lb] w fun e w' => e = .returned (.bool (l.any p)) ∧ Below w.heap.size w w' := by
 have HR := Aside0.mk hr
 have HP := Aside0.mk hp
 have HA := Aside0.mk (idxPoint_any p l 0)
 clear hr hp
 go_enter Try.func130, Try.ntmps130
 go_wp2_with fail
 (with_reducible refine (indexPoint_calls g lb eg p A c l _ HR.out hc HP.out).mono ?_); rintro e w1 ⟨rfl, hb⟩
 go_wp2_with fail
 go_ret
 exact ⟨by rw [← HA.out]; rfl, hb⟩

end Go.Proofs.Ytldcckcljjlglaa.P

namespace Go.Proofs.Ytldcckcljjlglaa.P
open Go.RowKit Go.Proofs.YtldcckcljjlglaaW.PrintWords Go.Proofs.YtldcckcljjlglaaW.PrintLast Go.Proofs.YtldcckcljjlglaaW.PrintMore
attribute [local go_sem] max2_int min2_int max_two min_two max_three min_three max_four min_four   -- for this text's walks alone
set_option linter.unusedVariables false
set_option linter.unusedSimpArgs false

attribute [local go_sem high] eqA80
/-! ### impl_Point_168: function 168 -/
def impl_Point_168.l0 : Nat → List (S80) → Int → Int → Int → Int → Option (Int)
 | 0, _, _, _, _, _ => none
 | k + 1, x0, x7, x8, x102000, x102001 => if x8 < x7 then (if 0 ≤ x8 then (if x8 < (x0.length : Int) then (if (x102000 == ((rd_T80 x0 x8).f0) && (x102001 == ((rd_T80 x0 x8).f1))) = true then (some x8) else (impl_Point_168.l0 k x0 x7 (wrap64 (x8 + 1)) x102000 x102001)) else (none)) else (none)) else (some (-1))
def impl_Point_168.f (k : Nat) (l0 : List (S80)) (a1_0 : Int) (a1_1 : Int) : Option (Int) := impl_Point_168.l0 k l0 (l0.length : Int) 0 a1_0 a1_1
theorem impl_Point_168.mono_l : ∀ k, (∀ y0 y1 y2 y3 y4, LeO (impl_Point_168.l0 k y0 y1 y2 y3 y4) (impl_Point_168.l0 (k + 1) y0 y1 y2 y3 y4))
 | 0 => fun _ _ _ _ _ r h => by simp [impl_Point_168.l0] at h
 | k + 1 => by
  have ih0 := impl_Point_168.mono_l k
  ·intro y0 y1 y2 y3 y4
   unfold impl_Point_168.l0
   repeat' first
   | (with_reducible exact ih0 _ _ _ _ _)
   | (with_reducible exact LeO.refl _)
   | (with_reducible exact LeO.none _)
   | (with_reducible refine LeO.ite ?_ ?_)
   | (with_reducible refine LeO.bind ?_ (fun _ => ?_))
   | exact ih0 _ _ _ _ _
   | exact LeO.none _
   | refine LeO.ite ?_ ?_
   | refine LeO.bind ?_ (fun _ => ?_)
theorem impl_Point_168.mono : ∀ a0 a1 a2 k, LeO (impl_Point_168.f k a0 a1 a2) (impl_Point_168.f (k + 1) a0 a1 a2) := by
 intro a0 a1 a2 k
 have ih0 := impl_Point_168.mono_l k
 unfold impl_Point_168.f
 repeat' first
   | (with_reducible exact ih0 _ _ _ _ _)
   | (with_reducible exact LeO.refl _)
   | (with_reducible exact LeO.none _)
   | (with_reducible refine LeO.ite ?_ ?_)
   | (with_reducible refine LeO.bind ?_ (fun _ => ?_))
   | exact ih0 _ _ _ _ _
   | exact LeO.none _
   | refine LeO.ite ?_ ?_
   | refine LeO.bind ?_ (fun _ => ?_)
set_option maxHeartbeats 8000000 in
set_option maxRecDepth 100000 in
theorem impl_Point_168.calls (k : Nat) (A0 : Option Addr) (c0 : Nat) (l0 : List (S80)) (a1_0 : Int) (a1_1 : Int) (r : Int) (w : World) (hr0 : Kd.C k80 w A0 l0.length l0) (hc0 : l0.length ≤ c0) (h : impl_Point_168.f k l0 a1_0 a1_1 = some r) :
  Calls Try.prog 168 #[.slice A0 l0.length c0, .agg #[.int .i64 a1_0, .int .i64 a1_1]] w fun e w' => e = .returned (.int .i64 r) ∧ Below w.heap.size w w' := by
 have hu80 := Try.underlying80
 have HR0 := Aside0.mk hr0
 have HC0 := Aside0.mk hc0
 clear hr0 hc0
 have HB := Aside0.mk (Below.refl w.heap.size w)
 have H : (impl_Point_168.l0 k l0 (l0.length : Int) 0 a1_0 a1_1) = some r := h
 clear h
 have H' := Aside0.mk H
 clear H
 go_enter Try.func168, Try.ntmps168
 go_wp2_with (first | ((with_reducible refine gate_dst (N := 3) rfl ?_); refine box_event ?hg (N := 3) ?hd (cs := #[.int .i64 a1_0, .int .i64 a1_1]) (t := 80) ?hr ?_; (case hd => rfl); (case hg => rfl); (case hr => first | (go_simp; done) | (go_simp; rfl)); intro gb101 hg w3 hbox hb; have n0_ := Aside0.mk (below_step (by repeat (first | (with_reducible first | exact HB.out | apply below_alloc | apply pw_below_drewN | apply below_drew1) | exact HB.out)) hb); have n1_ := Aside0.mk (hbox); have n2_ := Aside0.mk ((by rw [hg]; exact (below_size (by repeat (first | (with_reducible first | exact HB.out | apply below_alloc | apply pw_below_drewN | apply below_drew1) | exact HB.out))) : w.heap.size ≤ gb101)); have n3_ := Aside0.mk ((by rw [hg]; exact (below_size (by repeat (first | (with_reducible first | exact HB.out | apply below_alloc | apply pw_below_drewN | apply below_drew1) | exact HB.out))) : w.heap.size ≤ gb101)); clear HB; have HB := n0_; have BK101 := n1_; have GW101 := n2_; have GE101 := n3_; clear n0_ n1_ n2_ n3_; clear hb hbox hg))
 repeat (go_quiet (first | ((with_reducible refine gate_dst (N := 3) rfl ?_); refine box_event ?hg (N := 3) ?hd (cs := #[.int .i64 a1_0, .int .i64 a1_1]) (t := 80) ?hr ?_; (case hd => rfl); (case hg => rfl); (case hr => first | (go_simp; done) | (go_simp; rfl)); intro gb101 hg w3 hbox hb; have n0_ := Aside0.mk (below_step (by repeat (first | (with_reducible first | exact HB.out | apply below_alloc | apply pw_below_drewN | apply below_drew1) | exact HB.out)) hb); have n1_ := Aside0.mk (hbox); have n2_ := Aside0.mk ((by rw [hg]; exact (below_size (by repeat (first | (with_reducible first | exact HB.out | apply below_alloc | apply pw_below_drewN | apply below_drew1) | exact HB.out))) : w.heap.size ≤ gb101)); have n3_ := Aside0.mk ((by rw [hg]; exact (below_size (by repeat (first | (with_reducible first | exact HB.out | apply below_alloc | apply pw_below_drewN | apply below_drew1) | exact HB.out))) : w.heap.size ≤ gb101)); clear HB; have HB := n0_; have BK101 := n1_; have GW101 := n2_; have GE101 := n3_; clear n0_ n1_ n2_ n3_; clear hb hbox hg)); try go_wp2_with (first | ((with_reducible refine gate_dst (N := 3) rfl ?_); refine box_event ?hg (N := 3) ?hd (cs := #[.int .i64 a1_0, .int .i64 a1_1]) (t := 80) ?hr ?_; (case hd => rfl); (case hg => rfl); (case hr => first | (go_simp; done) | (go_simp; rfl)); intro gb101 hg w3 hbox hb; have n0_ := Aside0.mk (below_step (by repeat (first | (with_reducible first | exact HB.out | apply below_alloc | apply pw_below_drewN | apply below_drew1) | exact HB.out)) hb); have n1_ := Aside0.mk (hbox); have n2_ := Aside0.mk ((by rw [hg]; exact (below_size (by repeat (first | (with_reducible first | exact HB.out | apply below_alloc | apply pw_below_drewN | apply below_drew1) | exact HB.out))) : w.heap.size ≤ gb101)); have n3_ := Aside0.mk ((by rw [hg]; exact (below_size (by repeat (first | (with_reducible first | exact HB.out | apply below_alloc | apply pw_below_drewN | apply below_drew1) | exact HB.out))) : w.heap.size ≤ gb101)); clear HB; have HB := n0_; have BK101 := n1_; have GW101 := n2_; have GE101 := n3_; clear n0_ n1_ n2_ n3_; clear hb hbox hg)))
 go_loopg [8] k (fun kq v8 w' => ∃ (x8_1 : Int), v8 = .int .i64 x8_1 ∧ Aside0 (impl_Point_168.l0 kq l0 (l0.length : Int) x8_1 a1_0 a1_1 = some r) ∧ Aside0 (kq ≤ k) ∧ Aside0 (w'.heap[gb101]? = some (.cells #[.int .i64 a1_0, .int .i64 a1_1] 80 (0, 0))) ∧ Aside0 (Below w.heap.size w w'))
 case atStart => exact ⟨(0), (by first | rfl | (simp; done) | (simp [*]; done)), H', ⟨Nat.le_refl _⟩, ⟨by (with_reducible repeat (first | refine blk_drewN ?_ _ | refine blk_drew ?_ | refine blk_alloc ?_ _)); exact BK101.out⟩, ⟨by repeat (first | (with_reducible first | exact HB.out | apply below_alloc | apply pw_below_drewN | apply below_drew1 | refine below_set ?_ GE101.out) | exact HB.out)⟩⟩
 case round =>
  clear H'
  try clear c1
  try clear p2
  obtain ⟨x8_1, rfl, HA, HK1, BK101, HB⟩ := hrel
  cases gk with
  | zero => exact absurd HA.out (by simp [impl_Point_168.l0])
  | succ k1 =>
   have H := HA.out
   clear HA
   simp only [impl_Point_168.l0] at H
   by_cases c4 : x8_1 < (l0.length : Int)
   ·rw [if_pos c4] at H
    have c4b0 : decide (x8_1 < (l0.length : Int)) = true := decide_eq_true c4
    clear c4
    by_cases c5 : 0 ≤ x8_1
    ·rw [if_pos c5] at H
     have c5b0 : decide (0 ≤ x8_1) = true := decide_eq_true c5
     clear c5
     by_cases c6 : x8_1 < (l0.length : Int)
     ·rw [if_pos c6] at H
      have c6b0 : decide (x8_1 < (l0.length : Int)) = true := decide_eq_true c6
      clear c6
      by_cases c7 : (a1_0 == ((rd_T80 l0 x8_1).f0) && (a1_1 == ((rd_T80 l0 x8_1).f1))) = true
      ·rw [if_pos c7] at H
       have c7b0 : (a1_0 == ((rd_T80 l0 x8_1).f0) && (a1_1 == ((rd_T80 l0 x8_1).f1))) = true := c7
       (try (have c7b1 : decide (a1_0 = ((rd_T80 l0 x8_1).f0) && (a1_1 == ((rd_T80 l0 x8_1).f1))) = true := by simpa using c7))
       (try (have c7b2 : (a1_0 == ((rd_T80 l0 x8_1).f0) && (a1_1 == ((rd_T80 l0 x8_1).f1))) = true := by simpa using c7))
       clear c7
       obtain rfl := Option.some.inj H
       have hcz8_0 : wr.cell? ⟨gb101, 0, none⟩ = some (.int .i64 a1_0) := (blk_cell BK101.out 0).trans rfl
       have hcz8_1 : wr.cell? ⟨gb101, 1, none⟩ = some (.int .i64 a1_1) := (blk_cell BK101.out 1).trans rfl
       have hfz8_0 := blk_frozen BK101.out 0
       have hfz8_1 := blk_frozen BK101.out 1
       have p102 : 0 ≤ (x8_1 : Int) := of_decide_eq_true (by first | (with_reducible assumption) | assumption)
       have q102 : x8_1 < (l0.length : Int) := of_decide_eq_true (by first | (with_reducible assumption) | assumption)
       obtain ⟨ad102, e102, hx102_0, hx102_1⟩ := at_T80 HR0.out x8_1 p102 q102
       cases e102
       replace hx102_0 := (HB.out.cell (World.block_lt_of_cell? w _ hx102_0)).trans hx102_0
       replace hx102_1 := (HB.out.cell (World.block_lt_of_cell? w _ hx102_1)).trans hx102_1
       replace p102 := eq_true p102
       replace q102 := eq_true q102
       go_wp2
       repeat (go_quiet (fail); try go_wp2)
       go_ret
       exact ⟨by first | rfl | (simp [errW_none, errW_some] <;> rfl) | (simp [*, errW_none, errW_some] <;> rfl), by repeat (first | (with_reducible first | exact HB.out | apply below_alloc | apply pw_below_drewN | apply below_drew1 | refine below_set ?_ GE101.out) | exact HB.out)⟩
      ·rw [if_neg c7] at H
       have c7b0 : (a1_0 == ((rd_T80 l0 x8_1).f0) && (a1_1 == ((rd_T80 l0 x8_1).f1))) = false := by simpa using c7
       (try (have c7b1 : decide (a1_0 = ((rd_T80 l0 x8_1).f0) && (a1_1 == ((rd_T80 l0 x8_1).f1))) = false := by simpa using c7))
       (try (have c7b2 : (a1_0 == ((rd_T80 l0 x8_1).f0) && (a1_1 == ((rd_T80 l0 x8_1).f1))) = false := by simpa using c7))
       (try (have c7b3 : ¬ (a1_0 = ((rd_T80 l0 x8_1).f0) && (a1_1 == ((rd_T80 l0 x8_1).f1))) := by simpa using c7))
       clear c7
       have H' := Aside0.mk H
       clear H
       have hcz9_0 : wr.cell? ⟨gb101, 0, none⟩ = some (.int .i64 a1_0) := (blk_cell BK101.out 0).trans rfl
       have hcz9_1 : wr.cell? ⟨gb101, 1, none⟩ = some (.int .i64 a1_1) := (blk_cell BK101.out 1).trans rfl
       have hfz9_0 := blk_frozen BK101.out 0
       have hfz9_1 := blk_frozen BK101.out 1
       have p102 : 0 ≤ (x8_1 : Int) := of_decide_eq_true (by first | (with_reducible assumption) | assumption)
       have q102 : x8_1 < (l0.length : Int) := of_decide_eq_true (by first | (with_reducible assumption) | assumption)
       obtain ⟨ad102, e102, hx102_0, hx102_1⟩ := at_T80 HR0.out x8_1 p102 q102
       cases e102
       replace hx102_0 := (HB.out.cell (World.block_lt_of_cell? w _ hx102_0)).trans hx102_0
       replace hx102_1 := (HB.out.cell (World.block_lt_of_cell? w _ hx102_1)).trans hx102_1
       replace p102 := eq_true p102
       replace q102 := eq_true q102
       go_wp2
       repeat (go_quiet (fail); try go_wp2)
       go_roundg k1
       case measure => have := HK1.out; omega
       case rel => exact ⟨(wrap64 (x8_1 + 1)), (by first | rfl | (simp; done) | (simp [*]; done)), H', ⟨by have := HK1.out; omega⟩, ⟨by (with_reducible repeat (first | refine blk_drewN ?_ _ | refine blk_drew ?_ | refine blk_alloc ?_ _)); exact BK101.out⟩, ⟨by repeat (first | (with_reducible first | exact HB.out | apply below_alloc | apply pw_below_drewN | apply below_drew1 | refine below_set ?_ GE101.out) | exact HB.out)⟩⟩
     ·rw [if_neg c6] at H
      exact absurd H (by simp)
    ·rw [if_neg c5] at H
     exact absurd H (by simp)
   ·rw [if_neg c4] at H
    have c4b0 : decide (x8_1 < (l0.length : Int)) = false := decide_eq_false c4
    clear c4
    obtain rfl := Option.some.inj H
    go_wp2
    repeat (go_quiet (fail); try go_wp2)
    go_ret
    exact ⟨by first | rfl | (simp [errW_none, errW_some] <;> rfl) | (simp [*, errW_none, errW_some] <;> rfl), by repeat (first | (with_reducible first | exact HB.out | apply below_alloc | apply pw_below_drewN | apply below_drew1 | refine below_set ?_ GE101.out) | exact HB.out)⟩

end Go.Proofs.Ytldcckcljjlglaa.P

namespace Go.Proofs.Ytldcckcljjlglaa.P
open Go.RowKit Go.Proofs.YtldcckcljjlglaaW.PrintWords Go.Proofs.YtldcckcljjlglaaW.PrintLast Go.Proofs.YtldcckcljjlglaaW.PrintMore
attribute [local go_sem] max2_int min2_int max_two min_two max_three min_three max_four min_four   -- for this text's walks alone
set_option linter.unusedVariables false
set_option linter.unusedSimpArgs false

/-! ### impl_Point_149: function 149 -/
def impl_Point_149.f (k : Nat) (l0 : List (S80)) (a1_0 : Int) (a1_1 : Int) : Option (Bool) := (impl_Point_168.f k l0 a1_0 a1_1).bind fun t102 => (some (decide (t102 ≥ 0)))
theorem impl_Point_149.mono : ∀ a0 a1 a2 k, LeO (impl_Point_149.f k a0 a1 a2) (impl_Point_149.f (k + 1) a0 a1 a2) := by
 intro a0 a1 a2 k
 unfold impl_Point_149.f
 repeat' first
   | (with_reducible exact impl_Point_168.mono _ _ _ _)
   | (with_reducible exact LeO.refl _)
   | (with_reducible exact LeO.none _)
   | (with_reducible refine LeO.ite ?_ ?_)
   | (with_reducible refine LeO.bind ?_ (fun _ => ?_))
   | exact impl_Point_168.mono _ _ _ _
   | exact LeO.none _
   | refine LeO.ite ?_ ?_
   | refine LeO.bind ?_ (fun _ => ?_)
set_option maxHeartbeats 8000000 in
set_option maxRecDepth 100000 in
theorem impl_Point_149.calls (k : Nat) (A0 : Option Addr) (c0 : Nat) (l0 : List (S80)) (a1_0 : Int) (a1_1 : Int) (r : Bool) (w : World) (hr0 : Kd.C k80 w A0 l0.length l0) (hc0 : l0.length ≤ c0) (h : impl_Point_149.f k l0 a1_0 a1_1 = some r) :
  Calls Try.prog 149 #[.slice A0 l0.length c0, .agg #[.int .i64 a1_0, .int .i64 a1_1]] w fun e w' => e = .returned (.bool r) ∧ Below w.heap.size w w' := by
 have hu80 := Try.underlying80
 have HR0 := Aside0.mk hr0
 have HC0 := Aside0.mk hc0
 clear hr0 hc0
 have HB := Aside0.mk (Below.refl w.heap.size w)
 have H : ((impl_Point_168.f k l0 a1_0 a1_1).bind fun t102 => (some (decide (t102 ≥ 0)))) = some r := h
 clear h
 replace H := Option.bind_eq_some_iff.mp H
 obtain ⟨t102, A30, H⟩ := H
 replace H : (some (decide (t102 ≥ 0))) = some r := H
 have A3 := Aside0.mk A30
 clear A30
 obtain rfl := Option.some.inj H
 go_enter Try.func149, Try.ntmps149
 go_wp2_with (first | ((with_reducible refine gate_dst (N := 3) rfl ?_); refine box_event ?hg (N := 3) ?hd (cs := #[.int .i64 a1_0, .int .i64 a1_1]) (t := 80) ?hr ?_; (case hd => rfl); (case hg => rfl); (case hr => first | (go_simp; done) | (go_simp; rfl)); intro gb101 hg w4 hbox hb; have n0_ := Aside0.mk (below_step (by repeat (first | (with_reducible first | exact HB.out | apply below_alloc | apply pw_below_drewN | apply below_drew1) | exact HB.out)) hb); have n1_ := Aside0.mk (hbox); have n2_ := Aside0.mk ((by rw [hg]; exact (below_size (by repeat (first | (with_reducible first | exact HB.out | apply below_alloc | apply pw_below_drewN | apply below_drew1) | exact HB.out))) : w.heap.size ≤ gb101)); have n3_ := Aside0.mk ((by rw [hg]; exact (below_size (by repeat (first | (with_reducible first | exact HB.out | apply below_alloc | apply pw_below_drewN | apply below_drew1) | exact HB.out))) : w.heap.size ≤ gb101)); clear HB; have HB := n0_; have BK101 := n1_; have GW101 := n2_; have GE101 := n3_; clear n0_ n1_ n2_ n3_; clear hb hbox hg; have hcz5_0 : w4.cell? ⟨gb101, 0, none⟩ = some (.int .i64 a1_0) := (blk_cell BK101.out 0).trans rfl; have hcz5_1 : w4.cell? ⟨gb101, 1, none⟩ = some (.int .i64 a1_1) := (blk_cell BK101.out 1).trans rfl; have hfz5_0 := blk_frozen BK101.out 0; have hfz5_1 := blk_frozen BK101.out 1) | ((with_reducible refine gate_callee (f := 168) rfl ?_); refine goesL_ (some 7) rfl rfl Try.func168 (by kernel_rfl) rfl #[.slice A0 l0.length c0, .agg #[.int .i64 a1_0, .int .i64 a1_1]] rfl (by (try simp only [List.map_toArray, List.map_cons, List.map_nil]); first | done | rfl | (simp only [List.length_drop, List.length_take]; rfl)) ?_; (with_reducible refine (impl_Point_168.calls k _ _ l0 a1_0 a1_1 t102 _ ?side1 ?side2 A3.out).mono ?_); (case side1 => repeat (first | exact (Kd.C_below HR0.out HB.out) | (with_reducible refine Kd.C_alloc ?_ _) | (with_reducible refine Kd.C_drewN ?_ _) | (with_reducible refine Kd.C_drew ?_))); (case side2 => exact HC0.out); rintro e w6 ⟨rfl, hb⟩; refine ⟨_, rfl, ?_⟩; have n0_ := Aside0.mk (blk_below (g := gb101) (o := .cells #[.int .i64 a1_0, .int .i64 a1_1] 80 (0, 0)) (by (with_reducible repeat (first | refine blk_drewN ?_ _ | refine blk_drew ?_ | refine blk_alloc ?_ _)); exact BK101.out) hb); have n1_ := Aside0.mk (below_step (by repeat (first | (with_reducible first | exact HB.out | apply below_alloc | apply pw_below_drewN | apply below_drew1 | refine below_set ?_ GE101.out) | exact HB.out)) hb); clear BK101; clear HB; have BK101 := n0_; have HB := n1_; clear n0_ n1_; (try clear hb); (try clear hb2); (try clear hk); (try clear hi)))
 go_ret
 exact ⟨by first | rfl | (simp [errW_none, errW_some] <;> rfl) | (simp [*, errW_none, errW_some] <;> rfl), by repeat (first | (with_reducible first | exact HB.out | apply below_alloc | apply pw_below_drewN | apply below_drew1 | refine below_set ?_ GE101.out) | exact HB.out)⟩

end Go.Proofs.Ytldcckcljjlglaa.P

namespace Go.Proofs.Ytldcckcljjlglaa.P
open Go.RowKit Go.Proofs.YtldcckcljjlglaaW.PrintWords Go.Proofs.YtldcckcljjlglaaW.PrintLast Go.Proofs.YtldcckcljjlglaaW.PrintMore
attribute [local go_sem] max2_int min2_int max_two min_two max_three min_three max_four min_four   -- for this text's walks alone
set_option linter.unusedVariables false
set_option linter.unusedSimpArgs false

/-! ### impl_areNear_1: function 169 -/
set_option maxHeartbeats 400000 in
theorem areNear_lit (x y most : Int) (B : Nat) (w : World) (hB : B < w.heap.size) (hc : w.cell? ⟨B, 0, none⟩ = some (.int .i64 most)) :
  Calls Try.prog 169 #[.agg #[.int .i64 x, .int .i64 y], .pointer (some ⟨B, 0, none⟩)] w fun e w' => e = .returned (.bool (farB x most || farB y most)) ∧ Below w.heap.size w w' := by
 have hu80 := Try.underlying80
 cases h0 : farB x most with
 | true =>
  have H0 := Aside0.mk h0
  clear h0
  go_enter Try.func169, Try.ntmps169
  go_wp2_with fail
  (with_reducible refine (impl_isFar.calls x most true _ (isFar_is x most H0.out)).mono ?_); rintro e w0 ⟨rfl, ⟨n0, rfl⟩⟩
  go_wp2_with fail
  go_ret
  exact ⟨rfl, by repeat (first | exact Below.refl _ _ | apply below_alloc | apply pw_below_drewN | apply below_drew1)⟩
 | false =>
  have H0 := Aside0.mk h0
  clear h0
  cases h1 : farB y most <;> have H1 := Aside0.mk h1 <;> clear h1
  all_goals
   go_enter Try.func169, Try.ntmps169
   go_wp2_with fail
   (with_reducible refine (impl_isFar.calls x most false _ (isFar_is x most H0.out)).mono ?_); rintro e w0 ⟨rfl, ⟨n0, rfl⟩⟩
   go_wp2_with fail
   (with_reducible refine (impl_isFar.calls y most _ _ (isFar_is y most H1.out)).mono ?_); rintro e w1 ⟨rfl, ⟨n1, rfl⟩⟩
   go_wp2_with fail
   go_ret
   exact ⟨rfl, by repeat (first | exact Below.refl _ _ | apply below_alloc | apply pw_below_drewN | apply below_drew1)⟩

end Go.Proofs.Ytldcckcljjlglaa.P

namespace Go.Proofs.Ytldcckcljjlglaa.P
open Go.RowKit Go.Proofs.YtldcckcljjlglaaW.PrintWords Go.Proofs.YtldcckcljjlglaaW.PrintLast Go.Proofs.YtldcckcljjlglaaW.PrintMore
attribute [local go_sem] max2_int min2_int max_two min_two max_three min_three max_four min_four   -- for this text's walks alone
set_option linter.unusedVariables false
set_option linter.unusedSimpArgs false

/-! ### impl_areNear: function 150 -/
def outPoint (most : Int) (p : S80) : Bool := farB p.f0 most || farB p.f1 most
def impl_areNear.f (a0 : Int) (l1 : List S80) : Option Bool := some (!l1.any (outPoint a0))
set_option maxHeartbeats 400000 in
theorem impl_areNear.calls (a0 : Int) (A1 : Option Addr) (c1 : Nat) (l1 : List S80) (r : Bool) (w : World) (hr1 : Kd.C k80 w A1 l1.length l1) (hc1 : l1.length ≤ c1) (h : impl_areNear.f a0 l1 = some r) :
  Calls Try.prog 150 #[.int .i64 a0, .slice A1 l1.length c1] w fun e w' => e = .returned (.bool r) ∧ Below w.heap.size w w' := by
 have H : (!l1.any (outPoint a0)) = r := Option.some.inj h
 have HH := Aside0.mk H
 clear H h
 have HR := Aside0.mk hr1
 clear hr1
 have eg : ∀ (args : Array Value) (w : World), (callFunc 169 args).run Try.prog w = .ok (.enter 169 args) w := enters_of Try.func169 (by kernel_rfl) rfl
 go_enter Try.func150, Try.ntmps150
 go_wp2_with fail
 (with_reducible refine (containsPoint_calls 169 _ eg (outPoint a0) A1 c1 l1 _ ?side1 hc1 ?side2).mono ?_)
 case side1 => repeat (first | exact HR.out | (with_reducible refine Kd.C_alloc ?_ _) | (with_reducible refine Kd.C_drewN ?_ _) | (with_reducible refine Kd.C_drew ?_))
 case side2 =>
  intro W x hb
  have hlt : w.heap.size < W.heap.size := by have := hb.size; simp at this; omega
  exact areNear_lit x.f0 x.f1 a0 w.heap.size W hlt ((hb.cell (p := ⟨w.heap.size, 0, none⟩) (by simp)).trans (by simp))
 rintro e w1 ⟨rfl, hb⟩
 go_wp2_with fail
 go_ret
 exact ⟨by rw [← HH.out]; rfl, below_step (by repeat (first | exact Below.refl _ _ | apply below_alloc | apply pw_below_drewN | apply below_drew1)) hb⟩

end Go.Proofs.Ytldcckcljjlglaa.P

namespace Go.Proofs.Ytldcckcljjlglaa.P
open Go.RowKit Go.Proofs.YtldcckcljjlglaaW.PrintWords Go.Proofs.YtldcckcljjlglaaW.PrintLast Go.Proofs.YtldcckcljjlglaaW.PrintMore
attribute [local go_sem] max2_int min2_int max_two min_two max_three min_three max_four min_four   -- for this text's walks alone
set_option linter.unusedVariables false
set_option linter.unusedSimpArgs false

/-! ### impl_areSix: function 128 -/
def impl_areSix.l0 : Nat → List (S80) → List (S80) → Int → Int → Option (Bool)
 | 0, _, _, _, _ => none
 | k + 1, x0, x5, x6, x7 => if x7 < x6 then (if 0 ≤ x7 then (if x7 < (x5.length : Int) then (if x7 ≤ (x0.length : Int) then ((impl_Point_149.f k (x0.take (x7 : Int).toNat) ((rd_T80 x5 x7).f0) ((rd_T80 x5 x7).f1)).bind fun t107 => (if t107 = true then (some false) else (impl_areSix.l0 k x0 x5 x6 (wrap64 (x7 + 1))))) else (none)) else (none)) else (none)) else (if (x0.length : Int) = 6 then ((impl_areNear.f 20 x0).bind fun t108 => (some t108)) else (some false))
def impl_areSix.f (k : Nat) (l0 : List (S80)) : Option (Bool) := impl_areSix.l0 k l0 l0 (l0.length : Int) 0
theorem impl_areSix.mono_l : ∀ k, (∀ y0 y1 y2 y3, LeO (impl_areSix.l0 k y0 y1 y2 y3) (impl_areSix.l0 (k + 1) y0 y1 y2 y3))
 | 0 => fun _ _ _ _ r h => by simp [impl_areSix.l0] at h
 | k + 1 => by
  have ih0 := impl_areSix.mono_l k
  ·intro y0 y1 y2 y3
   unfold impl_areSix.l0
   repeat' first
   | (with_reducible exact ih0 _ _ _ _)
   | (with_reducible exact impl_Point_149.mono _ _ _ _)
   | (with_reducible exact LeO.refl _)
   | (with_reducible exact LeO.none _)
   | (with_reducible refine LeO.ite ?_ ?_)
   | (with_reducible refine LeO.bind ?_ (fun _ => ?_))
   | exact ih0 _ _ _ _
   | exact impl_Point_149.mono _ _ _ _
   | exact LeO.none _
   | refine LeO.ite ?_ ?_
   | refine LeO.bind ?_ (fun _ => ?_)
theorem impl_areSix.mono : ∀ a0 k, LeO (impl_areSix.f k a0) (impl_areSix.f (k + 1) a0) := by
 intro a0 k
 have ih0 := impl_areSix.mono_l k
 unfold impl_areSix.f
 repeat' first
   | (with_reducible exact ih0 _ _ _ _)
   | (with_reducible exact impl_Point_149.mono _ _ _ _)
   | (with_reducible exact LeO.refl _)
   | (with_reducible exact LeO.none _)
   | (with_reducible refine LeO.ite ?_ ?_)
   | (with_reducible refine LeO.bind ?_ (fun _ => ?_))
   | exact ih0 _ _ _ _
   | exact impl_Point_149.mono _ _ _ _
   | exact LeO.none _
   | refine LeO.ite ?_ ?_
   | refine LeO.bind ?_ (fun _ => ?_)
set_option maxHeartbeats 8000000 in
set_option maxRecDepth 100000 in
theorem impl_areSix.calls (k : Nat) (A0 : Option Addr) (c0 : Nat) (l0 : List (S80)) (r : Bool) (w : World) (hr0 : Kd.C k80 w A0 l0.length l0) (hc0 : l0.length ≤ c0) (h : impl_areSix.f k l0 = some r) :
  Calls Try.prog 128 #[.slice A0 l0.length c0] w fun e w' => e = .returned (.bool r) ∧ Below w.heap.size w w' := by
 have hu80 := Try.underlying80
 have HR0 := Aside0.mk hr0
 have HC0 := Aside0.mk hc0
 clear hr0 hc0
 have HB := Aside0.mk (Below.refl w.heap.size w)
 have H : (impl_areSix.l0 k l0 l0 (l0.length : Int) 0) = some r := h
 clear h
 have H' := Aside0.mk H
 clear H
 go_enter Try.func128, Try.ntmps128
 go_wp2
 go_loopg [7] k (fun kq v7 w' => ∃ (x7_1 : Int), v7 = .int .i64 x7_1 ∧ Aside0 (impl_areSix.l0 kq l0 l0 (l0.length : Int) x7_1 = some r) ∧ Aside0 (kq ≤ k) ∧ Aside0 (Below w.heap.size w w'))
 case atStart => exact ⟨(0), (by first | rfl | (simp; done) | (simp [*]; done)), H', ⟨Nat.le_refl _⟩, ⟨by repeat (first | (with_reducible first | exact HB.out | apply below_alloc | apply pw_below_drewN | apply below_drew1) | exact HB.out)⟩⟩
 case round =>
  clear H'
  try clear c1
  obtain ⟨x7_1, rfl, HA, HK1, HB⟩ := hrel
  cases gk with
  | zero => exact absurd HA.out (by simp [impl_areSix.l0])
  | succ k1 =>
   have H := HA.out
   clear HA
   simp only [impl_areSix.l0] at H
   by_cases c2 : x7_1 < (l0.length : Int)
   ·rw [if_pos c2] at H
    have c2b0 : decide (x7_1 < (l0.length : Int)) = true := decide_eq_true c2
    clear c2
    by_cases c3 : 0 ≤ x7_1
    ·rw [if_pos c3] at H
     have c3b0 : decide (0 ≤ x7_1) = true := decide_eq_true c3
     clear c3
     by_cases c4 : x7_1 < (l0.length : Int)
     ·rw [if_pos c4] at H
      have c4b0 : decide (x7_1 < (l0.length : Int)) = true := decide_eq_true c4
      clear c4
      have c5b0 := eq_true (of_decide_eq_true (by first | (with_reducible assumption) | assumption) : 0 ≤ x7_1)
      by_cases c6 : x7_1 ≤ (l0.length : Int)
      ·rw [if_pos c6] at H
       have c6b0 := eq_true c6
       have c6b1 : decide (x7_1 ≤ (l0.length : Int)) = true := decide_eq_true c6
       clear c6
       obtain ⟨y103, hy103⟩ : ∃ y_ : List (S80), y_ = (l0.take (x7_1 : Int).toNat) := ⟨_, rfl⟩
       replace H : ((impl_Point_149.f k1 y103 ((rd_T80 l0 x7_1).f0) ((rd_T80 l0 x7_1).f1)).bind fun t107 => (if t107 = true then (some false) else (impl_areSix.l0 k1 l0 l0 (l0.length : Int) (wrap64 (x7_1 + 1))))) = some r := by first | (rw [hy103]; with_reducible exact H) | (have H2_ := (Option.bind_some _ _).symm.trans H; rw [hy103]; with_reducible exact H2_) | (have H2_ := (Option.bind_some _ _).symm.trans H; with_reducible exact H2_) | with_reducible exact H | (rw [hy103]; exact H) | exact H
       have Ny103 := Aside0.mk hy103
       clear hy103
       replace H := Option.bind_eq_some_iff.mp H
       obtain ⟨t107, A70, H⟩ := H
       replace H : (if t107 = true then (some false) else (impl_areSix.l0 k1 l0 l0 (l0.length : Int) (wrap64 (x7_1 + 1)))) = some r := H
       have A7 := Aside0.mk A70
       clear A70
       by_cases c8 : t107 = true
       ·subst c8
        have H1 : (some false) = some r := by rw [if_pos rfl] at H; exact H
        clear H
        have H := H1
        clear H1
        obtain rfl := Option.some.inj H
        have p101 : 0 ≤ (x7_1 : Int) := of_decide_eq_true (by first | (with_reducible assumption) | assumption)
        have q101 : x7_1 < (l0.length : Int) := of_decide_eq_true (by first | (with_reducible assumption) | assumption)
        obtain ⟨ad101, e101, hx101_0, hx101_1⟩ := at_T80 HR0.out x7_1 p101 q101
        cases e101
        replace hx101_0 := (HB.out.cell (World.block_lt_of_cell? w _ hx101_0)).trans hx101_0
        replace hx101_1 := (HB.out.cell (World.block_lt_of_cell? w _ hx101_1)).trans hx101_1
        replace p101 := eq_true p101
        replace q101 := eq_true q101
        try go_wp2_with (first | ((with_reducible refine gate_dst (N := 4) rfl ?_); refine box_event ?hg (N := 4) ?hd (cs := #[.int .i64 0, .int .i64 0]) (t := 80) ?hr ?_; (case hd => rfl); (case hg => rfl); (case hr => first | (go_simp; done) | (go_simp; rfl)); intro gb102 hg w9 hbox hb; have n0_ := Aside0.mk (below_step (by repeat (first | (with_reducible first | exact HB.out | apply below_alloc | apply pw_below_drewN | apply below_drew1) | exact HB.out)) hb); have n1_ := Aside0.mk (hbox); have n2_ := Aside0.mk ((by rw [hg]; exact (below_size (by repeat (first | (with_reducible first | exact HB.out | apply below_alloc | apply pw_below_drewN | apply below_drew1) | exact HB.out))) : w.heap.size ≤ gb102)); have n3_ := Aside0.mk ((by rw [hg]; exact (below_size (by repeat (first | (with_reducible first | exact HB.out | apply below_alloc | apply pw_below_drewN | apply below_drew1) | exact HB.out))) : w.heap.size ≤ gb102)); clear HB; have HB := n0_; have BK102 := n1_; have GW102 := n2_; have GE102 := n3_; clear n0_ n1_ n2_ n3_; clear hb hbox hg; have hcz10_0 : w9.cell? ⟨gb102, 0, none⟩ = some (.int .i64 0) := (blk_cell BK102.out 0).trans rfl; have hcz10_1 : w9.cell? ⟨gb102, 1, none⟩ = some (.int .i64 0) := (blk_cell BK102.out 1).trans rfl; have hfz10_0 := blk_frozen BK102.out 0; have hfz10_1 := blk_frozen BK102.out 1))
        have n0_ : Aside0 (((w9.setCell ⟨gb102, 0, none⟩ (.int .i64 ((rd_T80 l0 x7_1).f0))).setCell ⟨gb102, 1, none⟩ (.int .i64 ((rd_T80 l0 x7_1).f1))).heap[gb102]? = some (.cells #[.int .i64 ((rd_T80 l0 x7_1).f0), .int .i64 ((rd_T80 l0 x7_1).f1)] 80 (0, 0))) := ⟨by (with_reducible repeat (first | refine blk_drewN ?_ _ | refine blk_drew ?_ | refine blk_alloc ?_ _)); refine blk_put (cs := #[.int .i64 ((rd_T80 l0 x7_1).f0), .int .i64 0]) ?_ 1 _ rfl; (with_reducible repeat (first | refine blk_drewN ?_ _ | refine blk_drew ?_ | refine blk_alloc ?_ _)); refine blk_put (cs := #[.int .i64 0, .int .i64 0]) ?_ 0 _ rfl; (with_reducible repeat (first | refine blk_drewN ?_ _ | refine blk_drew ?_ | refine blk_alloc ?_ _)); exact BK102.out⟩
        have n1_ : Aside0 (Below w.heap.size w ((w9.setCell ⟨gb102, 0, none⟩ (.int .i64 ((rd_T80 l0 x7_1).f0))).setCell ⟨gb102, 1, none⟩ (.int .i64 ((rd_T80 l0 x7_1).f1)))) := ⟨by repeat (first | (with_reducible first | exact HB.out | apply below_alloc | apply pw_below_drewN | apply below_drew1 | refine below_set ?_ GE102.out) | exact HB.out)⟩
        (try clear BK102)
        (try clear HB)
        generalize ((w9.setCell ⟨gb102, 0, none⟩ (.int .i64 ((rd_T80 l0 x7_1).f0))).setCell ⟨gb102, 1, none⟩ (.int .i64 ((rd_T80 l0 x7_1).f1))) = w11 at n0_ n1_ ⊢
        have BK102 := n0_
        have HB := n1_
        clear n0_ n1_
        have n0_ := Aside0.mk (blk_drew BK102.out)
        have n1_ := Aside0.mk (below_drew1 HB.out)
        clear BK102
        clear HB
        have BK102 := n0_
        have HB := n1_
        clear n0_ n1_
        have q13 : (x7_1 : Int) ≤ ((l0.length : Int) : Int) := of_decide_eq_true (by first | (with_reducible assumption) | assumption)
        obtain ⟨i013, hi013, _, hsz13, _⟩ := info_parts info80
        have hroom13 : l0.length ≤ c0 := HC0.out
        have hC13 : Kd.C k80 _ (some ad101) l0.length l0 := HR0.out
        have hcut13 := cut_to (P := Try.prog) 61 80 .i64 Try.underlying61 hi013 (some ad101) l0.length c0 x7_1 (of_decide_eq_true (by first | (with_reducible assumption) | assumption)) q13 hroom13
        have hr13 := Kd.C_take (m := (x7_1 : Int).toNat) hC13 (by omega)
        have hy13 : y103.length = (x7_1 : Int).toNat := (by rw [Ny103.out, List.length_take]; omega)
        rw [← Ny103.out] at hr13
        rw [← hy13] at hcut13
        have HR106 := Aside0.mk hr13
        have HC106 := Aside0.mk (show y103.length ≤ c0 from by omega)
        clear hr13 hC13 hroom13 hi013 hsz13
        have KY13 := Aside0.mk hy13
        clear hy13
        replace q13 := eq_true q13
        refine start_ (n := 5) (S := fun w' => w'.cell? ⟨gb102, 0, none⟩ = some (.int .i64 ((rd_T80 l0 x7_1).f0)) ∧ w'.cell? ⟨gb102, 1, none⟩ = some (.int .i64 ((rd_T80 l0 x7_1).f1))) (ds := []) (bm 5 0) (by kernel_rfl) rfl rfl ⟨(blk_cell BK102.out 0).trans rfl, (blk_cell BK102.out 1).trans rfl⟩ (fun hHeld => ?_)
        generalize w11.drew = w12 at BK102 HB HR106 hHeld ⊢
        refine pure_ (i := 0) (N := some 12) (v := ?_) (a' := ?_) (bm 5 1) rfl rfl (by kernel_rfl) (fun _ _ _ h => h) (Or.inl ⟨by rfl, ?_⟩) ?_ ?_
        rotate_left
        ·intro w'
         go_simp
         with_reducible rfl
        rotate_left
        ·simp only [Act.put, List.setIfInBounds_toArray, List.set_cons_zero, List.set_cons_succ, i64_w, i32_w]
         rfl
        refine pure_ (i := 1) (N := some 13) (v := ?_) (a' := ?_) (bm 5 3) rfl rfl (by kernel_rfl) (fun _ _ _ h => h) (Or.inl ⟨by rfl, ?_⟩) ?_ ?_
        rotate_left
        ·intro w'
         go_simp
         with_reducible rfl
        rotate_left
        ·simp only [Act.put, List.setIfInBounds_toArray, List.set_cons_zero, List.set_cons_succ, i64_w, i32_w]
         rfl
        refine pure_ (i := 2) (N := some 14) (v := ?_) (a' := ?_) (bm 5 7) rfl rfl (by kernel_rfl) (fun _ _ _ h => h) (Or.inl ⟨by rfl, ?_⟩) ?_ ?_
        rotate_left
        ·intro w'
         go_simp
         with_reducible rfl
        rotate_left
        ·simp only [Act.put, List.setIfInBounds_toArray, List.set_cons_zero, List.set_cons_succ, i64_w, i32_w]
         rfl
        refine take_ (i := 3) (N := some 15) (v := ?_) (a' := ?_) (bm 5 15) rfl rfl (by kernel_rfl) (fun _ _ _ h => h) (Or.inl ⟨by rfl, ?_⟩) hHeld ?_ ?_
        rotate_left
        ·rintro w' ⟨s0, s1⟩
         go_simp
         with_reducible rfl
        rotate_left
        ·simp only [Act.put, List.setIfInBounds_toArray, List.set_cons_zero, List.set_cons_succ, i64_w, i32_w]
         rfl
        refine one_ (i := 4) (N := some 16) (bm 5 31) rfl rfl (by kernel_rfl) (by decide) (fun K hK => ?_)
        refine goes_ Try.func149 (by kernel_rfl) rfl #[.slice (some ad101) y103.length c0, .agg #[.int .i64 ((rd_T80 l0 x7_1).f0), .int .i64 ((rd_T80 l0 x7_1).f1)]] (by rfl) rfl rfl (by (try simp only [List.map_toArray, List.map_cons, List.map_nil]); first | done | rfl | (simp only [List.length_drop, List.length_take]; rfl)) ?_
        with_reducible refine (impl_Point_149.calls k1 _ _ y103 ((rd_T80 l0 x7_1).f0) ((rd_T80 l0 x7_1).f1) true _ ?side1 ?side2 A7.out).mono ?_
        (case side1 => repeat (first | exact (Kd.C_below HR106.out HB.out) | (with_reducible refine Kd.C_alloc ?_ _) | (with_reducible refine Kd.C_drewN ?_ _) | (with_reducible refine Kd.C_drew ?_)))
        (case side2 => exact HC106.out)
        rintro e w14 ⟨rfl, hb⟩
        refine ⟨_, rfl, ?_⟩
        have n0_ := Aside0.mk (blk_below (g := gb102) (o := .cells #[.int .i64 ((rd_T80 l0 x7_1).f0), .int .i64 ((rd_T80 l0 x7_1).f1)] 80 (0, 0)) (by (with_reducible repeat (first | refine blk_drewN ?_ _ | refine blk_drew ?_ | refine blk_alloc ?_ _)); exact BK102.out) hb)
        have n1_ := Aside0.mk (below_step (by repeat (first | (with_reducible first | exact HB.out | apply below_alloc | apply pw_below_drewN | apply below_drew1 | refine below_set ?_ GE102.out) | exact HB.out)) hb)
        clear BK102
        clear HB
        have BK102 := n0_
        have HB := n1_
        clear n0_ n1_
        (try clear hb)
        (try clear hb2)
        (try clear hk)
        (try clear hi)
        refine hK.out _ _ ⟨(blk_cell BK102.out 0).trans rfl, (blk_cell BK102.out 1).trans rfl⟩ (fun hHeld => ?_)
        clear hK K
        refine norm_ (a' := ?_) ?_ ?_
        rotate_left
        ·show Act.put _ (some 16) _ = _
         simp only [Act.put, List.setIfInBounds_toArray, List.set_cons_zero, List.set_cons_succ, i64_w, i32_w]
         rfl
        refine done_ (by kernel_rfl) ?_
        try go_wp2
        go_ret
        exact ⟨by first | rfl | (simp [errW_none, errW_some] <;> rfl) | (simp [*, errW_none, errW_some] <;> rfl), by repeat (first | (with_reducible first | exact HB.out | apply below_alloc | apply pw_below_drewN | apply below_drew1 | refine below_set ?_ GE102.out) | exact HB.out)⟩
       ·replace c8 := Bool.eq_false_iff.mpr c8
        subst c8
        have H1 : (impl_areSix.l0 k1 l0 l0 (l0.length : Int) (wrap64 (x7_1 + 1))) = some r := by rw [if_neg (show ¬ (false = true) by decide)] at H; exact H
        clear H
        have H := H1
        clear H1
        have H' := Aside0.mk H
        clear H
        have p101 : 0 ≤ (x7_1 : Int) := of_decide_eq_true (by first | (with_reducible assumption) | assumption)
        have q101 : x7_1 < (l0.length : Int) := of_decide_eq_true (by first | (with_reducible assumption) | assumption)
        obtain ⟨ad101, e101, hx101_0, hx101_1⟩ := at_T80 HR0.out x7_1 p101 q101
        cases e101
        replace hx101_0 := (HB.out.cell (World.block_lt_of_cell? w _ hx101_0)).trans hx101_0
        replace hx101_1 := (HB.out.cell (World.block_lt_of_cell? w _ hx101_1)).trans hx101_1
        replace p101 := eq_true p101
        replace q101 := eq_true q101
        try go_wp2_with (first | ((with_reducible refine gate_dst (N := 4) rfl ?_); refine box_event ?hg (N := 4) ?hd (cs := #[.int .i64 0, .int .i64 0]) (t := 80) ?hr ?_; (case hd => rfl); (case hg => rfl); (case hr => first | (go_simp; done) | (go_simp; rfl)); intro gb102 hg w15 hbox hb; have n0_ := Aside0.mk (below_step (by repeat (first | (with_reducible first | exact HB.out | apply below_alloc | apply pw_below_drewN | apply below_drew1) | exact HB.out)) hb); have n1_ := Aside0.mk (hbox); have n2_ := Aside0.mk ((by rw [hg]; exact (below_size (by repeat (first | (with_reducible first | exact HB.out | apply below_alloc | apply pw_below_drewN | apply below_drew1) | exact HB.out))) : w.heap.size ≤ gb102)); have n3_ := Aside0.mk ((by rw [hg]; exact (below_size (by repeat (first | (with_reducible first | exact HB.out | apply below_alloc | apply pw_below_drewN | apply below_drew1) | exact HB.out))) : w.heap.size ≤ gb102)); clear HB; have HB := n0_; have BK102 := n1_; have GW102 := n2_; have GE102 := n3_; clear n0_ n1_ n2_ n3_; clear hb hbox hg; have hcz16_0 : w15.cell? ⟨gb102, 0, none⟩ = some (.int .i64 0) := (blk_cell BK102.out 0).trans rfl; have hcz16_1 : w15.cell? ⟨gb102, 1, none⟩ = some (.int .i64 0) := (blk_cell BK102.out 1).trans rfl; have hfz16_0 := blk_frozen BK102.out 0; have hfz16_1 := blk_frozen BK102.out 1))
        have n0_ : Aside0 (((w15.setCell ⟨gb102, 0, none⟩ (.int .i64 ((rd_T80 l0 x7_1).f0))).setCell ⟨gb102, 1, none⟩ (.int .i64 ((rd_T80 l0 x7_1).f1))).heap[gb102]? = some (.cells #[.int .i64 ((rd_T80 l0 x7_1).f0), .int .i64 ((rd_T80 l0 x7_1).f1)] 80 (0, 0))) := ⟨by (with_reducible repeat (first | refine blk_drewN ?_ _ | refine blk_drew ?_ | refine blk_alloc ?_ _)); refine blk_put (cs := #[.int .i64 ((rd_T80 l0 x7_1).f0), .int .i64 0]) ?_ 1 _ rfl; (with_reducible repeat (first | refine blk_drewN ?_ _ | refine blk_drew ?_ | refine blk_alloc ?_ _)); refine blk_put (cs := #[.int .i64 0, .int .i64 0]) ?_ 0 _ rfl; (with_reducible repeat (first | refine blk_drewN ?_ _ | refine blk_drew ?_ | refine blk_alloc ?_ _)); exact BK102.out⟩
        have n1_ : Aside0 (Below w.heap.size w ((w15.setCell ⟨gb102, 0, none⟩ (.int .i64 ((rd_T80 l0 x7_1).f0))).setCell ⟨gb102, 1, none⟩ (.int .i64 ((rd_T80 l0 x7_1).f1)))) := ⟨by repeat (first | (with_reducible first | exact HB.out | apply below_alloc | apply pw_below_drewN | apply below_drew1 | refine below_set ?_ GE102.out) | exact HB.out)⟩
        (try clear BK102)
        (try clear HB)
        generalize ((w15.setCell ⟨gb102, 0, none⟩ (.int .i64 ((rd_T80 l0 x7_1).f0))).setCell ⟨gb102, 1, none⟩ (.int .i64 ((rd_T80 l0 x7_1).f1))) = w17 at n0_ n1_ ⊢
        have BK102 := n0_
        have HB := n1_
        clear n0_ n1_
        have n0_ := Aside0.mk (blk_drew BK102.out)
        have n1_ := Aside0.mk (below_drew1 HB.out)
        clear BK102
        clear HB
        have BK102 := n0_
        have HB := n1_
        clear n0_ n1_
        have q19 : (x7_1 : Int) ≤ ((l0.length : Int) : Int) := of_decide_eq_true (by first | (with_reducible assumption) | assumption)
        obtain ⟨i019, hi019, _, hsz19, _⟩ := info_parts info80
        have hroom19 : l0.length ≤ c0 := HC0.out
        have hC19 : Kd.C k80 _ (some ad101) l0.length l0 := HR0.out
        have hcut19 := cut_to (P := Try.prog) 61 80 .i64 Try.underlying61 hi019 (some ad101) l0.length c0 x7_1 (of_decide_eq_true (by first | (with_reducible assumption) | assumption)) q19 hroom19
        have hr19 := Kd.C_take (m := (x7_1 : Int).toNat) hC19 (by omega)
        have hy19 : y103.length = (x7_1 : Int).toNat := (by rw [Ny103.out, List.length_take]; omega)
        rw [← Ny103.out] at hr19
        rw [← hy19] at hcut19
        have HR106 := Aside0.mk hr19
        have HC106 := Aside0.mk (show y103.length ≤ c0 from by omega)
        clear hr19 hC19 hroom19 hi019 hsz19
        have KY19 := Aside0.mk hy19
        clear hy19
        replace q19 := eq_true q19
        refine start_ (n := 5) (S := fun w' => w'.cell? ⟨gb102, 0, none⟩ = some (.int .i64 ((rd_T80 l0 x7_1).f0)) ∧ w'.cell? ⟨gb102, 1, none⟩ = some (.int .i64 ((rd_T80 l0 x7_1).f1))) (ds := []) (bm 5 0) (by kernel_rfl) rfl rfl ⟨(blk_cell BK102.out 0).trans rfl, (blk_cell BK102.out 1).trans rfl⟩ (fun hHeld => ?_)
        generalize w17.drew = w18 at BK102 HB HR106 hHeld ⊢
        refine pure_ (i := 0) (N := some 12) (v := ?_) (a' := ?_) (bm 5 1) rfl rfl (by kernel_rfl) (fun _ _ _ h => h) (Or.inl ⟨by rfl, ?_⟩) ?_ ?_
        rotate_left
        ·intro w'
         go_simp
         with_reducible rfl
        rotate_left
        ·simp only [Act.put, List.setIfInBounds_toArray, List.set_cons_zero, List.set_cons_succ, i64_w, i32_w]
         rfl
        refine pure_ (i := 1) (N := some 13) (v := ?_) (a' := ?_) (bm 5 3) rfl rfl (by kernel_rfl) (fun _ _ _ h => h) (Or.inl ⟨by rfl, ?_⟩) ?_ ?_
        rotate_left
        ·intro w'
         go_simp
         with_reducible rfl
        rotate_left
        ·simp only [Act.put, List.setIfInBounds_toArray, List.set_cons_zero, List.set_cons_succ, i64_w, i32_w]
         rfl
        refine pure_ (i := 2) (N := some 14) (v := ?_) (a' := ?_) (bm 5 7) rfl rfl (by kernel_rfl) (fun _ _ _ h => h) (Or.inl ⟨by rfl, ?_⟩) ?_ ?_
        rotate_left
        ·intro w'
         go_simp
         with_reducible rfl
        rotate_left
        ·simp only [Act.put, List.setIfInBounds_toArray, List.set_cons_zero, List.set_cons_succ, i64_w, i32_w]
         rfl
        refine take_ (i := 3) (N := some 15) (v := ?_) (a' := ?_) (bm 5 15) rfl rfl (by kernel_rfl) (fun _ _ _ h => h) (Or.inl ⟨by rfl, ?_⟩) hHeld ?_ ?_
        rotate_left
        ·rintro w' ⟨s0, s1⟩
         go_simp
         with_reducible rfl
        rotate_left
        ·simp only [Act.put, List.setIfInBounds_toArray, List.set_cons_zero, List.set_cons_succ, i64_w, i32_w]
         rfl
        refine one_ (i := 4) (N := some 16) (bm 5 31) rfl rfl (by kernel_rfl) (by decide) (fun K hK => ?_)
        refine goes_ Try.func149 (by kernel_rfl) rfl #[.slice (some ad101) y103.length c0, .agg #[.int .i64 ((rd_T80 l0 x7_1).f0), .int .i64 ((rd_T80 l0 x7_1).f1)]] (by rfl) rfl rfl (by (try simp only [List.map_toArray, List.map_cons, List.map_nil]); first | done | rfl | (simp only [List.length_drop, List.length_take]; rfl)) ?_
        with_reducible refine (impl_Point_149.calls k1 _ _ y103 ((rd_T80 l0 x7_1).f0) ((rd_T80 l0 x7_1).f1) false _ ?side1 ?side2 A7.out).mono ?_
        (case side1 => repeat (first | exact (Kd.C_below HR106.out HB.out) | (with_reducible refine Kd.C_alloc ?_ _) | (with_reducible refine Kd.C_drewN ?_ _) | (with_reducible refine Kd.C_drew ?_)))
        (case side2 => exact HC106.out)
        rintro e w20 ⟨rfl, hb⟩
        refine ⟨_, rfl, ?_⟩
        have n0_ := Aside0.mk (blk_below (g := gb102) (o := .cells #[.int .i64 ((rd_T80 l0 x7_1).f0), .int .i64 ((rd_T80 l0 x7_1).f1)] 80 (0, 0)) (by (with_reducible repeat (first | refine blk_drewN ?_ _ | refine blk_drew ?_ | refine blk_alloc ?_ _)); exact BK102.out) hb)
        have n1_ := Aside0.mk (below_step (by repeat (first | (with_reducible first | exact HB.out | apply below_alloc | apply pw_below_drewN | apply below_drew1 | refine below_set ?_ GE102.out) | exact HB.out)) hb)
        clear BK102
        clear HB
        have BK102 := n0_
        have HB := n1_
        clear n0_ n1_
        (try clear hb)
        (try clear hb2)
        (try clear hk)
        (try clear hi)
        refine hK.out _ _ ⟨(blk_cell BK102.out 0).trans rfl, (blk_cell BK102.out 1).trans rfl⟩ (fun hHeld => ?_)
        clear hK K
        refine norm_ (a' := ?_) ?_ ?_
        rotate_left
        ·show Act.put _ (some 16) _ = _
         simp only [Act.put, List.setIfInBounds_toArray, List.set_cons_zero, List.set_cons_succ, i64_w, i32_w]
         rfl
        refine done_ (by kernel_rfl) ?_
        try go_wp2
        go_roundg k1
        case measure => have := HK1.out; omega
        case rel => exact ⟨(wrap64 (x7_1 + 1)), (by first | rfl | (simp; done) | (simp [*]; done)), H', ⟨by have := HK1.out; omega⟩, ⟨by repeat (first | (with_reducible first | exact HB.out | apply below_alloc | apply pw_below_drewN | apply below_drew1 | refine below_set ?_ GE102.out) | exact HB.out)⟩⟩
      ·rw [if_neg c6] at H
       exact absurd H (by simp)
     ·rw [if_neg c4] at H
      exact absurd H (by simp)
    ·rw [if_neg c3] at H
     exact absurd H (by simp)
   ·rw [if_neg c2] at H
    have c2b0 : decide (x7_1 < (l0.length : Int)) = false := decide_eq_false c2
    clear c2
    by_cases c21 : (l0.length : Int) = 6
    ·rw [if_pos c21] at H
     have c21b0 : ((l0.length : Int) == 6) = true := beq_iff_eq.mpr c21
     have c21b1 : ((l0.length : Int) != 6) = false := bne_eq_false_iff_eq.mpr c21
     clear c21
     replace H := Option.bind_eq_some_iff.mp H
     obtain ⟨t108, A220, H⟩ := H
     replace H : (some t108) = some r := H
     have A22 := Aside0.mk A220
     clear A220
     obtain rfl := Option.some.inj H
     go_wp2_with (first | (go_at_call 150; (with_reducible refine (impl_areNear.calls 20 _ _ l0 t108 _ ?side1 ?side2 A22.out).mono ?_); (case side1 => repeat (first | exact (Kd.C_below HR0.out HB.out) | (with_reducible refine Kd.C_alloc ?_ _) | (with_reducible refine Kd.C_drewN ?_ _) | (with_reducible refine Kd.C_drew ?_))); (case side2 => exact HC0.out); rintro e w23 ⟨rfl, hb⟩; have n0_ := Aside0.mk (below_step (by repeat (first | (with_reducible first | exact HB.out | apply below_alloc | apply pw_below_drewN | apply below_drew1) | exact HB.out)) hb); clear HB; have HB := n0_; clear n0_; (try clear hb); (try clear hb2); (try clear hk); (try clear hi)))
     go_ret
     exact ⟨by first | rfl | (simp [errW_none, errW_some] <;> rfl) | (simp [*, errW_none, errW_some] <;> rfl), by repeat (first | (with_reducible first | exact HB.out | apply below_alloc | apply pw_below_drewN | apply below_drew1) | exact HB.out)⟩
    ·rw [if_neg c21] at H
     have c21b0 : ((l0.length : Int) == 6) = false := beq_eq_false_iff_ne.mpr c21
     have c21b1 : ((l0.length : Int) != 6) = true := bne_iff_ne.mpr c21
     obtain rfl := Option.some.inj H
     go_wp2
     go_ret
     exact ⟨by first | rfl | (simp [errW_none, errW_some] <;> rfl) | (simp [*, errW_none, errW_some] <;> rfl), by repeat (first | (with_reducible first | exact HB.out | apply below_alloc | apply pw_below_drewN | apply below_drew1) | exact HB.out)⟩

end Go.Proofs.Ytldcckcljjlglaa.P

namespace Go.Proofs.Ytldcckcljjlglaa.P
open Go.RowKit Go.Proofs.YtldcckcljjlglaaW.PrintWords Go.Proofs.YtldcckcljjlglaaW.PrintLast Go.Proofs.YtldcckcljjlglaaW.PrintMore
attribute [local go_sem] max2_int min2_int max_two min_two max_three min_three max_four min_four   -- for this text's walks alone
set_option linter.unusedVariables false
set_option linter.unusedSimpArgs false

/-! ### impl_isOnLine: function 129 -/
def impl_isOnLine.f (a0_0 : Int) (a0_1 : Int) (a0_2 : Int) (a1_0 : Int) (a1_1 : Int) : Option (Bool) := some ((wrap64 ((wrap64 ((wrap64 (a0_0 * a1_0)) + (wrap64 (a0_1 * a1_1)))) + a0_2)) == 0)
set_option maxHeartbeats 8000000 in
set_option maxRecDepth 100000 in
theorem impl_isOnLine.calls (a0_0 : Int) (a0_1 : Int) (a0_2 : Int) (a1_0 : Int) (a1_1 : Int) (r : Bool) (w : World) (h : impl_isOnLine.f a0_0 a0_1 a0_2 a1_0 a1_1 = some r) :
  Calls Try.prog 129 #[.agg #[.int .i64 a0_0, .int .i64 a0_1, .int .i64 a0_2], .agg #[.int .i64 a1_0, .int .i64 a1_1]] w fun e w' => e = .returned (.bool r) ∧ Below w.heap.size w w' := by
 have hu72 := Try.underlying72
 have hu80 := Try.underlying80
 have HB := Aside0.mk (Below.refl w.heap.size w)
 have H : (some ((wrap64 ((wrap64 ((wrap64 (a0_0 * a1_0)) + (wrap64 (a0_1 * a1_1)))) + a0_2)) == 0)) = some r := h
 clear h
 obtain rfl := Option.some.inj H
 go_enter Try.func129, Try.ntmps129
 go_wp2_with (first | ((with_reducible refine gate_dst (N := 2) rfl ?_); refine box_event ?hg (N := 2) ?hd (cs := #[.int .i64 a0_0, .int .i64 a0_1, .int .i64 a0_2]) (t := 72) ?hr ?_; (case hd => rfl); (case hg => rfl); (case hr => first | (go_simp; done) | (go_simp; rfl)); intro gb101 hg w3 hbox hb; have n0_ := Aside0.mk (below_step (by repeat (first | (with_reducible first | exact HB.out | apply below_alloc | apply pw_below_drewN | apply below_drew1) | exact HB.out)) hb); have n1_ := Aside0.mk (hbox); have n2_ := Aside0.mk ((by rw [hg]; exact (below_size (by repeat (first | (with_reducible first | exact HB.out | apply below_alloc | apply pw_below_drewN | apply below_drew1) | exact HB.out))) : w.heap.size ≤ gb101)); have n3_ := Aside0.mk ((by rw [hg]; exact (below_size (by repeat (first | (with_reducible first | exact HB.out | apply below_alloc | apply pw_below_drewN | apply below_drew1) | exact HB.out))) : w.heap.size ≤ gb101)); clear HB; have HB := n0_; have BK101 := n1_; have GW101 := n2_; have GE101 := n3_; clear n0_ n1_ n2_ n3_; clear hb hbox hg) | ((with_reducible refine gate_dst (N := 3) rfl ?_); refine box_event ?hg (N := 3) ?hd (cs := #[.int .i64 a1_0, .int .i64 a1_1]) (t := 80) ?hr ?_; (case hd => rfl); (case hg => rfl); (case hr => first | (go_simp; done) | (go_simp; rfl)); intro gb102 hg w4 hbox hb; have n0_ := Aside0.mk (blk_below (g := gb101) (o := .cells #[.int .i64 a0_0, .int .i64 a0_1, .int .i64 a0_2] 72 (0, 0)) (by (with_reducible repeat (first | refine blk_drewN ?_ _ | refine blk_drew ?_ | refine blk_alloc ?_ _)); exact BK101.out) hb); have n1_ := Aside0.mk (below_step (by repeat (first | (with_reducible first | exact HB.out | apply below_alloc | apply pw_below_drewN | apply below_drew1 | refine below_set ?_ GE101.out) | exact HB.out)) hb); have n2_ := Aside0.mk (hbox); have n3_ := Aside0.mk ((by rw [hg]; exact (below_size (by repeat (first | (with_reducible first | exact HB.out | apply below_alloc | apply pw_below_drewN | apply below_drew1 | refine below_set ?_ GE101.out) | exact HB.out))) : w.heap.size ≤ gb102)); have n4_ := Aside0.mk ((by rw [hg]; exact (below_size (by repeat (first | (with_reducible first | exact HB.out | apply below_alloc | apply pw_below_drewN | apply below_drew1 | refine below_set ?_ GE101.out) | exact HB.out))) : w.heap.size ≤ gb102)); have n5_ := Aside0.mk ((by rw [hg]; exact Nat.ne_of_lt (blk_lt (g := gb101) (o := .cells #[.int .i64 a0_0, .int .i64 a0_1, .int .i64 a0_2] 72 (0, 0)) (by (with_reducible repeat (first | refine blk_drewN ?_ _ | refine blk_drew ?_ | refine blk_alloc ?_ _)); exact BK101.out)) : gb101 ≠ gb102)); have n6_ := Aside0.mk ((by rw [hg]; exact Nat.ne_of_gt (blk_lt (g := gb101) (o := .cells #[.int .i64 a0_0, .int .i64 a0_1, .int .i64 a0_2] 72 (0, 0)) (by (with_reducible repeat (first | refine blk_drewN ?_ _ | refine blk_drew ?_ | refine blk_alloc ?_ _)); exact BK101.out)) : gb102 ≠ gb101)); clear BK101; clear HB; have BK101 := n0_; have HB := n1_; have BK102 := n2_; have GW102 := n3_; have GE102 := n4_; have NB101_102 := n5_; have NB102_101 := n6_; clear n0_ n1_ n2_ n3_ n4_ n5_ n6_; clear hb hbox hg; have hnb5 := NB101_102.out; have hnc5 := NB102_101.out; have hcz6_0 : w4.cell? ⟨gb101, 0, none⟩ = some (.int .i64 a0_0) := (blk_cell BK101.out 0).trans rfl; have hcz6_1 : w4.cell? ⟨gb101, 1, none⟩ = some (.int .i64 a0_1) := (blk_cell BK101.out 1).trans rfl; have hcz6_2 : w4.cell? ⟨gb101, 2, none⟩ = some (.int .i64 a0_2) := (blk_cell BK101.out 2).trans rfl; have hfz6_0 := blk_frozen BK101.out 0; have hfz6_1 := blk_frozen BK101.out 1; have hfz6_2 := blk_frozen BK101.out 2; have hcz7_0 : w4.cell? ⟨gb102, 0, none⟩ = some (.int .i64 a1_0) := (blk_cell BK102.out 0).trans rfl; have hcz7_1 : w4.cell? ⟨gb102, 1, none⟩ = some (.int .i64 a1_1) := (blk_cell BK102.out 1).trans rfl; have hfz7_0 := blk_frozen BK102.out 0; have hfz7_1 := blk_frozen BK102.out 1))
 go_ret
 exact ⟨by first | rfl | (simp [errW_none, errW_some] <;> rfl) | (simp [*, errW_none, errW_some] <;> rfl), by repeat (first | (with_reducible first | exact HB.out | apply below_alloc | apply pw_below_drewN | apply below_drew1 | refine below_set ?_ GE101.out | refine below_set ?_ GE102.out) | exact HB.out)⟩

end Go.Proofs.Ytldcckcljjlglaa.P

namespace Go.Proofs.Ytldcckcljjlglaa.P
open Go.RowKit Go.Proofs.YtldcckcljjlglaaW.PrintWords Go.Proofs.YtldcckcljjlglaaW.PrintLast Go.Proofs.YtldcckcljjlglaaW.PrintMore
attribute [local go_sem] max2_int min2_int max_two min_two max_three min_three max_four min_four   -- for this text's walks alone
set_option linter.unusedVariables false
set_option linter.unusedSimpArgs false

/-! ### impl_PappusOf_1: function 131 -/
theorem cellQ_ {w w1 : World} {p : Addr} {v : Value} (hb : Below w.heap.size w w1) (h : w.cell? p = some v) : w1.cell? p = some v := (hb.cell (World.block_lt_of_cell? _ _ h)).trans h
/-- Is a point on a line? -/
def onL (t : Int × Int × Int) (p : S80) : Bool := (impl_isOnLine.f t.1 t.2.1 t.2.2 p.f0 p.f1).getD false
theorem onL_is (t : Int × Int × Int) (p : S80) : impl_isOnLine.f t.1 t.2.1 t.2.2 p.f0 p.f1 = some (onL t p) := rfl
set_option maxHeartbeats 1000000 in
set_option maxRecDepth 100000 in
theorem PappusOf_lit (t1 t2 t3 u1 u2 u3 x y : Int) (B1 B2 : Nat) (w : World) (h10 : w.cell? ⟨B1, 0, none⟩ = some (.int .i64 t1)) (h11 : w.cell? ⟨B1, 1, none⟩ = some (.int .i64 t2)) (h12 : w.cell? ⟨B1, 2, none⟩ = some (.int .i64 t3)) (h20 : w.cell? ⟨B2, 0, none⟩ = some (.int .i64 u1)) (h21 : w.cell? ⟨B2, 1, none⟩ = some (.int .i64 u2)) (h22 : w.cell? ⟨B2, 2, none⟩ = some (.int .i64 u3)) :
  Calls Try.prog 131 #[.agg #[.int .i64 x, .int .i64 y], .pointer (some ⟨B1, 0, none⟩), .pointer (some ⟨B2, 0, none⟩)] w fun e w' => e = .returned (.bool (onL (t1, t2, t3) ⟨x, y⟩ && onL (u1, u2, u3) ⟨x, y⟩)) ∧ Below w.heap.size w w' := by
 have hup := Try.underlying80
 have hut := Try.underlying72
 have HX := Aside0.mk (show impl_isOnLine.f t1 t2 t3 x y = some (onL (t1, t2, t3) ⟨x, y⟩) from rfl)
 have HY := Aside0.mk (show impl_isOnLine.f u1 u2 u3 x y = some (onL (u1, u2, u3) ⟨x, y⟩) from rfl)
 have k10 := cellQ_ (below_alloc (Below.refl w.heap.size w) (.cells #[.int .i64 x, .int .i64 y] 80)) h10
 have k11 := cellQ_ (below_alloc (Below.refl w.heap.size w) (.cells #[.int .i64 x, .int .i64 y] 80)) h11
 have k12 := cellQ_ (below_alloc (Below.refl w.heap.size w) (.cells #[.int .i64 x, .int .i64 y] 80)) h12
 have k20 := cellQ_ (below_alloc (Below.refl w.heap.size w) (.cells #[.int .i64 x, .int .i64 y] 80)) h20
 have k21 := cellQ_ (below_alloc (Below.refl w.heap.size w) (.cells #[.int .i64 x, .int .i64 y] 80)) h21
 have k22 := cellQ_ (below_alloc (Below.refl w.heap.size w) (.cells #[.int .i64 x, .int .i64 y] 80)) h22
 have k00 : (w.alloc (.cells #[.int .i64 x, .int .i64 y] 80)).cell? ⟨w.heap.size, 0, none⟩ = some (.int .i64 x) := by simp
 have k01 : (w.alloc (.cells #[.int .i64 x, .int .i64 y] 80)).cell? ⟨w.heap.size, 1, none⟩ = some (.int .i64 y) := by simp
 have HB := Aside0.mk (below_alloc (Below.refl w.heap.size w) (.cells #[.int .i64 x, .int .i64 y] 80))
 clear h10 h11 h12 h20 h21 h22
 generalize onL (u1, u2, u3) ⟨x, y⟩ = b at HY ⊢
 generalize onL (t1, t2, t3) ⟨x, y⟩ = a at HX ⊢
 cases a with
 | false =>
  go_enter Try.func131, Try.ntmps131
  go_wp2_with (first | (go_at_call 129; (with_reducible refine (impl_isOnLine.calls _ _ _ _ _ false _ HX.out).mono ?_); rintro e w1 ⟨rfl, hb1⟩))
  go_ret
  exact ⟨rfl, below_then HB.out (below_size HB.out) hb1⟩
 | true =>
  go_enter Try.func131, Try.ntmps131
  go_wp2_with (first
   | (go_at_call 129; (with_reducible refine (impl_isOnLine.calls _ _ _ _ _ true _ HX.out).mono ?_); rintro e w1 ⟨rfl, hb1⟩; have HB1 := Aside0.mk (below_then HB.out (below_size HB.out) hb1); have m20 := cellQ_ hb1 k20; have m21 := cellQ_ hb1 k21; have m22 := cellQ_ hb1 k22; have m00 := cellQ_ hb1 k00; have m01 := cellQ_ hb1 k01; clear hb1 k10 k11 k12 k20 k21 k22 k00 k01 HB)
   | (go_at_call 129; (with_reducible refine (impl_isOnLine.calls _ _ _ _ _ _ _ HY.out).mono ?_); rintro e w2 ⟨rfl, hb2⟩))
  go_ret
  exact ⟨rfl, below_then HB1.out (below_size HB1.out) hb2⟩

end Go.Proofs.Ytldcckcljjlglaa.P

namespace Go.Proofs.Ytldcckcljjlglaa.P
open Go.RowKit Go.Proofs.YtldcckcljjlglaaW.PrintWords Go.Proofs.YtldcckcljjlglaaW.PrintLast Go.Proofs.YtldcckcljjlglaaW.PrintMore
attribute [local go_sem] max2_int min2_int max_two min_two max_three min_three max_four min_four   -- for this text's walks alone
set_option linter.unusedVariables false
set_option linter.unusedSimpArgs false

/-! ### impl_PappusOf: function 69 -/
def ptP (l : List S80) (i : Int) : S80 := rd_T80 l i
def thrP (k : Nat) (a b : S80) : Option (Int × Int × Int) := impl_through.f k a.f0 a.f1 b.f0 b.f1
abbrev TRp := S72
/-- The meeting point of two lines, each through two of the points. -/
def pairC (k : Nat) (l0 : List S80) (i j p q : Int) : Option (Int × Int × Int) := (thrP k (ptP l0 i) (ptP l0 j)).bind fun a => (thrP k (ptP l0 p) (ptP l0 q)).bind fun b => impl_CrossOf.f k a.1 a.2.1 a.2.2 b.1 b.2.1 b.2.2
def trOf (t : Int × Int × Int) : TRp := ⟨t.1, t.2.1, t.2.2⟩
def impl_PappusOf.f (k : Nat) (l0 : List S80) : Option (List TRp × Bool) := (impl_areSix.f k l0).bind fun b => if b = true then (if l0.length = 6 then (thrP k (ptP l0 0) (ptP l0 1)).bind fun l => (thrP k (ptP l0 3) (ptP l0 4)).bind fun m => (if onL l (ptP l0 2) = true then (if onL m (ptP l0 5) = true then (impl_areOneLine.f k l.1 l.2.1 l.2.2 m.1 m.2.1 m.2.2).bind fun z => (if z = true then some ([], false) else if l0.any (fun p => onL l p && onL m p) = true then some ([], false) else (pairC k l0 0 4 1 3).bind fun c1 => (pairC k l0 0 5 2 3).bind fun c2 => (pairC k l0 1 5 2 4).bind fun c3 => some ([trOf c1, trOf c2, trOf c3], true)) else some ([], false)) else some ([], false)) else none) else some ([], false)
set_option maxHeartbeats 8000000 in
set_option maxRecDepth 100000 in
theorem impl_PappusOf.calls (k : Nat) (A0 : Option Addr) (c0 : Nat) (l0 : List S80) (r1 : List TRp) (r2 : Bool) (w : World) (hr0 : Kd.C k80 w A0 l0.length l0) (hc0 : l0.length ≤ c0) (h : impl_PappusOf.f k l0 = some (r1, r2)) :
  Calls Try.prog 69 #[.slice A0 l0.length c0] w fun e w' => ∃ v0_ : Value, e = .returned (.tuple #[v0_, .bool r2]) ∧ Kd.R k72 72 w' w.heap.size (fun _ => True) v0_ r1 ∧ Below w.heap.size w w' := by
 have HR := Aside0.mk hr0
 have HC := Aside0.mk hc0
 have HB := Aside0.mk (Below.refl w.heap.size w)
 unfold impl_PappusOf.f at h
 obtain ⟨b, hb, h⟩ := Option.bind_eq_some_iff.mp h
 have HA1 := Aside0.mk hb
 clear hr0 hc0 hb
 have hup := Try.underlying80
 have hut := Try.underlying72
 cases b with
 | false =>
  obtain ⟨rfl, rfl⟩ := Prod.mk.inj (Option.some.inj (show some (([] : List TRp), false) = some (r1, r2) from h))
  clear h
  go_enter Try.func69, Try.ntmps69
  go_wp2_with (first | (go_at_call 128; (with_reducible refine (impl_areSix.calls k A0 c0 l0 false _ (Kd.C_below HR.out HB.out) HC.out HA1.out).mono ?_); rintro e w1 ⟨rfl, hb1⟩; have m0_ := Aside0.mk (below_step HB.out hb1); clear HB; have HB := m0_; clear m0_; clear hb1))
  go_ret2
  exact ⟨_, rfl, Kd.R_nil _ _ _ _ _, HB.out⟩
 | true =>
  rw [if_pos rfl] at h
  by_cases h6 : l0.length = 6
  case neg => rw [if_neg h6] at h; cases h
  rw [if_pos h6] at h
  obtain ⟨⟨t1, t2, t3⟩, ht, h⟩ := Option.bind_eq_some_iff.mp h
  obtain ⟨⟨u1, u2, u3'⟩, hu, h⟩ := Option.bind_eq_some_iff.mp h
  have H6 := Aside0.mk h6
  have HT := Aside0.mk (show impl_through.f k (rd_T80 l0 0).f0 (rd_T80 l0 0).f1 (rd_T80 l0 1).f0 (rd_T80 l0 1).f1 = some (t1, t2, t3) from ht)
  have HU := Aside0.mk (show impl_through.f k (rd_T80 l0 3).f0 (rd_T80 l0 3).f1 (rd_T80 l0 4).f0 (rd_T80 l0 4).f1 = some (u1, u2, u3') from hu)
  have HF := Aside0.mk h
  clear h6 ht hu h
  go_enter Try.func69, Try.ntmps69
  go_wp2_with (first | (go_at_call 128; (with_reducible refine (impl_areSix.calls k A0 c0 l0 true _ (Kd.C_below HR.out HB.out) HC.out HA1.out).mono ?_); rintro e w1 ⟨rfl, hb1⟩; have m0_ := Aside0.mk (below_step HB.out hb1); clear HB; have HB := m0_; clear m0_; clear hb1))
  rw [H6.out]
  obtain ⟨ad0, eA, hp0, hp1⟩ := at_T80 (Kd.C_below HR.out HB.out) 0 (by omega) (by have := H6.out; omega)
  subst eA
  obtain ⟨ad1, eA, hp2, hp3⟩ := at_T80 (Kd.C_below HR.out HB.out) 1 (by omega) (by have := H6.out; omega)
  cases eA
  obtain ⟨ad2, eA, hp4, hp5⟩ := at_T80 (Kd.C_below HR.out HB.out) 2 (by omega) (by have := H6.out; omega)
  cases eA
  obtain ⟨ad3, eA, hp6, hp7⟩ := at_T80 (Kd.C_below HR.out HB.out) 3 (by omega) (by have := H6.out; omega)
  cases eA
  obtain ⟨ad4, eA, hp8, hp9⟩ := at_T80 (Kd.C_below HR.out HB.out) 4 (by omega) (by have := H6.out; omega)
  cases eA
  obtain ⟨ad5, eA, hp10, hp11⟩ := at_T80 (Kd.C_below HR.out HB.out) 5 (by omega) (by have := H6.out; omega)
  cases eA
  simp only [Int.reduceToNat, Nat.reduceMul, Addr.add_zero'] at hp0 hp1
  simp only [Int.reduceToNat, Nat.reduceMul, Nat.reduceEqDiff, Nat.add_assoc, Nat.reduceAdd, Go.Addr.add, ↓reduceIte] at hp2 hp3 hp4 hp5 hp6 hp7 hp8 hp9 hp10 hp11
  obtain ⟨x0, hx0⟩ : ∃ z : Int, (rd_T80 l0 0).f0 = z := ⟨_, rfl⟩
  obtain ⟨y0, hy0⟩ : ∃ z : Int, (rd_T80 l0 0).f1 = z := ⟨_, rfl⟩
  rw [hx0] at hp0
  rw [hy0] at hp1
  obtain ⟨x1, hx1⟩ : ∃ z : Int, (rd_T80 l0 1).f0 = z := ⟨_, rfl⟩
  obtain ⟨y1, hy1⟩ : ∃ z : Int, (rd_T80 l0 1).f1 = z := ⟨_, rfl⟩
  rw [hx1] at hp2
  rw [hy1] at hp3
  obtain ⟨x2, hx2⟩ : ∃ z : Int, (rd_T80 l0 2).f0 = z := ⟨_, rfl⟩
  obtain ⟨y2, hy2⟩ : ∃ z : Int, (rd_T80 l0 2).f1 = z := ⟨_, rfl⟩
  rw [hx2] at hp4
  rw [hy2] at hp5
  obtain ⟨x3, hx3⟩ : ∃ z : Int, (rd_T80 l0 3).f0 = z := ⟨_, rfl⟩
  obtain ⟨y3, hy3⟩ : ∃ z : Int, (rd_T80 l0 3).f1 = z := ⟨_, rfl⟩
  rw [hx3] at hp6
  rw [hy3] at hp7
  obtain ⟨x4, hx4⟩ : ∃ z : Int, (rd_T80 l0 4).f0 = z := ⟨_, rfl⟩
  obtain ⟨y4, hy4⟩ : ∃ z : Int, (rd_T80 l0 4).f1 = z := ⟨_, rfl⟩
  rw [hx4] at hp8
  rw [hy4] at hp9
  obtain ⟨x5, hx5⟩ : ∃ z : Int, (rd_T80 l0 5).f0 = z := ⟨_, rfl⟩
  obtain ⟨y5, hy5⟩ : ∃ z : Int, (rd_T80 l0 5).f1 = z := ⟨_, rfl⟩
  rw [hx5] at hp10
  rw [hy5] at hp11
  have HXY := Aside0.mk (⟨hx0, hy0, hx1, hy1, hx2, hy2, hx3, hy3, hx4, hy4, hx5, hy5⟩ : (rd_T80 l0 0).f0 = x0 ∧ (rd_T80 l0 0).f1 = y0 ∧ (rd_T80 l0 1).f0 = x1 ∧ (rd_T80 l0 1).f1 = y1 ∧ (rd_T80 l0 2).f0 = x2 ∧ (rd_T80 l0 2).f1 = y2 ∧ (rd_T80 l0 3).f0 = x3 ∧ (rd_T80 l0 3).f1 = y3 ∧ (rd_T80 l0 4).f0 = x4 ∧ (rd_T80 l0 4).f1 = y4 ∧ (rd_T80 l0 5).f0 = x5 ∧ (rd_T80 l0 5).f1 = y5)
  replace HT := Aside0.mk (show impl_through.f k x0 y0 x1 y1 = some (t1, t2, t3) by rw [← hx0, ← hy0, ← hx1, ← hy1]; exact HT.out)
  replace HU := Aside0.mk (show impl_through.f k x3 y3 x4 y4 = some (u1, u2, u3') by rw [← hx3, ← hy3, ← hx4, ← hy4]; exact HU.out)
  clear hx0 hy0 hx1 hy1 hx2 hy2 hx3 hy3 hx4 hy4 hx5 hy5
  refine region_ (S := fun w' => Below w1.heap.size w1 w') 30 w1.heap.size [(18, 24), (19, 25), (20, 26), (21, 27), (22, 28), (23, 29)] (by kernel_rfl) (by kernel_rfl) (below_drew (Below.refl _ _)) (fun _ _ h1 h2 => h1.trans h2) (fun _ h1 => h1.size) ?_
  iterate 30 (first
   | (refine atV_ (v := ?_) (a' := ?_) rfl rfl rfl rfl (by rfl) ?_ ?_ ?_; rotate_left 2; (· rintro w' hb'; go_simp; with_reducible rfl); (· simp only [Act.put, List.setIfInBounds_toArray, List.set_cons_zero, List.set_cons_succ, i64_w, i32_w]; rfl))
   | (refine atV_ (v := ?_) (a' := ?_) rfl rfl rfl rfl (by rfl) ?_ ?_ ?_; rotate_left 2; (· rintro w' hb'; have s0 := cell_ hb' hp0; have s1 := cell_ hb' hp1; have s2 := cell_ hb' hp2; have s3 := cell_ hb' hp3; have s4 := cell_ hb' hp4; have s5 := cell_ hb' hp5; have s6 := cell_ hb' hp6; have s7 := cell_ hb' hp7; have s8 := cell_ hb' hp8; have s9 := cell_ hb' hp9; have s10 := cell_ hb' hp10; have s11 := cell_ hb' hp11; go_simp; with_reducible rfl); (· simp only [Act.put, List.setIfInBounds_toArray, List.set_cons_zero, List.set_cons_succ, i64_w, i32_w]; rfl))
   | (refine atN_ #[.int .i64 0, .int .i64 0] 80 (some (24, #[.int .i64 x0, .int .i64 y0])) rfl rfl rfl rfl (by rfl) ?_ ?_; (· rintro w' hb'; first | (go_simp; done) | (go_simp; rfl)))
   | (refine atN_ #[.int .i64 0, .int .i64 0] 80 (some (25, #[.int .i64 x1, .int .i64 y1])) rfl rfl rfl rfl (by rfl) ?_ ?_; (· rintro w' hb'; first | (go_simp; done) | (go_simp; rfl)))
   | (refine atN_ #[.int .i64 0, .int .i64 0] 80 (some (26, #[.int .i64 x2, .int .i64 y2])) rfl rfl rfl rfl (by rfl) ?_ ?_; (· rintro w' hb'; first | (go_simp; done) | (go_simp; rfl)))
   | (refine atN_ #[.int .i64 0, .int .i64 0] 80 (some (27, #[.int .i64 x3, .int .i64 y3])) rfl rfl rfl rfl (by rfl) ?_ ?_; (· rintro w' hb'; first | (go_simp; done) | (go_simp; rfl)))
   | (refine atN_ #[.int .i64 0, .int .i64 0] 80 (some (28, #[.int .i64 x4, .int .i64 y4])) rfl rfl rfl rfl (by rfl) ?_ ?_; (· rintro w' hb'; first | (go_simp; done) | (go_simp; rfl)))
   | (refine atN_ #[.int .i64 0, .int .i64 0] 80 (some (29, #[.int .i64 x5, .int .i64 y5])) rfl rfl rfl rfl (by rfl) ?_ ?_; (· rintro w' hb'; first | (go_simp; done) | (go_simp; rfl)))
   | (refine atS_ 0 rfl rfl rfl rfl rfl rfl (fun g => by rfl) ?_ ?_; (· rintro g w' hb' hg hn; have hs0 := (blk_cell hg 0).trans rfl; have hs1 := (blk_cell hg 1).trans rfl; have hf0 := blk_frozen hg 0; have hf1 := blk_frozen hg 1; refine ⟨_, ?_, (mut2_ hg _ _).1, (mut2_ hg _ _).2⟩; first | (go_simp; done) | (go_simp; rfl)))
   | (refine atS_ 1 rfl rfl rfl rfl rfl rfl (fun g => by rfl) ?_ ?_; (· rintro g w' hb' hg hn; have hs0 := (blk_cell hg 0).trans rfl; have hs1 := (blk_cell hg 1).trans rfl; have hf0 := blk_frozen hg 0; have hf1 := blk_frozen hg 1; refine ⟨_, ?_, (mut2_ hg _ _).1, (mut2_ hg _ _).2⟩; first | (go_simp; done) | (go_simp; rfl)))
   | (refine atS_ 2 rfl rfl rfl rfl rfl rfl (fun g => by rfl) ?_ ?_; (· rintro g w' hb' hg hn; have hs0 := (blk_cell hg 0).trans rfl; have hs1 := (blk_cell hg 1).trans rfl; have hf0 := blk_frozen hg 0; have hf1 := blk_frozen hg 1; refine ⟨_, ?_, (mut2_ hg _ _).1, (mut2_ hg _ _).2⟩; first | (go_simp; done) | (go_simp; rfl)))
   | (refine atS_ 3 rfl rfl rfl rfl rfl rfl (fun g => by rfl) ?_ ?_; (· rintro g w' hb' hg hn; have hs0 := (blk_cell hg 0).trans rfl; have hs1 := (blk_cell hg 1).trans rfl; have hf0 := blk_frozen hg 0; have hf1 := blk_frozen hg 1; refine ⟨_, ?_, (mut2_ hg _ _).1, (mut2_ hg _ _).2⟩; first | (go_simp; done) | (go_simp; rfl)))
   | (refine atS_ 4 rfl rfl rfl rfl rfl rfl (fun g => by rfl) ?_ ?_; (· rintro g w' hb' hg hn; have hs0 := (blk_cell hg 0).trans rfl; have hs1 := (blk_cell hg 1).trans rfl; have hf0 := blk_frozen hg 0; have hf1 := blk_frozen hg 1; refine ⟨_, ?_, (mut2_ hg _ _).1, (mut2_ hg _ _).2⟩; first | (go_simp; done) | (go_simp; rfl)))
   | (refine atS_ 5 rfl rfl rfl rfl rfl rfl (fun g => by rfl) ?_ ?_; (· rintro g w' hb' hg hn; have hs0 := (blk_cell hg 0).trans rfl; have hs1 := (blk_cell hg 1).trans rfl; have hf0 := blk_frozen hg 0; have hf1 := blk_frozen hg 1; refine ⟨_, ?_, (mut2_ hg _ _).1, (mut2_ hg _ _).2⟩; first | (go_simp; done) | (go_simp; rfl))))
  refine atEnd_ ?_
  intro w5 hb5 g0 _ h0 _ g1 _ h1 _ g2 _ h2 _ g3 _ h3 _ g4 _ h4 _ g5 _ h5 _
  refine done_ (by kernel_rfl) ?_
  have kk00 : w5.cell? ⟨g0, 0, none⟩ = some (.int .i64 x0) := by simp [World.cell?, h0, contE]
  have kk01 : w5.cell? ⟨g0, 1, none⟩ = some (.int .i64 y0) := by simp [World.cell?, h0, contE]
  have kk10 : w5.cell? ⟨g1, 0, none⟩ = some (.int .i64 x1) := by simp [World.cell?, h1, contE]
  have kk11 : w5.cell? ⟨g1, 1, none⟩ = some (.int .i64 y1) := by simp [World.cell?, h1, contE]
  have kk20 : w5.cell? ⟨g2, 0, none⟩ = some (.int .i64 x2) := by simp [World.cell?, h2, contE]
  have kk21 : w5.cell? ⟨g2, 1, none⟩ = some (.int .i64 y2) := by simp [World.cell?, h2, contE]
  have kk30 : w5.cell? ⟨g3, 0, none⟩ = some (.int .i64 x3) := by simp [World.cell?, h3, contE]
  have kk31 : w5.cell? ⟨g3, 1, none⟩ = some (.int .i64 y3) := by simp [World.cell?, h3, contE]
  have kk40 : w5.cell? ⟨g4, 0, none⟩ = some (.int .i64 x4) := by simp [World.cell?, h4, contE]
  have kk41 : w5.cell? ⟨g4, 1, none⟩ = some (.int .i64 y4) := by simp [World.cell?, h4, contE]
  have kk50 : w5.cell? ⟨g5, 0, none⟩ = some (.int .i64 x5) := by simp [World.cell?, h5, contE]
  have kk51 : w5.cell? ⟨g5, 1, none⟩ = some (.int .i64 y5) := by simp [World.cell?, h5, contE]
  have m0_ := Aside0.mk (below_then HB.out (below_size HB.out) hb5)
  clear HB hb5 h0 h1 h2 h3 h4 h5 hp0 hp1 hp2 hp3 hp4 hp5 hp6 hp7 hp8 hp9 hp10 hp11
  have HB := m0_
  clear m0_
  go_wp2_with fail
  refine region_ (S := fun w' => Below w5.heap.size w5 w') 10 w5.heap.size [(6, 8), (7, 9)] (by kernel_rfl) (by kernel_rfl) (below_drew (Below.refl _ _)) (fun _ _ h1 h2 => h1.trans h2) (fun _ h1 => h1.size) ?_
  iterate 10 (first
   | (refine atV_ (v := ?_) (a' := ?_) rfl rfl rfl rfl (by rfl) ?_ ?_ ?_; rotate_left 2; (· rintro w' hb'; go_simp; with_reducible rfl); (· simp only [Act.put, List.setIfInBounds_toArray, List.set_cons_zero, List.set_cons_succ, i64_w, i32_w]; rfl))
   | (refine atV_ (v := ?_) (a' := ?_) rfl rfl rfl rfl (by rfl) ?_ ?_ ?_; rotate_left 2; (· rintro w' hb'; have s0 := cell_ hb' kk00; have s1 := cell_ hb' kk01; have s2 := cell_ hb' kk10; have s3 := cell_ hb' kk11; have s4 := cell_ hb' kk20; have s5 := cell_ hb' kk21; have s6 := cell_ hb' kk30; have s7 := cell_ hb' kk31; have s8 := cell_ hb' kk40; have s9 := cell_ hb' kk41; have s10 := cell_ hb' kk50; have s11 := cell_ hb' kk51; go_simp; with_reducible rfl); (· simp only [Act.put, List.setIfInBounds_toArray, List.set_cons_zero, List.set_cons_succ, i64_w, i32_w]; rfl))
   | (refine atC_ (a' := ?_) (.agg #[.int .i64 t1, .int .i64 t2, .int .i64 t3]) rfl rfl Try.func125 rfl rfl rfl (by rfl) (by kernel_rfl) rfl #[.agg #[.int .i64 x0, .int .i64 y0], .agg #[.int .i64 x1, .int .i64 y1]] (by (try simp only [List.map_toArray, List.map_cons, List.map_nil]); rfl) ?_ ?_ ?_; rotate_left; (· rintro w' hb'; with_reducible refine (impl_through.calls k _ _ _ _ t1 t2 t3 _ HT.out).mono ?_; rintro e w1 ⟨rfl, hb1⟩; exact ⟨rfl, hb1⟩); (· simp only [Act.put, List.setIfInBounds_toArray, List.set_cons_zero, List.set_cons_succ, i64_w, i32_w]; rfl))
   | (refine atC_ (a' := ?_) (.agg #[.int .i64 u1, .int .i64 u2, .int .i64 u3']) rfl rfl Try.func125 rfl rfl rfl (by rfl) (by kernel_rfl) rfl #[.agg #[.int .i64 x3, .int .i64 y3], .agg #[.int .i64 x4, .int .i64 y4]] (by (try simp only [List.map_toArray, List.map_cons, List.map_nil]); rfl) ?_ ?_ ?_; rotate_left; (· rintro w' hb'; with_reducible refine (impl_through.calls k _ _ _ _ u1 u2 u3' _ HU.out).mono ?_; rintro e w1 ⟨rfl, hb1⟩; exact ⟨rfl, hb1⟩); (· simp only [Act.put, List.setIfInBounds_toArray, List.set_cons_zero, List.set_cons_succ, i64_w, i32_w]; rfl))
   | (refine atN_ #[.int .i64 0, .int .i64 0, .int .i64 0] 72 (some (8, #[.int .i64 t1, .int .i64 t2, .int .i64 t3])) rfl rfl rfl rfl (by rfl) ?_ ?_; (· rintro w' hb'; first | (go_simp; done) | (go_simp; rfl)))
   | (refine atN_ #[.int .i64 0, .int .i64 0, .int .i64 0] 72 (some (9, #[.int .i64 u1, .int .i64 u2, .int .i64 u3'])) rfl rfl rfl rfl (by rfl) ?_ ?_; (· rintro w' hb'; first | (go_simp; done) | (go_simp; rfl)))
   | (refine atS_ 0 rfl rfl rfl rfl rfl rfl (fun g => by rfl) ?_ ?_; (· rintro g w' hb' hg hn; have hs0 := (blk_cell hg 0).trans rfl; have hs1 := (blk_cell hg 1).trans rfl; have hs2 := (blk_cell hg 2).trans rfl; have hf0 := blk_frozen hg 0; have hf1 := blk_frozen hg 1; have hf2 := blk_frozen hg 2; refine ⟨_, ?_, (mut3_ hg _ _ _).1, (mut3_ hg _ _ _).2⟩; first | (go_simp; done) | (go_simp; rfl)))
   | (refine atS_ 1 rfl rfl rfl rfl rfl rfl (fun g => by rfl) ?_ ?_; (· rintro g w' hb' hg hn; have hs0 := (blk_cell hg 0).trans rfl; have hs1 := (blk_cell hg 1).trans rfl; have hs2 := (blk_cell hg 2).trans rfl; have hf0 := blk_frozen hg 0; have hf1 := blk_frozen hg 1; have hf2 := blk_frozen hg 2; refine ⟨_, ?_, (mut3_ hg _ _ _).1, (mut3_ hg _ _ _).2⟩; first | (go_simp; done) | (go_simp; rfl))))
  refine atEnd_ ?_
  intro w6 hb6 g6 _ h6 _ g7 _ h7 _
  refine done_ (by kernel_rfl) ?_
  have kk60 : w6.cell? ⟨g6, 0, none⟩ = some (.int .i64 t1) := by simp [World.cell?, h6, contE]
  have kk61 : w6.cell? ⟨g6, 1, none⟩ = some (.int .i64 t2) := by simp [World.cell?, h6, contE]
  have kk62 : w6.cell? ⟨g6, 2, none⟩ = some (.int .i64 t3) := by simp [World.cell?, h6, contE]
  have kk70 : w6.cell? ⟨g7, 0, none⟩ = some (.int .i64 u1) := by simp [World.cell?, h7, contE]
  have kk71 : w6.cell? ⟨g7, 1, none⟩ = some (.int .i64 u2) := by simp [World.cell?, h7, contE]
  have kk72 : w6.cell? ⟨g7, 2, none⟩ = some (.int .i64 u3') := by simp [World.cell?, h7, contE]
  replace kk00 := cell_ hb6 kk00
  replace kk01 := cell_ hb6 kk01
  replace kk10 := cell_ hb6 kk10
  replace kk11 := cell_ hb6 kk11
  replace kk20 := cell_ hb6 kk20
  replace kk21 := cell_ hb6 kk21
  replace kk30 := cell_ hb6 kk30
  replace kk31 := cell_ hb6 kk31
  replace kk40 := cell_ hb6 kk40
  replace kk41 := cell_ hb6 kk41
  replace kk50 := cell_ hb6 kk50
  replace kk51 := cell_ hb6 kk51
  have m0_ := Aside0.mk (below_then HB.out (below_size HB.out) hb6)
  clear HB hb6 h6 h7 HT HU
  have HB := m0_
  clear m0_
  have eg : ∀ (args : Array Value) (w : World), (callFunc 131 args).run Try.prog w = .ok (.enter 131 args) w := enters_of Try.func131 (by kernel_rfl) rfl
  have HCF := Aside0.mk (show ∀ W : World, Below w6.heap.size w6 W → Calls Try.prog 130 #[.slice (some ad0) 6 c0, .func (.func 131) #[] #[.pointer (some ⟨g6, 0, none⟩), .pointer (some ⟨g7, 0, none⟩)]] W fun e w' => e = .returned (.bool (l0.any (fun p => onL (t1, t2, t3) p && onL (u1, u2, u3') p))) ∧ Below W.heap.size W w' by
   intro W hW
   have hc := containsPoint_calls 131 #[.pointer (some ⟨g6, 0, none⟩), .pointer (some ⟨g7, 0, none⟩)] eg (fun p => onL (t1, t2, t3) p && onL (u1, u2, u3') p) (some ad0) c0 l0 W (Kd.C_below (Kd.C_below HR.out HB.out) hW) HC.out (fun W2 p hb => PappusOf_lit t1 t2 t3 u1 u2 u3' p.f0 p.f1 g6 g7 W2 (cell_ hb (cell_ hW kk60)) (cell_ hb (cell_ hW kk61)) (cell_ hb (cell_ hW kk62)) (cell_ hb (cell_ hW kk70)) (cell_ hb (cell_ hW kk71)) (cell_ hb (cell_ hW kk72)))
   rwa [H6.out] at hc)
  have HB6 := Aside0.mk (Below.refl w6.heap.size w6)
  have HIL := Aside0.mk (show w.heap.size ≤ w6.heap.size from below_size HB.out)
  have h := HF.out
  rw [show ptP l0 2 = ⟨x2, y2⟩ by have := HXY.out; unfold ptP; rw [← this.2.2.2.2.1, ← this.2.2.2.2.2.1], show ptP l0 5 = ⟨x5, y5⟩ by have := HXY.out; unfold ptP; rw [← this.2.2.2.2.2.2.2.2.2.2.1, ← this.2.2.2.2.2.2.2.2.2.2.2]] at h
  have HF2 := Aside0.mk h
  clear h HF eg
  obtain ⟨xa, hxa⟩ : ∃ b : Bool, onL (t1, t2, t3) ⟨x2, y2⟩ = b := ⟨_, rfl⟩
  obtain ⟨xb, hxb⟩ : ∃ b : Bool, onL (u1, u2, u3') ⟨x5, y5⟩ = b := ⟨_, rfl⟩
  have HL1 := Aside0.mk (show impl_isOnLine.f t1 t2 t3 x2 y2 = some xa from hxa ▸ rfl)
  have HL2 := Aside0.mk (show impl_isOnLine.f u1 u2 u3' x5 y5 = some xb from hxb ▸ rfl)
  have h := HF2.out
  rw [hxa, hxb] at h
  have HF := Aside0.mk h
  clear h HF2 hxa hxb
  cases xa with
  | false =>
   have h := HF.out
   rw [if_neg (by decide)] at h
   obtain ⟨rfl, rfl⟩ := Prod.mk.inj (Option.some.inj (show some (([] : List TRp), false) = some (r1, r2) from h))
   clear h HF
   go_wp2_with (first
    | (go_at_call 129; (with_reducible refine (impl_isOnLine.calls _ _ _ _ _ false _ HL1.out).mono ?_); rintro e w9 ⟨rfl, hb9⟩; have m0_ := Aside0.mk (below_step HB6.out hb9); clear HB6; have HB6 := m0_; clear m0_; have n_ := cell_ hb9 kk00; clear kk00; have kk00 := n_; clear n_; have n_ := cell_ hb9 kk01; clear kk01; have kk01 := n_; clear n_; have n_ := cell_ hb9 kk10; clear kk10; have kk10 := n_; clear n_; have n_ := cell_ hb9 kk11; clear kk11; have kk11 := n_; clear n_; have n_ := cell_ hb9 kk20; clear kk20; have kk20 := n_; clear n_; have n_ := cell_ hb9 kk21; clear kk21; have kk21 := n_; clear n_; have n_ := cell_ hb9 kk30; clear kk30; have kk30 := n_; clear n_; have n_ := cell_ hb9 kk31; clear kk31; have kk31 := n_; clear n_; have n_ := cell_ hb9 kk40; clear kk40; have kk40 := n_; clear n_; have n_ := cell_ hb9 kk41; clear kk41; have kk41 := n_; clear n_; have n_ := cell_ hb9 kk50; clear kk50; have kk50 := n_; clear n_; have n_ := cell_ hb9 kk51; clear kk51; have kk51 := n_; clear n_; have n_ := cell_ hb9 kk60; clear kk60; have kk60 := n_; clear n_; have n_ := cell_ hb9 kk61; clear kk61; have kk61 := n_; clear n_; have n_ := cell_ hb9 kk62; clear kk62; have kk62 := n_; clear n_; have n_ := cell_ hb9 kk70; clear kk70; have kk70 := n_; clear n_; have n_ := cell_ hb9 kk71; clear kk71; have kk71 := n_; clear n_; have n_ := cell_ hb9 kk72; clear kk72; have kk72 := n_; clear n_; clear hb9))
   go_ret2
   exact ⟨_, rfl, Kd.R_nil _ _ _ _ _, below_then HB.out HIL.out HB6.out⟩
  | true =>
   have h := HF.out
   rw [if_pos rfl] at h
   clear HF
   cases xb with
   | false =>
    rw [if_neg (by decide)] at h
    obtain ⟨rfl, rfl⟩ := Prod.mk.inj (Option.some.inj (show some (([] : List TRp), false) = some (r1, r2) from h))
    clear h
    go_wp2_with (first
     | (go_at_call 129; (with_reducible refine (impl_isOnLine.calls _ _ _ _ _ true _ HL1.out).mono ?_); rintro e w9 ⟨rfl, hb9⟩; have m0_ := Aside0.mk (below_step HB6.out hb9); clear HB6; have HB6 := m0_; clear m0_; have n_ := cell_ hb9 kk00; clear kk00; have kk00 := n_; clear n_; have n_ := cell_ hb9 kk01; clear kk01; have kk01 := n_; clear n_; have n_ := cell_ hb9 kk10; clear kk10; have kk10 := n_; clear n_; have n_ := cell_ hb9 kk11; clear kk11; have kk11 := n_; clear n_; have n_ := cell_ hb9 kk20; clear kk20; have kk20 := n_; clear n_; have n_ := cell_ hb9 kk21; clear kk21; have kk21 := n_; clear n_; have n_ := cell_ hb9 kk30; clear kk30; have kk30 := n_; clear n_; have n_ := cell_ hb9 kk31; clear kk31; have kk31 := n_; clear n_; have n_ := cell_ hb9 kk40; clear kk40; have kk40 := n_; clear n_; have n_ := cell_ hb9 kk41; clear kk41; have kk41 := n_; clear n_; have n_ := cell_ hb9 kk50; clear kk50; have kk50 := n_; clear n_; have n_ := cell_ hb9 kk51; clear kk51; have kk51 := n_; clear n_; have n_ := cell_ hb9 kk60; clear kk60; have kk60 := n_; clear n_; have n_ := cell_ hb9 kk61; clear kk61; have kk61 := n_; clear n_; have n_ := cell_ hb9 kk62; clear kk62; have kk62 := n_; clear n_; have n_ := cell_ hb9 kk70; clear kk70; have kk70 := n_; clear n_; have n_ := cell_ hb9 kk71; clear kk71; have kk71 := n_; clear n_; have n_ := cell_ hb9 kk72; clear kk72; have kk72 := n_; clear n_; clear hb9)
     | (go_at_call 129; (with_reducible refine (impl_isOnLine.calls _ _ _ _ _ false _ HL2.out).mono ?_); rintro e w9 ⟨rfl, hb9⟩; have m0_ := Aside0.mk (below_step HB6.out hb9); clear HB6; have HB6 := m0_; clear m0_; have n_ := cell_ hb9 kk00; clear kk00; have kk00 := n_; clear n_; have n_ := cell_ hb9 kk01; clear kk01; have kk01 := n_; clear n_; have n_ := cell_ hb9 kk10; clear kk10; have kk10 := n_; clear n_; have n_ := cell_ hb9 kk11; clear kk11; have kk11 := n_; clear n_; have n_ := cell_ hb9 kk20; clear kk20; have kk20 := n_; clear n_; have n_ := cell_ hb9 kk21; clear kk21; have kk21 := n_; clear n_; have n_ := cell_ hb9 kk30; clear kk30; have kk30 := n_; clear n_; have n_ := cell_ hb9 kk31; clear kk31; have kk31 := n_; clear n_; have n_ := cell_ hb9 kk40; clear kk40; have kk40 := n_; clear n_; have n_ := cell_ hb9 kk41; clear kk41; have kk41 := n_; clear n_; have n_ := cell_ hb9 kk50; clear kk50; have kk50 := n_; clear n_; have n_ := cell_ hb9 kk51; clear kk51; have kk51 := n_; clear n_; have n_ := cell_ hb9 kk60; clear kk60; have kk60 := n_; clear n_; have n_ := cell_ hb9 kk61; clear kk61; have kk61 := n_; clear n_; have n_ := cell_ hb9 kk62; clear kk62; have kk62 := n_; clear n_; have n_ := cell_ hb9 kk70; clear kk70; have kk70 := n_; clear n_; have n_ := cell_ hb9 kk71; clear kk71; have kk71 := n_; clear n_; have n_ := cell_ hb9 kk72; clear kk72; have kk72 := n_; clear n_; clear hb9))
    go_ret2
    exact ⟨_, rfl, Kd.R_nil _ _ _ _ _, below_then HB.out HIL.out HB6.out⟩
   | true =>
    rw [if_pos rfl] at h
    obtain ⟨z, hz, h⟩ := Option.bind_eq_some_iff.mp h
    have HEQ := Aside0.mk (show impl_areOneLine.f k t1 t2 t3 u1 u2 u3' = some z from hz)
    clear hz
    cases z with
    | true =>
     rw [if_pos rfl] at h
     obtain ⟨rfl, rfl⟩ := Prod.mk.inj (Option.some.inj (show some (([] : List TRp), false) = some (r1, r2) from h))
     clear h
     go_wp2_with (first
      | (go_at_call 129; (with_reducible refine (impl_isOnLine.calls _ _ _ _ _ true _ HL1.out).mono ?_); rintro e w9 ⟨rfl, hb9⟩; have m0_ := Aside0.mk (below_step HB6.out hb9); clear HB6; have HB6 := m0_; clear m0_; have n_ := cell_ hb9 kk00; clear kk00; have kk00 := n_; clear n_; have n_ := cell_ hb9 kk01; clear kk01; have kk01 := n_; clear n_; have n_ := cell_ hb9 kk10; clear kk10; have kk10 := n_; clear n_; have n_ := cell_ hb9 kk11; clear kk11; have kk11 := n_; clear n_; have n_ := cell_ hb9 kk20; clear kk20; have kk20 := n_; clear n_; have n_ := cell_ hb9 kk21; clear kk21; have kk21 := n_; clear n_; have n_ := cell_ hb9 kk30; clear kk30; have kk30 := n_; clear n_; have n_ := cell_ hb9 kk31; clear kk31; have kk31 := n_; clear n_; have n_ := cell_ hb9 kk40; clear kk40; have kk40 := n_; clear n_; have n_ := cell_ hb9 kk41; clear kk41; have kk41 := n_; clear n_; have n_ := cell_ hb9 kk50; clear kk50; have kk50 := n_; clear n_; have n_ := cell_ hb9 kk51; clear kk51; have kk51 := n_; clear n_; have n_ := cell_ hb9 kk60; clear kk60; have kk60 := n_; clear n_; have n_ := cell_ hb9 kk61; clear kk61; have kk61 := n_; clear n_; have n_ := cell_ hb9 kk62; clear kk62; have kk62 := n_; clear n_; have n_ := cell_ hb9 kk70; clear kk70; have kk70 := n_; clear n_; have n_ := cell_ hb9 kk71; clear kk71; have kk71 := n_; clear n_; have n_ := cell_ hb9 kk72; clear kk72; have kk72 := n_; clear n_; clear hb9)
      | (go_at_call 129; (with_reducible refine (impl_isOnLine.calls _ _ _ _ _ true _ HL2.out).mono ?_); rintro e w9 ⟨rfl, hb9⟩; have m0_ := Aside0.mk (below_step HB6.out hb9); clear HB6; have HB6 := m0_; clear m0_; have n_ := cell_ hb9 kk00; clear kk00; have kk00 := n_; clear n_; have n_ := cell_ hb9 kk01; clear kk01; have kk01 := n_; clear n_; have n_ := cell_ hb9 kk10; clear kk10; have kk10 := n_; clear n_; have n_ := cell_ hb9 kk11; clear kk11; have kk11 := n_; clear n_; have n_ := cell_ hb9 kk20; clear kk20; have kk20 := n_; clear n_; have n_ := cell_ hb9 kk21; clear kk21; have kk21 := n_; clear n_; have n_ := cell_ hb9 kk30; clear kk30; have kk30 := n_; clear n_; have n_ := cell_ hb9 kk31; clear kk31; have kk31 := n_; clear n_; have n_ := cell_ hb9 kk40; clear kk40; have kk40 := n_; clear n_; have n_ := cell_ hb9 kk41; clear kk41; have kk41 := n_; clear n_; have n_ := cell_ hb9 kk50; clear kk50; have kk50 := n_; clear n_; have n_ := cell_ hb9 kk51; clear kk51; have kk51 := n_; clear n_; have n_ := cell_ hb9 kk60; clear kk60; have kk60 := n_; clear n_; have n_ := cell_ hb9 kk61; clear kk61; have kk61 := n_; clear n_; have n_ := cell_ hb9 kk62; clear kk62; have kk62 := n_; clear n_; have n_ := cell_ hb9 kk70; clear kk70; have kk70 := n_; clear n_; have n_ := cell_ hb9 kk71; clear kk71; have kk71 := n_; clear n_; have n_ := cell_ hb9 kk72; clear kk72; have kk72 := n_; clear n_; clear hb9)
      | (go_at_call 126; (with_reducible refine (impl_areOneLine.calls k _ _ _ _ _ _ true _ HEQ.out).mono ?_); rintro e w9 ⟨rfl, hb9⟩; have m0_ := Aside0.mk (below_step HB6.out hb9); clear HB6; have HB6 := m0_; clear m0_; have n_ := cell_ hb9 kk00; clear kk00; have kk00 := n_; clear n_; have n_ := cell_ hb9 kk01; clear kk01; have kk01 := n_; clear n_; have n_ := cell_ hb9 kk10; clear kk10; have kk10 := n_; clear n_; have n_ := cell_ hb9 kk11; clear kk11; have kk11 := n_; clear n_; have n_ := cell_ hb9 kk20; clear kk20; have kk20 := n_; clear n_; have n_ := cell_ hb9 kk21; clear kk21; have kk21 := n_; clear n_; have n_ := cell_ hb9 kk30; clear kk30; have kk30 := n_; clear n_; have n_ := cell_ hb9 kk31; clear kk31; have kk31 := n_; clear n_; have n_ := cell_ hb9 kk40; clear kk40; have kk40 := n_; clear n_; have n_ := cell_ hb9 kk41; clear kk41; have kk41 := n_; clear n_; have n_ := cell_ hb9 kk50; clear kk50; have kk50 := n_; clear n_; have n_ := cell_ hb9 kk51; clear kk51; have kk51 := n_; clear n_; have n_ := cell_ hb9 kk60; clear kk60; have kk60 := n_; clear n_; have n_ := cell_ hb9 kk61; clear kk61; have kk61 := n_; clear n_; have n_ := cell_ hb9 kk62; clear kk62; have kk62 := n_; clear n_; have n_ := cell_ hb9 kk70; clear kk70; have kk70 := n_; clear n_; have n_ := cell_ hb9 kk71; clear kk71; have kk71 := n_; clear n_; have n_ := cell_ hb9 kk72; clear kk72; have kk72 := n_; clear n_; clear hb9))
     go_ret2
     exact ⟨_, rfl, Kd.R_nil _ _ _ _ _, below_then HB.out HIL.out HB6.out⟩
    | false =>
     rw [if_neg (by decide)] at h
     cases hany : l0.any (fun p => onL (t1, t2, t3) p && onL (u1, u2, u3') p) with
     | true =>
      rw [hany, if_pos rfl] at h
      have HANY := Aside0.mk hany
      obtain ⟨rfl, rfl⟩ := Prod.mk.inj (Option.some.inj (show some (([] : List TRp), false) = some (r1, r2) from h))
      clear h hany
      go_wp2_with (first
       | (go_at_call 129; (with_reducible refine (impl_isOnLine.calls _ _ _ _ _ true _ HL1.out).mono ?_); rintro e w9 ⟨rfl, hb9⟩; have m0_ := Aside0.mk (below_step HB6.out hb9); clear HB6; have HB6 := m0_; clear m0_; have n_ := cell_ hb9 kk00; clear kk00; have kk00 := n_; clear n_; have n_ := cell_ hb9 kk01; clear kk01; have kk01 := n_; clear n_; have n_ := cell_ hb9 kk10; clear kk10; have kk10 := n_; clear n_; have n_ := cell_ hb9 kk11; clear kk11; have kk11 := n_; clear n_; have n_ := cell_ hb9 kk20; clear kk20; have kk20 := n_; clear n_; have n_ := cell_ hb9 kk21; clear kk21; have kk21 := n_; clear n_; have n_ := cell_ hb9 kk30; clear kk30; have kk30 := n_; clear n_; have n_ := cell_ hb9 kk31; clear kk31; have kk31 := n_; clear n_; have n_ := cell_ hb9 kk40; clear kk40; have kk40 := n_; clear n_; have n_ := cell_ hb9 kk41; clear kk41; have kk41 := n_; clear n_; have n_ := cell_ hb9 kk50; clear kk50; have kk50 := n_; clear n_; have n_ := cell_ hb9 kk51; clear kk51; have kk51 := n_; clear n_; have n_ := cell_ hb9 kk60; clear kk60; have kk60 := n_; clear n_; have n_ := cell_ hb9 kk61; clear kk61; have kk61 := n_; clear n_; have n_ := cell_ hb9 kk62; clear kk62; have kk62 := n_; clear n_; have n_ := cell_ hb9 kk70; clear kk70; have kk70 := n_; clear n_; have n_ := cell_ hb9 kk71; clear kk71; have kk71 := n_; clear n_; have n_ := cell_ hb9 kk72; clear kk72; have kk72 := n_; clear n_; clear hb9)
       | (go_at_call 129; (with_reducible refine (impl_isOnLine.calls _ _ _ _ _ true _ HL2.out).mono ?_); rintro e w9 ⟨rfl, hb9⟩; have m0_ := Aside0.mk (below_step HB6.out hb9); clear HB6; have HB6 := m0_; clear m0_; have n_ := cell_ hb9 kk00; clear kk00; have kk00 := n_; clear n_; have n_ := cell_ hb9 kk01; clear kk01; have kk01 := n_; clear n_; have n_ := cell_ hb9 kk10; clear kk10; have kk10 := n_; clear n_; have n_ := cell_ hb9 kk11; clear kk11; have kk11 := n_; clear n_; have n_ := cell_ hb9 kk20; clear kk20; have kk20 := n_; clear n_; have n_ := cell_ hb9 kk21; clear kk21; have kk21 := n_; clear n_; have n_ := cell_ hb9 kk30; clear kk30; have kk30 := n_; clear n_; have n_ := cell_ hb9 kk31; clear kk31; have kk31 := n_; clear n_; have n_ := cell_ hb9 kk40; clear kk40; have kk40 := n_; clear n_; have n_ := cell_ hb9 kk41; clear kk41; have kk41 := n_; clear n_; have n_ := cell_ hb9 kk50; clear kk50; have kk50 := n_; clear n_; have n_ := cell_ hb9 kk51; clear kk51; have kk51 := n_; clear n_; have n_ := cell_ hb9 kk60; clear kk60; have kk60 := n_; clear n_; have n_ := cell_ hb9 kk61; clear kk61; have kk61 := n_; clear n_; have n_ := cell_ hb9 kk62; clear kk62; have kk62 := n_; clear n_; have n_ := cell_ hb9 kk70; clear kk70; have kk70 := n_; clear n_; have n_ := cell_ hb9 kk71; clear kk71; have kk71 := n_; clear n_; have n_ := cell_ hb9 kk72; clear kk72; have kk72 := n_; clear n_; clear hb9)
       | (go_at_call 126; (with_reducible refine (impl_areOneLine.calls k _ _ _ _ _ _ false _ HEQ.out).mono ?_); rintro e w9 ⟨rfl, hb9⟩; have m0_ := Aside0.mk (below_step HB6.out hb9); clear HB6; have HB6 := m0_; clear m0_; have n_ := cell_ hb9 kk00; clear kk00; have kk00 := n_; clear n_; have n_ := cell_ hb9 kk01; clear kk01; have kk01 := n_; clear n_; have n_ := cell_ hb9 kk10; clear kk10; have kk10 := n_; clear n_; have n_ := cell_ hb9 kk11; clear kk11; have kk11 := n_; clear n_; have n_ := cell_ hb9 kk20; clear kk20; have kk20 := n_; clear n_; have n_ := cell_ hb9 kk21; clear kk21; have kk21 := n_; clear n_; have n_ := cell_ hb9 kk30; clear kk30; have kk30 := n_; clear n_; have n_ := cell_ hb9 kk31; clear kk31; have kk31 := n_; clear n_; have n_ := cell_ hb9 kk40; clear kk40; have kk40 := n_; clear n_; have n_ := cell_ hb9 kk41; clear kk41; have kk41 := n_; clear n_; have n_ := cell_ hb9 kk50; clear kk50; have kk50 := n_; clear n_; have n_ := cell_ hb9 kk51; clear kk51; have kk51 := n_; clear n_; have n_ := cell_ hb9 kk60; clear kk60; have kk60 := n_; clear n_; have n_ := cell_ hb9 kk61; clear kk61; have kk61 := n_; clear n_; have n_ := cell_ hb9 kk62; clear kk62; have kk62 := n_; clear n_; have n_ := cell_ hb9 kk70; clear kk70; have kk70 := n_; clear n_; have n_ := cell_ hb9 kk71; clear kk71; have kk71 := n_; clear n_; have n_ := cell_ hb9 kk72; clear kk72; have kk72 := n_; clear n_; clear hb9)
       | (go_at_call 130; (with_reducible refine (HCF.out _ ?sb).mono ?_); (case sb => first | exact HB6.out | exact below_drew HB6.out | exact below_alloc HB6.out _); rw [HANY.out]; rintro e w9 ⟨rfl, hb9⟩; have m0_ := Aside0.mk (below_step HB6.out hb9); clear HB6; have HB6 := m0_; clear m0_; have n_ := cell_ hb9 kk00; clear kk00; have kk00 := n_; clear n_; have n_ := cell_ hb9 kk01; clear kk01; have kk01 := n_; clear n_; have n_ := cell_ hb9 kk10; clear kk10; have kk10 := n_; clear n_; have n_ := cell_ hb9 kk11; clear kk11; have kk11 := n_; clear n_; have n_ := cell_ hb9 kk20; clear kk20; have kk20 := n_; clear n_; have n_ := cell_ hb9 kk21; clear kk21; have kk21 := n_; clear n_; have n_ := cell_ hb9 kk30; clear kk30; have kk30 := n_; clear n_; have n_ := cell_ hb9 kk31; clear kk31; have kk31 := n_; clear n_; have n_ := cell_ hb9 kk40; clear kk40; have kk40 := n_; clear n_; have n_ := cell_ hb9 kk41; clear kk41; have kk41 := n_; clear n_; have n_ := cell_ hb9 kk50; clear kk50; have kk50 := n_; clear n_; have n_ := cell_ hb9 kk51; clear kk51; have kk51 := n_; clear n_; have n_ := cell_ hb9 kk60; clear kk60; have kk60 := n_; clear n_; have n_ := cell_ hb9 kk61; clear kk61; have kk61 := n_; clear n_; have n_ := cell_ hb9 kk62; clear kk62; have kk62 := n_; clear n_; have n_ := cell_ hb9 kk70; clear kk70; have kk70 := n_; clear n_; have n_ := cell_ hb9 kk71; clear kk71; have kk71 := n_; clear n_; have n_ := cell_ hb9 kk72; clear kk72; have kk72 := n_; clear n_; clear hb9))
      go_ret2
      exact ⟨_, rfl, Kd.R_nil _ _ _ _ _, below_then HB.out HIL.out HB6.out⟩
     | false =>
      rw [hany, if_neg (by decide)] at h
      have HANY := Aside0.mk hany
      clear hany
      obtain ⟨⟨c0_1, c0_2, c0_3⟩, hc, h⟩ := Option.bind_eq_some_iff.mp h
      obtain ⟨⟨a0_1, a0_2, a0_3⟩, ha, hc⟩ := Option.bind_eq_some_iff.mp hc
      obtain ⟨⟨b0_1, b0_2, b0_3⟩, hb, hc⟩ := Option.bind_eq_some_iff.mp hc
      have HPA0 := Aside0.mk (show impl_through.f k x0 y0 x4 y4 = some (a0_1, a0_2, a0_3) by have t_ := HXY.out; simp only [thrP, ptP, t_] at ha; exact ha)
      have HPB0 := Aside0.mk (show impl_through.f k x1 y1 x3 y3 = some (b0_1, b0_2, b0_3) by have t_ := HXY.out; simp only [thrP, ptP, t_] at hb; exact hb)
      have HPC0 := Aside0.mk (show impl_CrossOf.f k a0_1 a0_2 a0_3 b0_1 b0_2 b0_3 = some (c0_1, c0_2, c0_3) from hc)
      clear ha hb hc
      obtain ⟨⟨c1_1, c1_2, c1_3⟩, hc, h⟩ := Option.bind_eq_some_iff.mp h
      obtain ⟨⟨a1_1, a1_2, a1_3⟩, ha, hc⟩ := Option.bind_eq_some_iff.mp hc
      obtain ⟨⟨b1_1, b1_2, b1_3⟩, hb, hc⟩ := Option.bind_eq_some_iff.mp hc
      have HPA1 := Aside0.mk (show impl_through.f k x0 y0 x5 y5 = some (a1_1, a1_2, a1_3) by have t_ := HXY.out; simp only [thrP, ptP, t_] at ha; exact ha)
      have HPB1 := Aside0.mk (show impl_through.f k x2 y2 x3 y3 = some (b1_1, b1_2, b1_3) by have t_ := HXY.out; simp only [thrP, ptP, t_] at hb; exact hb)
      have HPC1 := Aside0.mk (show impl_CrossOf.f k a1_1 a1_2 a1_3 b1_1 b1_2 b1_3 = some (c1_1, c1_2, c1_3) from hc)
      clear ha hb hc
      obtain ⟨⟨c2_1, c2_2, c2_3⟩, hc, h⟩ := Option.bind_eq_some_iff.mp h
      obtain ⟨⟨a2_1, a2_2, a2_3⟩, ha, hc⟩ := Option.bind_eq_some_iff.mp hc
      obtain ⟨⟨b2_1, b2_2, b2_3⟩, hb, hc⟩ := Option.bind_eq_some_iff.mp hc
      have HPA2 := Aside0.mk (show impl_through.f k x1 y1 x5 y5 = some (a2_1, a2_2, a2_3) by have t_ := HXY.out; simp only [thrP, ptP, t_] at ha; exact ha)
      have HPB2 := Aside0.mk (show impl_through.f k x2 y2 x4 y4 = some (b2_1, b2_2, b2_3) by have t_ := HXY.out; simp only [thrP, ptP, t_] at hb; exact hb)
      have HPC2 := Aside0.mk (show impl_CrossOf.f k a2_1 a2_2 a2_3 b2_1 b2_2 b2_3 = some (c2_1, c2_2, c2_3) from hc)
      clear ha hb hc
      obtain ⟨rfl, rfl⟩ := Prod.mk.inj (Option.some.inj (show some ([(⟨c0_1, c0_2, c0_3⟩ : TRp), ⟨c1_1, c1_2, c1_3⟩, ⟨c2_1, c2_2, c2_3⟩], true) = some (r1, r2) from h))
      clear h
      go_wp2_with (first
       | (go_at_call 129; (with_reducible refine (impl_isOnLine.calls _ _ _ _ _ true _ HL1.out).mono ?_); rintro e w9 ⟨rfl, hb9⟩; have m0_ := Aside0.mk (below_step HB6.out hb9); clear HB6; have HB6 := m0_; clear m0_; have n_ := cell_ hb9 kk00; clear kk00; have kk00 := n_; clear n_; have n_ := cell_ hb9 kk01; clear kk01; have kk01 := n_; clear n_; have n_ := cell_ hb9 kk10; clear kk10; have kk10 := n_; clear n_; have n_ := cell_ hb9 kk11; clear kk11; have kk11 := n_; clear n_; have n_ := cell_ hb9 kk20; clear kk20; have kk20 := n_; clear n_; have n_ := cell_ hb9 kk21; clear kk21; have kk21 := n_; clear n_; have n_ := cell_ hb9 kk30; clear kk30; have kk30 := n_; clear n_; have n_ := cell_ hb9 kk31; clear kk31; have kk31 := n_; clear n_; have n_ := cell_ hb9 kk40; clear kk40; have kk40 := n_; clear n_; have n_ := cell_ hb9 kk41; clear kk41; have kk41 := n_; clear n_; have n_ := cell_ hb9 kk50; clear kk50; have kk50 := n_; clear n_; have n_ := cell_ hb9 kk51; clear kk51; have kk51 := n_; clear n_; have n_ := cell_ hb9 kk60; clear kk60; have kk60 := n_; clear n_; have n_ := cell_ hb9 kk61; clear kk61; have kk61 := n_; clear n_; have n_ := cell_ hb9 kk62; clear kk62; have kk62 := n_; clear n_; have n_ := cell_ hb9 kk70; clear kk70; have kk70 := n_; clear n_; have n_ := cell_ hb9 kk71; clear kk71; have kk71 := n_; clear n_; have n_ := cell_ hb9 kk72; clear kk72; have kk72 := n_; clear n_; clear hb9)
       | (go_at_call 129; (with_reducible refine (impl_isOnLine.calls _ _ _ _ _ true _ HL2.out).mono ?_); rintro e w9 ⟨rfl, hb9⟩; have m0_ := Aside0.mk (below_step HB6.out hb9); clear HB6; have HB6 := m0_; clear m0_; have n_ := cell_ hb9 kk00; clear kk00; have kk00 := n_; clear n_; have n_ := cell_ hb9 kk01; clear kk01; have kk01 := n_; clear n_; have n_ := cell_ hb9 kk10; clear kk10; have kk10 := n_; clear n_; have n_ := cell_ hb9 kk11; clear kk11; have kk11 := n_; clear n_; have n_ := cell_ hb9 kk20; clear kk20; have kk20 := n_; clear n_; have n_ := cell_ hb9 kk21; clear kk21; have kk21 := n_; clear n_; have n_ := cell_ hb9 kk30; clear kk30; have kk30 := n_; clear n_; have n_ := cell_ hb9 kk31; clear kk31; have kk31 := n_; clear n_; have n_ := cell_ hb9 kk40; clear kk40; have kk40 := n_; clear n_; have n_ := cell_ hb9 kk41; clear kk41; have kk41 := n_; clear n_; have n_ := cell_ hb9 kk50; clear kk50; have kk50 := n_; clear n_; have n_ := cell_ hb9 kk51; clear kk51; have kk51 := n_; clear n_; have n_ := cell_ hb9 kk60; clear kk60; have kk60 := n_; clear n_; have n_ := cell_ hb9 kk61; clear kk61; have kk61 := n_; clear n_; have n_ := cell_ hb9 kk62; clear kk62; have kk62 := n_; clear n_; have n_ := cell_ hb9 kk70; clear kk70; have kk70 := n_; clear n_; have n_ := cell_ hb9 kk71; clear kk71; have kk71 := n_; clear n_; have n_ := cell_ hb9 kk72; clear kk72; have kk72 := n_; clear n_; clear hb9)
       | (go_at_call 126; (with_reducible refine (impl_areOneLine.calls k _ _ _ _ _ _ false _ HEQ.out).mono ?_); rintro e w9 ⟨rfl, hb9⟩; have m0_ := Aside0.mk (below_step HB6.out hb9); clear HB6; have HB6 := m0_; clear m0_; have n_ := cell_ hb9 kk00; clear kk00; have kk00 := n_; clear n_; have n_ := cell_ hb9 kk01; clear kk01; have kk01 := n_; clear n_; have n_ := cell_ hb9 kk10; clear kk10; have kk10 := n_; clear n_; have n_ := cell_ hb9 kk11; clear kk11; have kk11 := n_; clear n_; have n_ := cell_ hb9 kk20; clear kk20; have kk20 := n_; clear n_; have n_ := cell_ hb9 kk21; clear kk21; have kk21 := n_; clear n_; have n_ := cell_ hb9 kk30; clear kk30; have kk30 := n_; clear n_; have n_ := cell_ hb9 kk31; clear kk31; have kk31 := n_; clear n_; have n_ := cell_ hb9 kk40; clear kk40; have kk40 := n_; clear n_; have n_ := cell_ hb9 kk41; clear kk41; have kk41 := n_; clear n_; have n_ := cell_ hb9 kk50; clear kk50; have kk50 := n_; clear n_; have n_ := cell_ hb9 kk51; clear kk51; have kk51 := n_; clear n_; have n_ := cell_ hb9 kk60; clear kk60; have kk60 := n_; clear n_; have n_ := cell_ hb9 kk61; clear kk61; have kk61 := n_; clear n_; have n_ := cell_ hb9 kk62; clear kk62; have kk62 := n_; clear n_; have n_ := cell_ hb9 kk70; clear kk70; have kk70 := n_; clear n_; have n_ := cell_ hb9 kk71; clear kk71; have kk71 := n_; clear n_; have n_ := cell_ hb9 kk72; clear kk72; have kk72 := n_; clear n_; clear hb9)
       | (go_at_call 130; (with_reducible refine (HCF.out _ ?sb).mono ?_); (case sb => first | exact HB6.out | exact below_drew HB6.out | exact below_alloc HB6.out _); rw [HANY.out]; rintro e w9 ⟨rfl, hb9⟩; have m0_ := Aside0.mk (below_step HB6.out hb9); clear HB6; have HB6 := m0_; clear m0_; have n_ := cell_ hb9 kk00; clear kk00; have kk00 := n_; clear n_; have n_ := cell_ hb9 kk01; clear kk01; have kk01 := n_; clear n_; have n_ := cell_ hb9 kk10; clear kk10; have kk10 := n_; clear n_; have n_ := cell_ hb9 kk11; clear kk11; have kk11 := n_; clear n_; have n_ := cell_ hb9 kk20; clear kk20; have kk20 := n_; clear n_; have n_ := cell_ hb9 kk21; clear kk21; have kk21 := n_; clear n_; have n_ := cell_ hb9 kk30; clear kk30; have kk30 := n_; clear n_; have n_ := cell_ hb9 kk31; clear kk31; have kk31 := n_; clear n_; have n_ := cell_ hb9 kk40; clear kk40; have kk40 := n_; clear n_; have n_ := cell_ hb9 kk41; clear kk41; have kk41 := n_; clear n_; have n_ := cell_ hb9 kk50; clear kk50; have kk50 := n_; clear n_; have n_ := cell_ hb9 kk51; clear kk51; have kk51 := n_; clear n_; have n_ := cell_ hb9 kk60; clear kk60; have kk60 := n_; clear n_; have n_ := cell_ hb9 kk61; clear kk61; have kk61 := n_; clear n_; have n_ := cell_ hb9 kk62; clear kk62; have kk62 := n_; clear n_; have n_ := cell_ hb9 kk70; clear kk70; have kk70 := n_; clear n_; have n_ := cell_ hb9 kk71; clear kk71; have kk71 := n_; clear n_; have n_ := cell_ hb9 kk72; clear kk72; have kk72 := n_; clear n_; clear hb9))
      generalize hw9 : w9 = W9 at HB6 kk00 kk01 kk10 kk11 kk20 kk21 kk30 kk31 kk40 kk41 kk50 kk51 kk60 kk61 kk62 kk70 kk71 kk72 ⊢
      clear hw9
      refine region_ (S := fun w' => Below W9.heap.size W9 w') 22 W9.heap.size [] (by kernel_rfl) (by kernel_rfl) (below_drew (Below.refl _ _)) (fun _ _ h1 h2 => h1.trans h2) (fun _ h1 => h1.size) ?_
      iterate 22 (first
       | (refine atV_ (v := ?_) (a' := ?_) rfl rfl rfl rfl (by rfl) ?_ ?_ ?_; rotate_left 2; (· rintro w' hb'; go_simp; with_reducible rfl); (· simp only [Act.put, List.setIfInBounds_toArray, List.set_cons_zero, List.set_cons_succ, i64_w, i32_w]; rfl))
       | (refine atV_ (v := ?_) (a' := ?_) rfl rfl rfl rfl (by rfl) ?_ ?_ ?_; rotate_left 2; (· rintro w' hb'; have s0 := cell_ hb' kk00; have s1 := cell_ hb' kk01; have s2 := cell_ hb' kk10; have s3 := cell_ hb' kk11; have s4 := cell_ hb' kk20; have s5 := cell_ hb' kk21; have s6 := cell_ hb' kk30; have s7 := cell_ hb' kk31; have s8 := cell_ hb' kk40; have s9 := cell_ hb' kk41; have s10 := cell_ hb' kk50; have s11 := cell_ hb' kk51; go_simp; with_reducible rfl); (· simp only [Act.put, List.setIfInBounds_toArray, List.set_cons_zero, List.set_cons_succ, i64_w, i32_w]; rfl))
       | (refine atC_ (a' := ?_) (.agg #[.int .i64 a0_1, .int .i64 a0_2, .int .i64 a0_3]) rfl rfl Try.func125 rfl rfl rfl (by rfl) (by kernel_rfl) rfl #[.agg #[.int .i64 x0, .int .i64 y0], .agg #[.int .i64 x4, .int .i64 y4]] (by (try simp only [List.map_toArray, List.map_cons, List.map_nil]); rfl) ?_ ?_ ?_; rotate_left; (· rintro w' hb'; with_reducible refine (impl_through.calls k _ _ _ _ a0_1 a0_2 a0_3 _ HPA0.out).mono ?_; rintro e w1 ⟨rfl, hb1⟩; exact ⟨rfl, hb1⟩); (· simp only [Act.put, List.setIfInBounds_toArray, List.set_cons_zero, List.set_cons_succ, i64_w, i32_w]; rfl))
       | (refine atC_ (a' := ?_) (.agg #[.int .i64 b0_1, .int .i64 b0_2, .int .i64 b0_3]) rfl rfl Try.func125 rfl rfl rfl (by rfl) (by kernel_rfl) rfl #[.agg #[.int .i64 x1, .int .i64 y1], .agg #[.int .i64 x3, .int .i64 y3]] (by (try simp only [List.map_toArray, List.map_cons, List.map_nil]); rfl) ?_ ?_ ?_; rotate_left; (· rintro w' hb'; with_reducible refine (impl_through.calls k _ _ _ _ b0_1 b0_2 b0_3 _ HPB0.out).mono ?_; rintro e w1 ⟨rfl, hb1⟩; exact ⟨rfl, hb1⟩); (· simp only [Act.put, List.setIfInBounds_toArray, List.set_cons_zero, List.set_cons_succ, i64_w, i32_w]; rfl))
       | (refine atC_ (a' := ?_) (.agg #[.int .i64 a1_1, .int .i64 a1_2, .int .i64 a1_3]) rfl rfl Try.func125 rfl rfl rfl (by rfl) (by kernel_rfl) rfl #[.agg #[.int .i64 x0, .int .i64 y0], .agg #[.int .i64 x5, .int .i64 y5]] (by (try simp only [List.map_toArray, List.map_cons, List.map_nil]); rfl) ?_ ?_ ?_; rotate_left; (· rintro w' hb'; with_reducible refine (impl_through.calls k _ _ _ _ a1_1 a1_2 a1_3 _ HPA1.out).mono ?_; rintro e w1 ⟨rfl, hb1⟩; exact ⟨rfl, hb1⟩); (· simp only [Act.put, List.setIfInBounds_toArray, List.set_cons_zero, List.set_cons_succ, i64_w, i32_w]; rfl))
       | (refine atC_ (a' := ?_) (.agg #[.int .i64 b1_1, .int .i64 b1_2, .int .i64 b1_3]) rfl rfl Try.func125 rfl rfl rfl (by rfl) (by kernel_rfl) rfl #[.agg #[.int .i64 x2, .int .i64 y2], .agg #[.int .i64 x3, .int .i64 y3]] (by (try simp only [List.map_toArray, List.map_cons, List.map_nil]); rfl) ?_ ?_ ?_; rotate_left; (· rintro w' hb'; with_reducible refine (impl_through.calls k _ _ _ _ b1_1 b1_2 b1_3 _ HPB1.out).mono ?_; rintro e w1 ⟨rfl, hb1⟩; exact ⟨rfl, hb1⟩); (· simp only [Act.put, List.setIfInBounds_toArray, List.set_cons_zero, List.set_cons_succ, i64_w, i32_w]; rfl))
       | (refine atC_ (a' := ?_) (.agg #[.int .i64 a2_1, .int .i64 a2_2, .int .i64 a2_3]) rfl rfl Try.func125 rfl rfl rfl (by rfl) (by kernel_rfl) rfl #[.agg #[.int .i64 x1, .int .i64 y1], .agg #[.int .i64 x5, .int .i64 y5]] (by (try simp only [List.map_toArray, List.map_cons, List.map_nil]); rfl) ?_ ?_ ?_; rotate_left; (· rintro w' hb'; with_reducible refine (impl_through.calls k _ _ _ _ a2_1 a2_2 a2_3 _ HPA2.out).mono ?_; rintro e w1 ⟨rfl, hb1⟩; exact ⟨rfl, hb1⟩); (· simp only [Act.put, List.setIfInBounds_toArray, List.set_cons_zero, List.set_cons_succ, i64_w, i32_w]; rfl))
       | (refine atC_ (a' := ?_) (.agg #[.int .i64 b2_1, .int .i64 b2_2, .int .i64 b2_3]) rfl rfl Try.func125 rfl rfl rfl (by rfl) (by kernel_rfl) rfl #[.agg #[.int .i64 x2, .int .i64 y2], .agg #[.int .i64 x4, .int .i64 y4]] (by (try simp only [List.map_toArray, List.map_cons, List.map_nil]); rfl) ?_ ?_ ?_; rotate_left; (· rintro w' hb'; with_reducible refine (impl_through.calls k _ _ _ _ b2_1 b2_2 b2_3 _ HPB2.out).mono ?_; rintro e w1 ⟨rfl, hb1⟩; exact ⟨rfl, hb1⟩); (· simp only [Act.put, List.setIfInBounds_toArray, List.set_cons_zero, List.set_cons_succ, i64_w, i32_w]; rfl))
       | (refine atC_ (a' := ?_) (.agg #[.int .i64 c0_1, .int .i64 c0_2, .int .i64 c0_3]) rfl rfl Try.func77 rfl rfl rfl (by rfl) (by kernel_rfl) rfl #[.agg #[.int .i64 a0_1, .int .i64 a0_2, .int .i64 a0_3], .agg #[.int .i64 b0_1, .int .i64 b0_2, .int .i64 b0_3]] (by (try simp only [List.map_toArray, List.map_cons, List.map_nil]); rfl) ?_ ?_ ?_; rotate_left; (· rintro w' hb'; with_reducible refine (impl_CrossOf.calls k _ _ _ _ _ _ c0_1 c0_2 c0_3 _ HPC0.out).mono ?_; rintro e w1 ⟨rfl, hb1⟩; exact ⟨rfl, hb1⟩); (· simp only [Act.put, List.setIfInBounds_toArray, List.set_cons_zero, List.set_cons_succ, i64_w, i32_w]; rfl))
       | (refine atC_ (a' := ?_) (.agg #[.int .i64 c1_1, .int .i64 c1_2, .int .i64 c1_3]) rfl rfl Try.func77 rfl rfl rfl (by rfl) (by kernel_rfl) rfl #[.agg #[.int .i64 a1_1, .int .i64 a1_2, .int .i64 a1_3], .agg #[.int .i64 b1_1, .int .i64 b1_2, .int .i64 b1_3]] (by (try simp only [List.map_toArray, List.map_cons, List.map_nil]); rfl) ?_ ?_ ?_; rotate_left; (· rintro w' hb'; with_reducible refine (impl_CrossOf.calls k _ _ _ _ _ _ c1_1 c1_2 c1_3 _ HPC1.out).mono ?_; rintro e w1 ⟨rfl, hb1⟩; exact ⟨rfl, hb1⟩); (· simp only [Act.put, List.setIfInBounds_toArray, List.set_cons_zero, List.set_cons_succ, i64_w, i32_w]; rfl))
       | (refine atC_ (a' := ?_) (.agg #[.int .i64 c2_1, .int .i64 c2_2, .int .i64 c2_3]) rfl rfl Try.func77 rfl rfl rfl (by rfl) (by kernel_rfl) rfl #[.agg #[.int .i64 a2_1, .int .i64 a2_2, .int .i64 a2_3], .agg #[.int .i64 b2_1, .int .i64 b2_2, .int .i64 b2_3]] (by (try simp only [List.map_toArray, List.map_cons, List.map_nil]); rfl) ?_ ?_ ?_; rotate_left; (· rintro w' hb'; with_reducible refine (impl_CrossOf.calls k _ _ _ _ _ _ c2_1 c2_2 c2_3 _ HPC2.out).mono ?_; rintro e w1 ⟨rfl, hb1⟩; exact ⟨rfl, hb1⟩); (· simp only [Act.put, List.setIfInBounds_toArray, List.set_cons_zero, List.set_cons_succ, i64_w, i32_w]; rfl))
       | (refine atB_ #[.int .i64 c0_1, .int .i64 c0_2, .int .i64 c0_3, .int .i64 c1_1, .int .i64 c1_2, .int .i64 c1_3, .int .i64 c2_1, .int .i64 c2_2, .int .i64 c2_3] 72 3 rfl rfl (by rfl) rfl (by rfl) ?_ ?_; (· rintro w' hb'; first | (go_simp; done) | (go_simp; rfl))))
      refine atEnd_ ?_
      intro w10 hb10 g9 _ h9 hn9
      unfold endG
      show wpAnyLast _ _ _ _ _ _ 2 (bm 24 4194303) _ _
      refine pure_ (i := 22) (N := some 2) (v := ?_) (a' := ?_) (bm 24 8388607) rfl rfl (by kernel_rfl) (fun _ _ _ h => h) (Or.inl ⟨by rfl, ?_⟩) ?_ ?_
      rotate_left
      ·intro w'
       go_simp
       with_reducible rfl
      rotate_left
      ·simp only [Act.put, List.setIfInBounds_toArray, List.set_cons_zero, List.set_cons_succ, i64_w, i32_w]
       rfl
      refine pure_ (i := 23) (N := some 3) (v := ?_) (a' := ?_) (bm 24 16777215) rfl rfl (by kernel_rfl) (fun _ _ _ h => h) (Or.inl ⟨by rfl, ?_⟩) ?_ ?_
      rotate_left
      ·intro w'
       go_simp
       with_reducible rfl
      rotate_left
      ·simp only [Act.put, List.setIfInBounds_toArray, List.set_cons_zero, List.set_cons_succ, i64_w, i32_w]
       rfl
      refine done_ (by kernel_rfl) ?_
      have HBZ := Aside0.mk (below_then (below_then HB.out HIL.out HB6.out) (Nat.le_trans HIL.out (below_size HB6.out)) hb10)
      have HRZ := Aside0.mk (show Kd.R k72 72 w10 w.heap.size (fun _ => True) (.slice (some ⟨g9, 0, none⟩) 3 3) [(⟨c0_1, c0_2, c0_3⟩ : TRp), ⟨c1_1, c1_2, c1_3⟩, ⟨c2_1, c2_2, c2_3⟩] from ⟨fun _ _ => trivial, _, ⟨by rfl, .inr ⟨g9, 3, _, rfl, Nat.le_trans (Nat.le_trans HIL.out (below_size HB6.out)) hn9, h9, Nat.le_refl _, by decide, rfl, rfl⟩⟩, Reps.snoc (Reps.snoc (Reps.snoc (Reps.none _ _) (k72_mkM _ _ _ (⟨c0_1, c0_2, c0_3⟩ : TRp)) rfl) (k72_mkM _ _ _ (⟨c1_1, c1_2, c1_3⟩ : TRp)) rfl) (k72_mkM _ _ _ (⟨c2_1, c2_2, c2_3⟩ : TRp)) rfl⟩)
      clear hb10 h9 hn9
      go_wp2
      go_ret2
      exact ⟨_, rfl, HRZ.out, HBZ.out⟩
theorem impl_PappusOf.mono : ∀ a0 k, LeO (impl_PappusOf.f k a0) (impl_PappusOf.f (k + 1) a0) := by
 intro a0 k
 unfold impl_PappusOf.f pairC thrP
 repeat' first
  | (with_reducible exact impl_areSix.mono _ _)
  | (with_reducible exact impl_through.mono _ _ _ _ _)
  | (with_reducible exact impl_areOneLine.mono _ _ _ _ _ _ _)
  | (with_reducible exact impl_CrossOf.mono _ _ _ _ _ _ _)
  | (with_reducible exact LeO.refl _)
  | (with_reducible exact LeO.none _)
  | (with_reducible refine LeO.ite ?_ ?_)
  | (with_reducible refine LeO.bind ?_ (fun _ => ?_))

end Go.Proofs.Ytldcckcljjlglaa.P

