/- A part of the proof of FnExactDescribeLines: printed contracts and plain laws, joined by a program of this session. -/
import Derived.Test.YtecpobpcimehlaaDoorZFnExactDescribeLines3
import Derived.DeepKeys4
import Derived.Maps.Ext
import Derived.Maps.RangeWalk
import Derived.Maps.OwnOps
import Derived.OpenShut
namespace Go.Proofs.YtecpobpcimehlaaDoor.P
open Go.RowKit Go.Proofs.YtecpobpcimehlaaDoorW.PrintWords Go.Proofs.YtecpobpcimehlaaDoorW.PrintLast Go.Proofs.YtecpobpcimehlaaDoorW.PrintMore
attribute [local go_sem] max2_int min2_int max_two min_two max_three min_three max_four min_four   -- for this text's walks alone
set_option linter.unusedVariables false
set_option linter.unusedSimpArgs false
/-! ### impl_MeetLines: function 54 -/
def impl_MeetLines.j0 : Nat → Bool → Int → Int → Int → Int → Int → Int → Option (Int × Int × Int × Bool)
 | 0, _, _, _, _, _, _, _ => none
 | k + 1, x21, x102000, x102001, x102002, x103000, x103001, x103002 => if x21 = true then (some (0, 0, 0, false)) else ((impl_divisor.f k (([wrap64 ((wrap64 (x102002 * x103001)) - (wrap64 (x103002 * x102001))), wrap64 ((wrap64 (x102000 * x103002)) - (wrap64 (x103000 * x102002))), wrap64 ((wrap64 (x102000 * x103001)) - (wrap64 (x102001 * x103000)))] : List Int))).bind fun t111 => ((impl_signOf.f (wrap64 ((wrap64 (x102000 * x103001)) - (wrap64 (x102001 * x103000))))).bind fun t112 => (if (wrap64 (t111 * t112)) = 0 then (none) else (some (wrap64 (Int.tdiv (wrap64 ((wrap64 (x102002 * x103001)) - (wrap64 (x103002 * x102001)))) (wrap64 (t111 * t112))), wrap64 (Int.tdiv (wrap64 ((wrap64 (x102000 * x103002)) - (wrap64 (x103000 * x102002)))) (wrap64 (t111 * t112))), wrap64 (Int.tdiv (wrap64 ((wrap64 (x102000 * x103001)) - (wrap64 (x102001 * x103000)))) (wrap64 (t111 * t112))), true)))))
def impl_MeetLines.f (k : Nat) (a0_0 : Int) (a0_1 : Int) (a0_2 : Int) (a1_0 : Int) (a1_1 : Int) (a1_2 : Int) : Option (Int × Int × Int × Bool) := (impl_AreLines.f (([(⟨a0_0, a0_1, a0_2⟩ : S36), (⟨a1_0, a1_1, a1_2⟩ : S36)] : List (S36)))).bind fun t106 => (if t106 = true then ((impl_areParallel.f a0_0 a0_1 a0_2 a1_0 a1_1 a1_2).bind fun t107 => (impl_MeetLines.j0 k t107 a0_0 a0_1 a0_2 a1_0 a1_1 a1_2)) else (impl_MeetLines.j0 k true a0_0 a0_1 a0_2 a1_0 a1_1 a1_2))
set_option maxHeartbeats 8000000 in
set_option maxRecDepth 100000 in
theorem impl_MeetLines.calls (k : Nat) (a0_0 : Int) (a0_1 : Int) (a0_2 : Int) (a1_0 : Int) (a1_1 : Int) (a1_2 : Int) (r1 : Int) (r2 : Int) (r3 : Int) (r4 : Bool) (w : World) (h : impl_MeetLines.f k a0_0 a0_1 a0_2 a1_0 a1_1 a1_2 = some (r1, r2, r3, r4)) :
  Calls Tryd.prog 54 #[.agg #[.int .i64 a0_0, .int .i64 a0_1, .int .i64 a0_2], .agg #[.int .i64 a1_0, .int .i64 a1_1, .int .i64 a1_2]] w fun e w' => e = .returned (.tuple #[.int .i64 r1, .int .i64 r2, .int .i64 r3, .bool r4]) ∧ Below w.heap.size w w' := by
 have hu36 := Tryd.underlying36
 have HB := Aside0.mk (Below.refl w.heap.size w)
 have H : ((impl_AreLines.f (([(⟨a0_0, a0_1, a0_2⟩ : S36), (⟨a1_0, a1_1, a1_2⟩ : S36)] : List (S36)))).bind fun t106 => (if t106 = true then ((impl_areParallel.f a0_0 a0_1 a0_2 a1_0 a1_1 a1_2).bind fun t107 => (impl_MeetLines.j0 k t107 a0_0 a0_1 a0_2 a1_0 a1_1 a1_2)) else (impl_MeetLines.j0 k true a0_0 a0_1 a0_2 a1_0 a1_1 a1_2))) = some (r1, r2, r3, r4) := h
 clear h
 have HC3 := Aside0.mk H
 clear H
 go_enter Tryd.func54, Tryd.ntmps54
 go_upto_region 1 with (first | ((with_reducible refine gate_dst (N := 2) rfl ?_); refine box_event ?hg (N := 2) ?hd (cs := #[.int .i64 a0_0, .int .i64 a0_1, .int .i64 a0_2]) (t := 36) ?hr ?_; (case hd => rfl); (case hg => rfl); (case hr => first | (go_simp; done) | (go_simp; rfl)); intro gb101 hg w4 hbox hb; have n0_ := Aside0.mk (below_step (by repeat (first | (with_reducible first | exact HB.out | apply below_alloc | apply pw_below_drewN | apply below_drew1) | exact HB.out)) hb); have n1_ := Aside0.mk (hbox); have n2_ := Aside0.mk ((by rw [hg]; exact (below_size (by repeat (first | (with_reducible first | exact HB.out | apply below_alloc | apply pw_below_drewN | apply below_drew1) | exact HB.out))) : w.heap.size ≤ gb101)); have n3_ := Aside0.mk ((by rw [hg]; exact (below_size (by repeat (first | (with_reducible first | exact HB.out | apply below_alloc | apply pw_below_drewN | apply below_drew1) | exact HB.out))) : w.heap.size ≤ gb101)); clear HB; have HB := n0_; have BK101 := n1_; have GW101 := n2_; have GE101 := n3_; clear n0_ n1_ n2_ n3_; clear hb hbox hg) | ((with_reducible refine gate_dst (N := 3) rfl ?_); refine box_event ?hg (N := 3) ?hd (cs := #[.int .i64 a1_0, .int .i64 a1_1, .int .i64 a1_2]) (t := 36) ?hr ?_; (case hd => rfl); (case hg => rfl); (case hr => first | (go_simp; done) | (go_simp; rfl)); intro gb102 hg w5 hbox hb; have n0_ := Aside0.mk (blk_below (g := gb101) (o := .cells #[.int .i64 a0_0, .int .i64 a0_1, .int .i64 a0_2] 36 (0, 0)) (by (with_reducible repeat (first | refine blk_drewN ?_ _ | refine blk_drew ?_ | refine blk_alloc ?_ _)); exact BK101.out) hb); have n1_ := Aside0.mk (below_step (by repeat (first | (with_reducible first | exact HB.out | apply below_alloc | apply pw_below_drewN | apply below_drew1 | refine below_set ?_ GE101.out) | exact HB.out)) hb); have n2_ := Aside0.mk (hbox); have n3_ := Aside0.mk ((by rw [hg]; exact (below_size (by repeat (first | (with_reducible first | exact HB.out | apply below_alloc | apply pw_below_drewN | apply below_drew1 | refine below_set ?_ GE101.out) | exact HB.out))) : w.heap.size ≤ gb102)); have n4_ := Aside0.mk ((by rw [hg]; exact (below_size (by repeat (first | (with_reducible first | exact HB.out | apply below_alloc | apply pw_below_drewN | apply below_drew1 | refine below_set ?_ GE101.out) | exact HB.out))) : w.heap.size ≤ gb102)); have n5_ := Aside0.mk ((by rw [hg]; exact Nat.ne_of_lt (blk_lt (g := gb101) (o := .cells #[.int .i64 a0_0, .int .i64 a0_1, .int .i64 a0_2] 36 (0, 0)) (by (with_reducible repeat (first | refine blk_drewN ?_ _ | refine blk_drew ?_ | refine blk_alloc ?_ _)); exact BK101.out)) : gb101 ≠ gb102)); have n6_ := Aside0.mk ((by rw [hg]; exact Nat.ne_of_gt (blk_lt (g := gb101) (o := .cells #[.int .i64 a0_0, .int .i64 a0_1, .int .i64 a0_2] 36 (0, 0)) (by (with_reducible repeat (first | refine blk_drewN ?_ _ | refine blk_drew ?_ | refine blk_alloc ?_ _)); exact BK101.out)) : gb102 ≠ gb101)); clear BK101; clear HB; have BK101 := n0_; have HB := n1_; have BK102 := n2_; have GW102 := n3_; have GE102 := n4_; have NB101_102 := n5_; have NB102_101 := n6_; clear n0_ n1_ n2_ n3_ n4_ n5_ n6_; clear hb hbox hg))
 repeat (go_quiet (first | ((with_reducible refine gate_dst (N := 2) rfl ?_); refine box_event ?hg (N := 2) ?hd (cs := #[.int .i64 a0_0, .int .i64 a0_1, .int .i64 a0_2]) (t := 36) ?hr ?_; (case hd => rfl); (case hg => rfl); (case hr => first | (go_simp; done) | (go_simp; rfl)); intro gb101 hg w4 hbox hb; have n0_ := Aside0.mk (below_step (by repeat (first | (with_reducible first | exact HB.out | apply below_alloc | apply pw_below_drewN | apply below_drew1) | exact HB.out)) hb); have n1_ := Aside0.mk (hbox); have n2_ := Aside0.mk ((by rw [hg]; exact (below_size (by repeat (first | (with_reducible first | exact HB.out | apply below_alloc | apply pw_below_drewN | apply below_drew1) | exact HB.out))) : w.heap.size ≤ gb101)); have n3_ := Aside0.mk ((by rw [hg]; exact (below_size (by repeat (first | (with_reducible first | exact HB.out | apply below_alloc | apply pw_below_drewN | apply below_drew1) | exact HB.out))) : w.heap.size ≤ gb101)); clear HB; have HB := n0_; have BK101 := n1_; have GW101 := n2_; have GE101 := n3_; clear n0_ n1_ n2_ n3_; clear hb hbox hg) | ((with_reducible refine gate_dst (N := 3) rfl ?_); refine box_event ?hg (N := 3) ?hd (cs := #[.int .i64 a1_0, .int .i64 a1_1, .int .i64 a1_2]) (t := 36) ?hr ?_; (case hd => rfl); (case hg => rfl); (case hr => first | (go_simp; done) | (go_simp; rfl)); intro gb102 hg w5 hbox hb; have n0_ := Aside0.mk (blk_below (g := gb101) (o := .cells #[.int .i64 a0_0, .int .i64 a0_1, .int .i64 a0_2] 36 (0, 0)) (by (with_reducible repeat (first | refine blk_drewN ?_ _ | refine blk_drew ?_ | refine blk_alloc ?_ _)); exact BK101.out) hb); have n1_ := Aside0.mk (below_step (by repeat (first | (with_reducible first | exact HB.out | apply below_alloc | apply pw_below_drewN | apply below_drew1 | refine below_set ?_ GE101.out) | exact HB.out)) hb); have n2_ := Aside0.mk (hbox); have n3_ := Aside0.mk ((by rw [hg]; exact (below_size (by repeat (first | (with_reducible first | exact HB.out | apply below_alloc | apply pw_below_drewN | apply below_drew1 | refine below_set ?_ GE101.out) | exact HB.out))) : w.heap.size ≤ gb102)); have n4_ := Aside0.mk ((by rw [hg]; exact (below_size (by repeat (first | (with_reducible first | exact HB.out | apply below_alloc | apply pw_below_drewN | apply below_drew1 | refine below_set ?_ GE101.out) | exact HB.out))) : w.heap.size ≤ gb102)); have n5_ := Aside0.mk ((by rw [hg]; exact Nat.ne_of_lt (blk_lt (g := gb101) (o := .cells #[.int .i64 a0_0, .int .i64 a0_1, .int .i64 a0_2] 36 (0, 0)) (by (with_reducible repeat (first | refine blk_drewN ?_ _ | refine blk_drew ?_ | refine blk_alloc ?_ _)); exact BK101.out)) : gb101 ≠ gb102)); have n6_ := Aside0.mk ((by rw [hg]; exact Nat.ne_of_gt (blk_lt (g := gb101) (o := .cells #[.int .i64 a0_0, .int .i64 a0_1, .int .i64 a0_2] 36 (0, 0)) (by (with_reducible repeat (first | refine blk_drewN ?_ _ | refine blk_drew ?_ | refine blk_alloc ?_ _)); exact BK101.out)) : gb102 ≠ gb101)); clear BK101; clear HB; have BK101 := n0_; have HB := n1_; have BK102 := n2_; have GW102 := n3_; have GE102 := n4_; have NB101_102 := n5_; have NB102_101 := n6_; clear n0_ n1_ n2_ n3_ n4_ n5_ n6_; clear hb hbox hg)); go_upto_region 1 with (first | ((with_reducible refine gate_dst (N := 2) rfl ?_); refine box_event ?hg (N := 2) ?hd (cs := #[.int .i64 a0_0, .int .i64 a0_1, .int .i64 a0_2]) (t := 36) ?hr ?_; (case hd => rfl); (case hg => rfl); (case hr => first | (go_simp; done) | (go_simp; rfl)); intro gb101 hg w4 hbox hb; have n0_ := Aside0.mk (below_step (by repeat (first | (with_reducible first | exact HB.out | apply below_alloc | apply pw_below_drewN | apply below_drew1) | exact HB.out)) hb); have n1_ := Aside0.mk (hbox); have n2_ := Aside0.mk ((by rw [hg]; exact (below_size (by repeat (first | (with_reducible first | exact HB.out | apply below_alloc | apply pw_below_drewN | apply below_drew1) | exact HB.out))) : w.heap.size ≤ gb101)); have n3_ := Aside0.mk ((by rw [hg]; exact (below_size (by repeat (first | (with_reducible first | exact HB.out | apply below_alloc | apply pw_below_drewN | apply below_drew1) | exact HB.out))) : w.heap.size ≤ gb101)); clear HB; have HB := n0_; have BK101 := n1_; have GW101 := n2_; have GE101 := n3_; clear n0_ n1_ n2_ n3_; clear hb hbox hg) | ((with_reducible refine gate_dst (N := 3) rfl ?_); refine box_event ?hg (N := 3) ?hd (cs := #[.int .i64 a1_0, .int .i64 a1_1, .int .i64 a1_2]) (t := 36) ?hr ?_; (case hd => rfl); (case hg => rfl); (case hr => first | (go_simp; done) | (go_simp; rfl)); intro gb102 hg w5 hbox hb; have n0_ := Aside0.mk (blk_below (g := gb101) (o := .cells #[.int .i64 a0_0, .int .i64 a0_1, .int .i64 a0_2] 36 (0, 0)) (by (with_reducible repeat (first | refine blk_drewN ?_ _ | refine blk_drew ?_ | refine blk_alloc ?_ _)); exact BK101.out) hb); have n1_ := Aside0.mk (below_step (by repeat (first | (with_reducible first | exact HB.out | apply below_alloc | apply pw_below_drewN | apply below_drew1 | refine below_set ?_ GE101.out) | exact HB.out)) hb); have n2_ := Aside0.mk (hbox); have n3_ := Aside0.mk ((by rw [hg]; exact (below_size (by repeat (first | (with_reducible first | exact HB.out | apply below_alloc | apply pw_below_drewN | apply below_drew1 | refine below_set ?_ GE101.out) | exact HB.out))) : w.heap.size ≤ gb102)); have n4_ := Aside0.mk ((by rw [hg]; exact (below_size (by repeat (first | (with_reducible first | exact HB.out | apply below_alloc | apply pw_below_drewN | apply below_drew1 | refine below_set ?_ GE101.out) | exact HB.out))) : w.heap.size ≤ gb102)); have n5_ := Aside0.mk ((by rw [hg]; exact Nat.ne_of_lt (blk_lt (g := gb101) (o := .cells #[.int .i64 a0_0, .int .i64 a0_1, .int .i64 a0_2] 36 (0, 0)) (by (with_reducible repeat (first | refine blk_drewN ?_ _ | refine blk_drew ?_ | refine blk_alloc ?_ _)); exact BK101.out)) : gb101 ≠ gb102)); have n6_ := Aside0.mk ((by rw [hg]; exact Nat.ne_of_gt (blk_lt (g := gb101) (o := .cells #[.int .i64 a0_0, .int .i64 a0_1, .int .i64 a0_2] 36 (0, 0)) (by (with_reducible repeat (first | refine blk_drewN ?_ _ | refine blk_drew ?_ | refine blk_alloc ?_ _)); exact BK101.out)) : gb102 ≠ gb101)); clear BK101; clear HB; have BK101 := n0_; have HB := n1_; have BK102 := n2_; have GW102 := n3_; have GE102 := n4_; have NB101_102 := n5_; have NB102_101 := n6_; clear n0_ n1_ n2_ n3_ n4_ n5_ n6_; clear hb hbox hg)))
 (try simp only [Act.put, List.setIfInBounds_toArray, List.set_cons_zero, List.set_cons_succ])
 go_cut [21] (fun v21 wc => ∃ (kq : Nat) (x21_2 : Bool), v21 = .bool x21_2 ∧ Aside0 (impl_MeetLines.j0 kq x21_2 a0_0 a0_1 a0_2 a1_0 a1_1 a1_2 = some (r1, r2, r3, r4)) ∧ Aside0 (kq ≤ k) ∧ Aside0 (wc.heap[gb101]? = some (.cells #[.int .i64 a0_0, .int .i64 a0_1, .int .i64 a0_2] 36 (0, 0))) ∧ Aside0 (wc.heap[gb102]? = some (.cells #[.int .i64 a1_0, .int .i64 a1_1, .int .i64 a1_2] 36 (0, 0))) ∧ Aside0 (Below w.heap.size w wc))
 case first =>
  have H := HC3.out
  clear HC3
  obtain ⟨y103, hy103⟩ : ∃ y_ : List (S36), y_ = (([(⟨a0_0, a0_1, a0_2⟩ : S36), (⟨a1_0, a1_1, a1_2⟩ : S36)] : List (S36))) := ⟨_, rfl⟩
  replace H : ((impl_AreLines.f y103).bind fun t106 => (if t106 = true then ((impl_areParallel.f a0_0 a0_1 a0_2 a1_0 a1_1 a1_2).bind fun t107 => (impl_MeetLines.j0 k t107 a0_0 a0_1 a0_2 a1_0 a1_1 a1_2)) else (impl_MeetLines.j0 k true a0_0 a0_1 a0_2 a1_0 a1_1 a1_2))) = some (r1, r2, r3, r4) := by first | (rw [hy103]; with_reducible exact H) | (have H2_ := (Option.bind_some _ _).symm.trans H; rw [hy103]; with_reducible exact H2_) | (have H2_ := (Option.bind_some _ _).symm.trans H; with_reducible exact H2_) | with_reducible exact H | (rw [hy103]; exact H) | exact H
  have Ny103 := Aside0.mk hy103
  clear hy103
  replace H := Option.bind_eq_some_iff.mp H
  obtain ⟨t106, A60, H⟩ := H
  replace H : (if t106 = true then ((impl_areParallel.f a0_0 a0_1 a0_2 a1_0 a1_1 a1_2).bind fun t107 => (impl_MeetLines.j0 k t107 a0_0 a0_1 a0_2 a1_0 a1_1 a1_2)) else (impl_MeetLines.j0 k true a0_0 a0_1 a0_2 a1_0 a1_1 a1_2)) = some (r1, r2, r3, r4) := H
  have A6 := Aside0.mk A60
  clear A60
  by_cases c7 : t106 = true
  ·subst c7
   have H1 : ((impl_areParallel.f a0_0 a0_1 a0_2 a1_0 a1_1 a1_2).bind fun t107 => (impl_MeetLines.j0 k t107 a0_0 a0_1 a0_2 a1_0 a1_1 a1_2)) = some (r1, r2, r3, r4) := by rw [if_pos rfl] at H; exact H
   clear H
   have H := H1
   clear H1
   replace H := Option.bind_eq_some_iff.mp H
   obtain ⟨t107, A80, H⟩ := H
   replace H : (impl_MeetLines.j0 k t107 a0_0 a0_1 a0_2 a1_0 a1_1 a1_2) = some (r1, r2, r3, r4) := H
   have A8 := Aside0.mk A80
   clear A80
   have H' := Aside0.mk H
   clear H
   have hnb9 := NB101_102.out
   have hnc9 := NB102_101.out
   have hcz10_0 : w5.cell? ⟨gb101, 0, none⟩ = some (.int .i64 a0_0) := (blk_cell BK101.out 0).trans rfl
   have hcz10_1 : w5.cell? ⟨gb101, 1, none⟩ = some (.int .i64 a0_1) := (blk_cell BK101.out 1).trans rfl
   have hcz10_2 : w5.cell? ⟨gb101, 2, none⟩ = some (.int .i64 a0_2) := (blk_cell BK101.out 2).trans rfl
   have hfz10_0 := blk_frozen BK101.out 0
   have hfz10_1 := blk_frozen BK101.out 1
   have hfz10_2 := blk_frozen BK101.out 2
   have hcz11_0 : w5.cell? ⟨gb102, 0, none⟩ = some (.int .i64 a1_0) := (blk_cell BK102.out 0).trans rfl
   have hcz11_1 : w5.cell? ⟨gb102, 1, none⟩ = some (.int .i64 a1_1) := (blk_cell BK102.out 1).trans rfl
   have hcz11_2 : w5.cell? ⟨gb102, 2, none⟩ = some (.int .i64 a1_2) := (blk_cell BK102.out 2).trans rfl
   have hfz11_0 := blk_frozen BK102.out 0
   have hfz11_1 := blk_frozen BK102.out 1
   have hfz11_2 := blk_frozen BK102.out 2
   go_wp2_with (first | ((with_reducible refine gate_dst (N := 14) rfl ?_); refine Kd.R_lit k36 _ 36 ?hg (N := 14) ?hd (xs := ([(⟨a0_0, a0_1, a0_2⟩ : S36), (⟨a1_0, a1_1, a1_2⟩ : S36)] : List (S36))) (inner := [.int .i64 a0_0, .int .i64 a0_1, .int .i64 a0_2, .int .i64 a1_0, .int .i64 a1_1, .int .i64 a1_2]) (ok := fun _ => True) (okp := fun _ => True) ?hr ?hp (fun _ hk => hk) trivial (Below.refl _ _) (Nat.le_refl _) (by simp) ?_; (case hd => rfl); (case hg => rfl); (case hr => first | (go_simp; done) | (go_simp; rfl)); (case hp => exact (Reps.c3 (show Kd.M k36 _ _ _ (⟨a0_0, a0_1, a0_2⟩ : S36) [.int .i64 a0_0, .int .i64 a0_1, .int .i64 a0_2] from (k36_mkM _ _ _ (⟨a0_0, a0_1, a0_2⟩ : S36) )) (Reps.c3 (show Kd.M k36 _ _ _ (⟨a1_0, a1_1, a1_2⟩ : S36) [.int .i64 a1_0, .int .i64 a1_1, .int .i64 a1_2] from (k36_mkM _ _ _ (⟨a1_0, a1_1, a1_2⟩ : S36) )) (Reps.none _ _)))); intro v104 w12 ho13 hb hg_ hnew_; clear hg_ hnew_; (first | rw [← Ny103.out] at ho13 | (simp only [Int.reduceToNat] at ho13; rw [← Ny103.out] at ho13)); have n0_ := Aside0.mk (Kd.R_lower (Kd.R_newB (Kd.R_newB ho13 (g := gb101) (o := .cells #[.int .i64 a0_0, .int .i64 a0_1, .int .i64 a0_2] 36 (0, 0)) (by (with_reducible repeat (first | refine blk_drewN ?_ _ | refine blk_drew ?_ | refine blk_alloc ?_ _)); exact BK101.out)) (g := gb102) (o := .cells #[.int .i64 a1_0, .int .i64 a1_1, .int .i64 a1_2] 36 (0, 0)) (by (with_reducible repeat (first | refine blk_drewN ?_ _ | refine blk_drew ?_ | refine blk_alloc ?_ _)); exact BK102.out)) (below_size (by repeat (first | (with_reducible first | exact HB.out | apply below_alloc | apply pw_below_drewN | apply below_drew1 | refine below_set ?_ GE101.out | refine below_set ?_ GE102.out) | exact HB.out)))); have n1_ := Aside0.mk (blk_below (g := gb101) (o := .cells #[.int .i64 a0_0, .int .i64 a0_1, .int .i64 a0_2] 36 (0, 0)) (by (with_reducible repeat (first | refine blk_drewN ?_ _ | refine blk_drew ?_ | refine blk_alloc ?_ _)); exact BK101.out) hb); have n2_ := Aside0.mk (blk_below (g := gb102) (o := .cells #[.int .i64 a1_0, .int .i64 a1_1, .int .i64 a1_2] 36 (0, 0)) (by (with_reducible repeat (first | refine blk_drewN ?_ _ | refine blk_drew ?_ | refine blk_alloc ?_ _)); exact BK102.out) hb); have n3_ := Aside0.mk (below_step (by repeat (first | (with_reducible first | exact HB.out | apply below_alloc | apply pw_below_drewN | apply below_drew1 | refine below_set ?_ GE101.out | refine below_set ?_ GE102.out) | exact HB.out)) hb); clear BK101; clear BK102; clear HB; have HO105 := n0_; have BK101 := n1_; have BK102 := n2_; have HB := n3_; clear n0_ n1_ n2_ n3_; clear hb ho13; obtain ⟨Ao14, co14, eo14⟩ := Kd.R_slice HO105.out; subst eo14) | (go_at_call 18; (with_reducible refine (impl_AreLines.calls _ _ y103 true _ ?side1 ?side2 A6.out).mono ?_); (case side1 => repeat (first | exact (Kd.R_reads' HO105.out).2.2 | (with_reducible refine Kd.C_alloc ?_ _) | (with_reducible refine Kd.C_drewN ?_ _) | (with_reducible refine Kd.C_drew ?_))); (case side2 => exact (Kd.R_reads' HO105.out).2.1); rintro e w15 ⟨rfl, hb⟩; have n0_ := Aside0.mk (Kd.R_below (by (with_reducible repeat (first | apply Kd.R_alloc | apply Kd.R_drewN | apply Kd.R_drew)); exact HO105.out) hb); have n1_ := Aside0.mk (blk_below (g := gb101) (o := .cells #[.int .i64 a0_0, .int .i64 a0_1, .int .i64 a0_2] 36 (0, 0)) (by (with_reducible repeat (first | refine blk_drewN ?_ _ | refine blk_drew ?_ | refine blk_alloc ?_ _)); exact BK101.out) hb); have n2_ := Aside0.mk (blk_below (g := gb102) (o := .cells #[.int .i64 a1_0, .int .i64 a1_1, .int .i64 a1_2] 36 (0, 0)) (by (with_reducible repeat (first | refine blk_drewN ?_ _ | refine blk_drew ?_ | refine blk_alloc ?_ _)); exact BK102.out) hb); have n3_ := Aside0.mk (below_step (by repeat (first | (with_reducible first | exact HB.out | apply below_alloc | apply pw_below_drewN | apply below_drew1 | refine below_set ?_ GE101.out | refine below_set ?_ GE102.out) | exact HB.out)) hb); clear HO105; clear BK101; clear BK102; clear HB; have HO105 := n0_; have BK101 := n1_; have BK102 := n2_; have HB := n3_; clear n0_ n1_ n2_ n3_; (try clear hb); (try clear hb2); (try clear hk); (try clear hi); have hcz16_0 : w15.cell? ⟨gb101, 0, none⟩ = some (.int .i64 a0_0) := (blk_cell BK101.out 0).trans rfl; have hcz16_1 : w15.cell? ⟨gb101, 1, none⟩ = some (.int .i64 a0_1) := (blk_cell BK101.out 1).trans rfl; have hcz16_2 : w15.cell? ⟨gb101, 2, none⟩ = some (.int .i64 a0_2) := (blk_cell BK101.out 2).trans rfl; have hfz16_0 := blk_frozen BK101.out 0; have hfz16_1 := blk_frozen BK101.out 1; have hfz16_2 := blk_frozen BK101.out 2; have hcz17_0 : w15.cell? ⟨gb102, 0, none⟩ = some (.int .i64 a1_0) := (blk_cell BK102.out 0).trans rfl; have hcz17_1 : w15.cell? ⟨gb102, 1, none⟩ = some (.int .i64 a1_1) := (blk_cell BK102.out 1).trans rfl; have hcz17_2 : w15.cell? ⟨gb102, 2, none⟩ = some (.int .i64 a1_2) := (blk_cell BK102.out 2).trans rfl; have hfz17_0 := blk_frozen BK102.out 0; have hfz17_1 := blk_frozen BK102.out 1; have hfz17_2 := blk_frozen BK102.out 2) | (go_at_call 45; (with_reducible refine (impl_areParallel.calls a0_0 a0_1 a0_2 a1_0 a1_1 a1_2 t107 _ A8.out).mono ?_); rintro e w18 ⟨rfl, hb⟩; have n0_ := Aside0.mk (Kd.R_below (by (with_reducible repeat (first | apply Kd.R_alloc | apply Kd.R_drewN | apply Kd.R_drew)); exact HO105.out) hb); have n1_ := Aside0.mk (blk_below (g := gb101) (o := .cells #[.int .i64 a0_0, .int .i64 a0_1, .int .i64 a0_2] 36 (0, 0)) (by (with_reducible repeat (first | refine blk_drewN ?_ _ | refine blk_drew ?_ | refine blk_alloc ?_ _)); exact BK101.out) hb); have n2_ := Aside0.mk (blk_below (g := gb102) (o := .cells #[.int .i64 a1_0, .int .i64 a1_1, .int .i64 a1_2] 36 (0, 0)) (by (with_reducible repeat (first | refine blk_drewN ?_ _ | refine blk_drew ?_ | refine blk_alloc ?_ _)); exact BK102.out) hb); have n3_ := Aside0.mk (below_step (by repeat (first | (with_reducible first | exact HB.out | apply below_alloc | apply pw_below_drewN | apply below_drew1 | refine below_set ?_ GE101.out | refine below_set ?_ GE102.out) | exact HB.out)) hb); clear HO105; clear BK101; clear BK102; clear HB; have HO105 := n0_; have BK101 := n1_; have BK102 := n2_; have HB := n3_; clear n0_ n1_ n2_ n3_; (try clear hb); (try clear hb2); (try clear hk); (try clear hi)))
   repeat (go_quiet (first | ((with_reducible refine gate_dst (N := 14) rfl ?_); refine Kd.R_lit k36 _ 36 ?hg (N := 14) ?hd (xs := ([(⟨a0_0, a0_1, a0_2⟩ : S36), (⟨a1_0, a1_1, a1_2⟩ : S36)] : List (S36))) (inner := [.int .i64 a0_0, .int .i64 a0_1, .int .i64 a0_2, .int .i64 a1_0, .int .i64 a1_1, .int .i64 a1_2]) (ok := fun _ => True) (okp := fun _ => True) ?hr ?hp (fun _ hk => hk) trivial (Below.refl _ _) (Nat.le_refl _) (by simp) ?_; (case hd => rfl); (case hg => rfl); (case hr => first | (go_simp; done) | (go_simp; rfl)); (case hp => exact (Reps.c3 (show Kd.M k36 _ _ _ (⟨a0_0, a0_1, a0_2⟩ : S36) [.int .i64 a0_0, .int .i64 a0_1, .int .i64 a0_2] from (k36_mkM _ _ _ (⟨a0_0, a0_1, a0_2⟩ : S36) )) (Reps.c3 (show Kd.M k36 _ _ _ (⟨a1_0, a1_1, a1_2⟩ : S36) [.int .i64 a1_0, .int .i64 a1_1, .int .i64 a1_2] from (k36_mkM _ _ _ (⟨a1_0, a1_1, a1_2⟩ : S36) )) (Reps.none _ _)))); intro v104 w12 ho13 hb hg_ hnew_; clear hg_ hnew_; (first | rw [← Ny103.out] at ho13 | (simp only [Int.reduceToNat] at ho13; rw [← Ny103.out] at ho13)); have n0_ := Aside0.mk (Kd.R_lower (Kd.R_newB (Kd.R_newB ho13 (g := gb101) (o := .cells #[.int .i64 a0_0, .int .i64 a0_1, .int .i64 a0_2] 36 (0, 0)) (by (with_reducible repeat (first | refine blk_drewN ?_ _ | refine blk_drew ?_ | refine blk_alloc ?_ _)); exact BK101.out)) (g := gb102) (o := .cells #[.int .i64 a1_0, .int .i64 a1_1, .int .i64 a1_2] 36 (0, 0)) (by (with_reducible repeat (first | refine blk_drewN ?_ _ | refine blk_drew ?_ | refine blk_alloc ?_ _)); exact BK102.out)) (below_size (by repeat (first | (with_reducible first | exact HB.out | apply below_alloc | apply pw_below_drewN | apply below_drew1 | refine below_set ?_ GE101.out | refine below_set ?_ GE102.out) | exact HB.out)))); have n1_ := Aside0.mk (blk_below (g := gb101) (o := .cells #[.int .i64 a0_0, .int .i64 a0_1, .int .i64 a0_2] 36 (0, 0)) (by (with_reducible repeat (first | refine blk_drewN ?_ _ | refine blk_drew ?_ | refine blk_alloc ?_ _)); exact BK101.out) hb); have n2_ := Aside0.mk (blk_below (g := gb102) (o := .cells #[.int .i64 a1_0, .int .i64 a1_1, .int .i64 a1_2] 36 (0, 0)) (by (with_reducible repeat (first | refine blk_drewN ?_ _ | refine blk_drew ?_ | refine blk_alloc ?_ _)); exact BK102.out) hb); have n3_ := Aside0.mk (below_step (by repeat (first | (with_reducible first | exact HB.out | apply below_alloc | apply pw_below_drewN | apply below_drew1 | refine below_set ?_ GE101.out | refine below_set ?_ GE102.out) | exact HB.out)) hb); clear BK101; clear BK102; clear HB; have HO105 := n0_; have BK101 := n1_; have BK102 := n2_; have HB := n3_; clear n0_ n1_ n2_ n3_; clear hb ho13; obtain ⟨Ao14, co14, eo14⟩ := Kd.R_slice HO105.out; subst eo14) | (go_at_call 18; (with_reducible refine (impl_AreLines.calls _ _ y103 true _ ?side1 ?side2 A6.out).mono ?_); (case side1 => repeat (first | exact (Kd.R_reads' HO105.out).2.2 | (with_reducible refine Kd.C_alloc ?_ _) | (with_reducible refine Kd.C_drewN ?_ _) | (with_reducible refine Kd.C_drew ?_))); (case side2 => exact (Kd.R_reads' HO105.out).2.1); rintro e w15 ⟨rfl, hb⟩; have n0_ := Aside0.mk (Kd.R_below (by (with_reducible repeat (first | apply Kd.R_alloc | apply Kd.R_drewN | apply Kd.R_drew)); exact HO105.out) hb); have n1_ := Aside0.mk (blk_below (g := gb101) (o := .cells #[.int .i64 a0_0, .int .i64 a0_1, .int .i64 a0_2] 36 (0, 0)) (by (with_reducible repeat (first | refine blk_drewN ?_ _ | refine blk_drew ?_ | refine blk_alloc ?_ _)); exact BK101.out) hb); have n2_ := Aside0.mk (blk_below (g := gb102) (o := .cells #[.int .i64 a1_0, .int .i64 a1_1, .int .i64 a1_2] 36 (0, 0)) (by (with_reducible repeat (first | refine blk_drewN ?_ _ | refine blk_drew ?_ | refine blk_alloc ?_ _)); exact BK102.out) hb); have n3_ := Aside0.mk (below_step (by repeat (first | (with_reducible first | exact HB.out | apply below_alloc | apply pw_below_drewN | apply below_drew1 | refine below_set ?_ GE101.out | refine below_set ?_ GE102.out) | exact HB.out)) hb); clear HO105; clear BK101; clear BK102; clear HB; have HO105 := n0_; have BK101 := n1_; have BK102 := n2_; have HB := n3_; clear n0_ n1_ n2_ n3_; (try clear hb); (try clear hb2); (try clear hk); (try clear hi); have hcz16_0 : w15.cell? ⟨gb101, 0, none⟩ = some (.int .i64 a0_0) := (blk_cell BK101.out 0).trans rfl; have hcz16_1 : w15.cell? ⟨gb101, 1, none⟩ = some (.int .i64 a0_1) := (blk_cell BK101.out 1).trans rfl; have hcz16_2 : w15.cell? ⟨gb101, 2, none⟩ = some (.int .i64 a0_2) := (blk_cell BK101.out 2).trans rfl; have hfz16_0 := blk_frozen BK101.out 0; have hfz16_1 := blk_frozen BK101.out 1; have hfz16_2 := blk_frozen BK101.out 2; have hcz17_0 : w15.cell? ⟨gb102, 0, none⟩ = some (.int .i64 a1_0) := (blk_cell BK102.out 0).trans rfl; have hcz17_1 : w15.cell? ⟨gb102, 1, none⟩ = some (.int .i64 a1_1) := (blk_cell BK102.out 1).trans rfl; have hcz17_2 : w15.cell? ⟨gb102, 2, none⟩ = some (.int .i64 a1_2) := (blk_cell BK102.out 2).trans rfl; have hfz17_0 := blk_frozen BK102.out 0; have hfz17_1 := blk_frozen BK102.out 1; have hfz17_2 := blk_frozen BK102.out 2) | (go_at_call 45; (with_reducible refine (impl_areParallel.calls a0_0 a0_1 a0_2 a1_0 a1_1 a1_2 t107 _ A8.out).mono ?_); rintro e w18 ⟨rfl, hb⟩; have n0_ := Aside0.mk (Kd.R_below (by (with_reducible repeat (first | apply Kd.R_alloc | apply Kd.R_drewN | apply Kd.R_drew)); exact HO105.out) hb); have n1_ := Aside0.mk (blk_below (g := gb101) (o := .cells #[.int .i64 a0_0, .int .i64 a0_1, .int .i64 a0_2] 36 (0, 0)) (by (with_reducible repeat (first | refine blk_drewN ?_ _ | refine blk_drew ?_ | refine blk_alloc ?_ _)); exact BK101.out) hb); have n2_ := Aside0.mk (blk_below (g := gb102) (o := .cells #[.int .i64 a1_0, .int .i64 a1_1, .int .i64 a1_2] 36 (0, 0)) (by (with_reducible repeat (first | refine blk_drewN ?_ _ | refine blk_drew ?_ | refine blk_alloc ?_ _)); exact BK102.out) hb); have n3_ := Aside0.mk (below_step (by repeat (first | (with_reducible first | exact HB.out | apply below_alloc | apply pw_below_drewN | apply below_drew1 | refine below_set ?_ GE101.out | refine below_set ?_ GE102.out) | exact HB.out)) hb); clear HO105; clear BK101; clear BK102; clear HB; have HO105 := n0_; have BK101 := n1_; have BK102 := n2_; have HB := n3_; clear n0_ n1_ n2_ n3_; (try clear hb); (try clear hb2); (try clear hk); (try clear hi))); try go_wp2_with (first | ((with_reducible refine gate_dst (N := 14) rfl ?_); refine Kd.R_lit k36 _ 36 ?hg (N := 14) ?hd (xs := ([(⟨a0_0, a0_1, a0_2⟩ : S36), (⟨a1_0, a1_1, a1_2⟩ : S36)] : List (S36))) (inner := [.int .i64 a0_0, .int .i64 a0_1, .int .i64 a0_2, .int .i64 a1_0, .int .i64 a1_1, .int .i64 a1_2]) (ok := fun _ => True) (okp := fun _ => True) ?hr ?hp (fun _ hk => hk) trivial (Below.refl _ _) (Nat.le_refl _) (by simp) ?_; (case hd => rfl); (case hg => rfl); (case hr => first | (go_simp; done) | (go_simp; rfl)); (case hp => exact (Reps.c3 (show Kd.M k36 _ _ _ (⟨a0_0, a0_1, a0_2⟩ : S36) [.int .i64 a0_0, .int .i64 a0_1, .int .i64 a0_2] from (k36_mkM _ _ _ (⟨a0_0, a0_1, a0_2⟩ : S36) )) (Reps.c3 (show Kd.M k36 _ _ _ (⟨a1_0, a1_1, a1_2⟩ : S36) [.int .i64 a1_0, .int .i64 a1_1, .int .i64 a1_2] from (k36_mkM _ _ _ (⟨a1_0, a1_1, a1_2⟩ : S36) )) (Reps.none _ _)))); intro v104 w12 ho13 hb hg_ hnew_; clear hg_ hnew_; (first | rw [← Ny103.out] at ho13 | (simp only [Int.reduceToNat] at ho13; rw [← Ny103.out] at ho13)); have n0_ := Aside0.mk (Kd.R_lower (Kd.R_newB (Kd.R_newB ho13 (g := gb101) (o := .cells #[.int .i64 a0_0, .int .i64 a0_1, .int .i64 a0_2] 36 (0, 0)) (by (with_reducible repeat (first | refine blk_drewN ?_ _ | refine blk_drew ?_ | refine blk_alloc ?_ _)); exact BK101.out)) (g := gb102) (o := .cells #[.int .i64 a1_0, .int .i64 a1_1, .int .i64 a1_2] 36 (0, 0)) (by (with_reducible repeat (first | refine blk_drewN ?_ _ | refine blk_drew ?_ | refine blk_alloc ?_ _)); exact BK102.out)) (below_size (by repeat (first | (with_reducible first | exact HB.out | apply below_alloc | apply pw_below_drewN | apply below_drew1 | refine below_set ?_ GE101.out | refine below_set ?_ GE102.out) | exact HB.out)))); have n1_ := Aside0.mk (blk_below (g := gb101) (o := .cells #[.int .i64 a0_0, .int .i64 a0_1, .int .i64 a0_2] 36 (0, 0)) (by (with_reducible repeat (first | refine blk_drewN ?_ _ | refine blk_drew ?_ | refine blk_alloc ?_ _)); exact BK101.out) hb); have n2_ := Aside0.mk (blk_below (g := gb102) (o := .cells #[.int .i64 a1_0, .int .i64 a1_1, .int .i64 a1_2] 36 (0, 0)) (by (with_reducible repeat (first | refine blk_drewN ?_ _ | refine blk_drew ?_ | refine blk_alloc ?_ _)); exact BK102.out) hb); have n3_ := Aside0.mk (below_step (by repeat (first | (with_reducible first | exact HB.out | apply below_alloc | apply pw_below_drewN | apply below_drew1 | refine below_set ?_ GE101.out | refine below_set ?_ GE102.out) | exact HB.out)) hb); clear BK101; clear BK102; clear HB; have HO105 := n0_; have BK101 := n1_; have BK102 := n2_; have HB := n3_; clear n0_ n1_ n2_ n3_; clear hb ho13; obtain ⟨Ao14, co14, eo14⟩ := Kd.R_slice HO105.out; subst eo14) | (go_at_call 18; (with_reducible refine (impl_AreLines.calls _ _ y103 true _ ?side1 ?side2 A6.out).mono ?_); (case side1 => repeat (first | exact (Kd.R_reads' HO105.out).2.2 | (with_reducible refine Kd.C_alloc ?_ _) | (with_reducible refine Kd.C_drewN ?_ _) | (with_reducible refine Kd.C_drew ?_))); (case side2 => exact (Kd.R_reads' HO105.out).2.1); rintro e w15 ⟨rfl, hb⟩; have n0_ := Aside0.mk (Kd.R_below (by (with_reducible repeat (first | apply Kd.R_alloc | apply Kd.R_drewN | apply Kd.R_drew)); exact HO105.out) hb); have n1_ := Aside0.mk (blk_below (g := gb101) (o := .cells #[.int .i64 a0_0, .int .i64 a0_1, .int .i64 a0_2] 36 (0, 0)) (by (with_reducible repeat (first | refine blk_drewN ?_ _ | refine blk_drew ?_ | refine blk_alloc ?_ _)); exact BK101.out) hb); have n2_ := Aside0.mk (blk_below (g := gb102) (o := .cells #[.int .i64 a1_0, .int .i64 a1_1, .int .i64 a1_2] 36 (0, 0)) (by (with_reducible repeat (first | refine blk_drewN ?_ _ | refine blk_drew ?_ | refine blk_alloc ?_ _)); exact BK102.out) hb); have n3_ := Aside0.mk (below_step (by repeat (first | (with_reducible first | exact HB.out | apply below_alloc | apply pw_below_drewN | apply below_drew1 | refine below_set ?_ GE101.out | refine below_set ?_ GE102.out) | exact HB.out)) hb); clear HO105; clear BK101; clear BK102; clear HB; have HO105 := n0_; have BK101 := n1_; have BK102 := n2_; have HB := n3_; clear n0_ n1_ n2_ n3_; (try clear hb); (try clear hb2); (try clear hk); (try clear hi); have hcz16_0 : w15.cell? ⟨gb101, 0, none⟩ = some (.int .i64 a0_0) := (blk_cell BK101.out 0).trans rfl; have hcz16_1 : w15.cell? ⟨gb101, 1, none⟩ = some (.int .i64 a0_1) := (blk_cell BK101.out 1).trans rfl; have hcz16_2 : w15.cell? ⟨gb101, 2, none⟩ = some (.int .i64 a0_2) := (blk_cell BK101.out 2).trans rfl; have hfz16_0 := blk_frozen BK101.out 0; have hfz16_1 := blk_frozen BK101.out 1; have hfz16_2 := blk_frozen BK101.out 2; have hcz17_0 : w15.cell? ⟨gb102, 0, none⟩ = some (.int .i64 a1_0) := (blk_cell BK102.out 0).trans rfl; have hcz17_1 : w15.cell? ⟨gb102, 1, none⟩ = some (.int .i64 a1_1) := (blk_cell BK102.out 1).trans rfl; have hcz17_2 : w15.cell? ⟨gb102, 2, none⟩ = some (.int .i64 a1_2) := (blk_cell BK102.out 2).trans rfl; have hfz17_0 := blk_frozen BK102.out 0; have hfz17_1 := blk_frozen BK102.out 1; have hfz17_2 := blk_frozen BK102.out 2) | (go_at_call 45; (with_reducible refine (impl_areParallel.calls a0_0 a0_1 a0_2 a1_0 a1_1 a1_2 t107 _ A8.out).mono ?_); rintro e w18 ⟨rfl, hb⟩; have n0_ := Aside0.mk (Kd.R_below (by (with_reducible repeat (first | apply Kd.R_alloc | apply Kd.R_drewN | apply Kd.R_drew)); exact HO105.out) hb); have n1_ := Aside0.mk (blk_below (g := gb101) (o := .cells #[.int .i64 a0_0, .int .i64 a0_1, .int .i64 a0_2] 36 (0, 0)) (by (with_reducible repeat (first | refine blk_drewN ?_ _ | refine blk_drew ?_ | refine blk_alloc ?_ _)); exact BK101.out) hb); have n2_ := Aside0.mk (blk_below (g := gb102) (o := .cells #[.int .i64 a1_0, .int .i64 a1_1, .int .i64 a1_2] 36 (0, 0)) (by (with_reducible repeat (first | refine blk_drewN ?_ _ | refine blk_drew ?_ | refine blk_alloc ?_ _)); exact BK102.out) hb); have n3_ := Aside0.mk (below_step (by repeat (first | (with_reducible first | exact HB.out | apply below_alloc | apply pw_below_drewN | apply below_drew1 | refine below_set ?_ GE101.out | refine below_set ?_ GE102.out) | exact HB.out)) hb); clear HO105; clear BK101; clear BK102; clear HB; have HO105 := n0_; have BK101 := n1_; have BK102 := n2_; have HB := n3_; clear n0_ n1_ n2_ n3_; (try clear hb); (try clear hb2); (try clear hk); (try clear hi))))
   go_meet
   case rel => exact ⟨_, (t107), (by first | rfl | (simp; done) | (simp [*]; done)), H', ⟨by first | omega | exact Nat.le_refl _⟩, ⟨by (with_reducible repeat (first | refine blk_drewN ?_ _ | refine blk_drew ?_ | refine blk_alloc ?_ _)); exact BK101.out⟩, ⟨by (with_reducible repeat (first | refine blk_drewN ?_ _ | refine blk_drew ?_ | refine blk_alloc ?_ _)); exact BK102.out⟩, ⟨by repeat (first | (with_reducible first | exact HB.out | apply below_alloc | apply pw_below_drewN | apply below_drew1 | refine below_set ?_ GE101.out | refine below_set ?_ GE102.out) | exact HB.out)⟩⟩
  ·replace c7 := Bool.eq_false_iff.mpr c7
   subst c7
   have H1 : (impl_MeetLines.j0 k true a0_0 a0_1 a0_2 a1_0 a1_1 a1_2) = some (r1, r2, r3, r4) := by rw [if_neg (show ¬ (false = true) by decide)] at H; exact H
   clear H
   have H := H1
   clear H1
   have H' := Aside0.mk H
   clear H
   have hnb19 := NB101_102.out
   have hnc19 := NB102_101.out
   have hcz20_0 : w5.cell? ⟨gb101, 0, none⟩ = some (.int .i64 a0_0) := (blk_cell BK101.out 0).trans rfl
   have hcz20_1 : w5.cell? ⟨gb101, 1, none⟩ = some (.int .i64 a0_1) := (blk_cell BK101.out 1).trans rfl
   have hcz20_2 : w5.cell? ⟨gb101, 2, none⟩ = some (.int .i64 a0_2) := (blk_cell BK101.out 2).trans rfl
   have hfz20_0 := blk_frozen BK101.out 0
   have hfz20_1 := blk_frozen BK101.out 1
   have hfz20_2 := blk_frozen BK101.out 2
   have hcz21_0 : w5.cell? ⟨gb102, 0, none⟩ = some (.int .i64 a1_0) := (blk_cell BK102.out 0).trans rfl
   have hcz21_1 : w5.cell? ⟨gb102, 1, none⟩ = some (.int .i64 a1_1) := (blk_cell BK102.out 1).trans rfl
   have hcz21_2 : w5.cell? ⟨gb102, 2, none⟩ = some (.int .i64 a1_2) := (blk_cell BK102.out 2).trans rfl
   have hfz21_0 := blk_frozen BK102.out 0
   have hfz21_1 := blk_frozen BK102.out 1
   have hfz21_2 := blk_frozen BK102.out 2
   go_wp2_with (first | ((with_reducible refine gate_dst (N := 14) rfl ?_); refine Kd.R_lit k36 _ 36 ?hg (N := 14) ?hd (xs := ([(⟨a0_0, a0_1, a0_2⟩ : S36), (⟨a1_0, a1_1, a1_2⟩ : S36)] : List (S36))) (inner := [.int .i64 a0_0, .int .i64 a0_1, .int .i64 a0_2, .int .i64 a1_0, .int .i64 a1_1, .int .i64 a1_2]) (ok := fun _ => True) (okp := fun _ => True) ?hr ?hp (fun _ hk => hk) trivial (Below.refl _ _) (Nat.le_refl _) (by simp) ?_; (case hd => rfl); (case hg => rfl); (case hr => first | (go_simp; done) | (go_simp; rfl)); (case hp => exact (Reps.c3 (show Kd.M k36 _ _ _ (⟨a0_0, a0_1, a0_2⟩ : S36) [.int .i64 a0_0, .int .i64 a0_1, .int .i64 a0_2] from (k36_mkM _ _ _ (⟨a0_0, a0_1, a0_2⟩ : S36) )) (Reps.c3 (show Kd.M k36 _ _ _ (⟨a1_0, a1_1, a1_2⟩ : S36) [.int .i64 a1_0, .int .i64 a1_1, .int .i64 a1_2] from (k36_mkM _ _ _ (⟨a1_0, a1_1, a1_2⟩ : S36) )) (Reps.none _ _)))); intro v104 w22 ho23 hb hg_ hnew_; clear hg_ hnew_; (first | rw [← Ny103.out] at ho23 | (simp only [Int.reduceToNat] at ho23; rw [← Ny103.out] at ho23)); have n0_ := Aside0.mk (Kd.R_lower (Kd.R_newB (Kd.R_newB ho23 (g := gb101) (o := .cells #[.int .i64 a0_0, .int .i64 a0_1, .int .i64 a0_2] 36 (0, 0)) (by (with_reducible repeat (first | refine blk_drewN ?_ _ | refine blk_drew ?_ | refine blk_alloc ?_ _)); exact BK101.out)) (g := gb102) (o := .cells #[.int .i64 a1_0, .int .i64 a1_1, .int .i64 a1_2] 36 (0, 0)) (by (with_reducible repeat (first | refine blk_drewN ?_ _ | refine blk_drew ?_ | refine blk_alloc ?_ _)); exact BK102.out)) (below_size (by repeat (first | (with_reducible first | exact HB.out | apply below_alloc | apply pw_below_drewN | apply below_drew1 | refine below_set ?_ GE101.out | refine below_set ?_ GE102.out) | exact HB.out)))); have n1_ := Aside0.mk (blk_below (g := gb101) (o := .cells #[.int .i64 a0_0, .int .i64 a0_1, .int .i64 a0_2] 36 (0, 0)) (by (with_reducible repeat (first | refine blk_drewN ?_ _ | refine blk_drew ?_ | refine blk_alloc ?_ _)); exact BK101.out) hb); have n2_ := Aside0.mk (blk_below (g := gb102) (o := .cells #[.int .i64 a1_0, .int .i64 a1_1, .int .i64 a1_2] 36 (0, 0)) (by (with_reducible repeat (first | refine blk_drewN ?_ _ | refine blk_drew ?_ | refine blk_alloc ?_ _)); exact BK102.out) hb); have n3_ := Aside0.mk (below_step (by repeat (first | (with_reducible first | exact HB.out | apply below_alloc | apply pw_below_drewN | apply below_drew1 | refine below_set ?_ GE101.out | refine below_set ?_ GE102.out) | exact HB.out)) hb); clear BK101; clear BK102; clear HB; have HO105 := n0_; have BK101 := n1_; have BK102 := n2_; have HB := n3_; clear n0_ n1_ n2_ n3_; clear hb ho23; obtain ⟨Ao24, co24, eo24⟩ := Kd.R_slice HO105.out; subst eo24) | (go_at_call 18; (with_reducible refine (impl_AreLines.calls _ _ y103 false _ ?side1 ?side2 A6.out).mono ?_); (case side1 => repeat (first | exact (Kd.R_reads' HO105.out).2.2 | (with_reducible refine Kd.C_alloc ?_ _) | (with_reducible refine Kd.C_drewN ?_ _) | (with_reducible refine Kd.C_drew ?_))); (case side2 => exact (Kd.R_reads' HO105.out).2.1); rintro e w25 ⟨rfl, hb⟩; have n0_ := Aside0.mk (Kd.R_below (by (with_reducible repeat (first | apply Kd.R_alloc | apply Kd.R_drewN | apply Kd.R_drew)); exact HO105.out) hb); have n1_ := Aside0.mk (blk_below (g := gb101) (o := .cells #[.int .i64 a0_0, .int .i64 a0_1, .int .i64 a0_2] 36 (0, 0)) (by (with_reducible repeat (first | refine blk_drewN ?_ _ | refine blk_drew ?_ | refine blk_alloc ?_ _)); exact BK101.out) hb); have n2_ := Aside0.mk (blk_below (g := gb102) (o := .cells #[.int .i64 a1_0, .int .i64 a1_1, .int .i64 a1_2] 36 (0, 0)) (by (with_reducible repeat (first | refine blk_drewN ?_ _ | refine blk_drew ?_ | refine blk_alloc ?_ _)); exact BK102.out) hb); have n3_ := Aside0.mk (below_step (by repeat (first | (with_reducible first | exact HB.out | apply below_alloc | apply pw_below_drewN | apply below_drew1 | refine below_set ?_ GE101.out | refine below_set ?_ GE102.out) | exact HB.out)) hb); clear HO105; clear BK101; clear BK102; clear HB; have HO105 := n0_; have BK101 := n1_; have BK102 := n2_; have HB := n3_; clear n0_ n1_ n2_ n3_; (try clear hb); (try clear hb2); (try clear hk); (try clear hi)))
   repeat (go_quiet (first | ((with_reducible refine gate_dst (N := 14) rfl ?_); refine Kd.R_lit k36 _ 36 ?hg (N := 14) ?hd (xs := ([(⟨a0_0, a0_1, a0_2⟩ : S36), (⟨a1_0, a1_1, a1_2⟩ : S36)] : List (S36))) (inner := [.int .i64 a0_0, .int .i64 a0_1, .int .i64 a0_2, .int .i64 a1_0, .int .i64 a1_1, .int .i64 a1_2]) (ok := fun _ => True) (okp := fun _ => True) ?hr ?hp (fun _ hk => hk) trivial (Below.refl _ _) (Nat.le_refl _) (by simp) ?_; (case hd => rfl); (case hg => rfl); (case hr => first | (go_simp; done) | (go_simp; rfl)); (case hp => exact (Reps.c3 (show Kd.M k36 _ _ _ (⟨a0_0, a0_1, a0_2⟩ : S36) [.int .i64 a0_0, .int .i64 a0_1, .int .i64 a0_2] from (k36_mkM _ _ _ (⟨a0_0, a0_1, a0_2⟩ : S36) )) (Reps.c3 (show Kd.M k36 _ _ _ (⟨a1_0, a1_1, a1_2⟩ : S36) [.int .i64 a1_0, .int .i64 a1_1, .int .i64 a1_2] from (k36_mkM _ _ _ (⟨a1_0, a1_1, a1_2⟩ : S36) )) (Reps.none _ _)))); intro v104 w22 ho23 hb hg_ hnew_; clear hg_ hnew_; (first | rw [← Ny103.out] at ho23 | (simp only [Int.reduceToNat] at ho23; rw [← Ny103.out] at ho23)); have n0_ := Aside0.mk (Kd.R_lower (Kd.R_newB (Kd.R_newB ho23 (g := gb101) (o := .cells #[.int .i64 a0_0, .int .i64 a0_1, .int .i64 a0_2] 36 (0, 0)) (by (with_reducible repeat (first | refine blk_drewN ?_ _ | refine blk_drew ?_ | refine blk_alloc ?_ _)); exact BK101.out)) (g := gb102) (o := .cells #[.int .i64 a1_0, .int .i64 a1_1, .int .i64 a1_2] 36 (0, 0)) (by (with_reducible repeat (first | refine blk_drewN ?_ _ | refine blk_drew ?_ | refine blk_alloc ?_ _)); exact BK102.out)) (below_size (by repeat (first | (with_reducible first | exact HB.out | apply below_alloc | apply pw_below_drewN | apply below_drew1 | refine below_set ?_ GE101.out | refine below_set ?_ GE102.out) | exact HB.out)))); have n1_ := Aside0.mk (blk_below (g := gb101) (o := .cells #[.int .i64 a0_0, .int .i64 a0_1, .int .i64 a0_2] 36 (0, 0)) (by (with_reducible repeat (first | refine blk_drewN ?_ _ | refine blk_drew ?_ | refine blk_alloc ?_ _)); exact BK101.out) hb); have n2_ := Aside0.mk (blk_below (g := gb102) (o := .cells #[.int .i64 a1_0, .int .i64 a1_1, .int .i64 a1_2] 36 (0, 0)) (by (with_reducible repeat (first | refine blk_drewN ?_ _ | refine blk_drew ?_ | refine blk_alloc ?_ _)); exact BK102.out) hb); have n3_ := Aside0.mk (below_step (by repeat (first | (with_reducible first | exact HB.out | apply below_alloc | apply pw_below_drewN | apply below_drew1 | refine below_set ?_ GE101.out | refine below_set ?_ GE102.out) | exact HB.out)) hb); clear BK101; clear BK102; clear HB; have HO105 := n0_; have BK101 := n1_; have BK102 := n2_; have HB := n3_; clear n0_ n1_ n2_ n3_; clear hb ho23; obtain ⟨Ao24, co24, eo24⟩ := Kd.R_slice HO105.out; subst eo24) | (go_at_call 18; (with_reducible refine (impl_AreLines.calls _ _ y103 false _ ?side1 ?side2 A6.out).mono ?_); (case side1 => repeat (first | exact (Kd.R_reads' HO105.out).2.2 | (with_reducible refine Kd.C_alloc ?_ _) | (with_reducible refine Kd.C_drewN ?_ _) | (with_reducible refine Kd.C_drew ?_))); (case side2 => exact (Kd.R_reads' HO105.out).2.1); rintro e w25 ⟨rfl, hb⟩; have n0_ := Aside0.mk (Kd.R_below (by (with_reducible repeat (first | apply Kd.R_alloc | apply Kd.R_drewN | apply Kd.R_drew)); exact HO105.out) hb); have n1_ := Aside0.mk (blk_below (g := gb101) (o := .cells #[.int .i64 a0_0, .int .i64 a0_1, .int .i64 a0_2] 36 (0, 0)) (by (with_reducible repeat (first | refine blk_drewN ?_ _ | refine blk_drew ?_ | refine blk_alloc ?_ _)); exact BK101.out) hb); have n2_ := Aside0.mk (blk_below (g := gb102) (o := .cells #[.int .i64 a1_0, .int .i64 a1_1, .int .i64 a1_2] 36 (0, 0)) (by (with_reducible repeat (first | refine blk_drewN ?_ _ | refine blk_drew ?_ | refine blk_alloc ?_ _)); exact BK102.out) hb); have n3_ := Aside0.mk (below_step (by repeat (first | (with_reducible first | exact HB.out | apply below_alloc | apply pw_below_drewN | apply below_drew1 | refine below_set ?_ GE101.out | refine below_set ?_ GE102.out) | exact HB.out)) hb); clear HO105; clear BK101; clear BK102; clear HB; have HO105 := n0_; have BK101 := n1_; have BK102 := n2_; have HB := n3_; clear n0_ n1_ n2_ n3_; (try clear hb); (try clear hb2); (try clear hk); (try clear hi))); try go_wp2_with (first | ((with_reducible refine gate_dst (N := 14) rfl ?_); refine Kd.R_lit k36 _ 36 ?hg (N := 14) ?hd (xs := ([(⟨a0_0, a0_1, a0_2⟩ : S36), (⟨a1_0, a1_1, a1_2⟩ : S36)] : List (S36))) (inner := [.int .i64 a0_0, .int .i64 a0_1, .int .i64 a0_2, .int .i64 a1_0, .int .i64 a1_1, .int .i64 a1_2]) (ok := fun _ => True) (okp := fun _ => True) ?hr ?hp (fun _ hk => hk) trivial (Below.refl _ _) (Nat.le_refl _) (by simp) ?_; (case hd => rfl); (case hg => rfl); (case hr => first | (go_simp; done) | (go_simp; rfl)); (case hp => exact (Reps.c3 (show Kd.M k36 _ _ _ (⟨a0_0, a0_1, a0_2⟩ : S36) [.int .i64 a0_0, .int .i64 a0_1, .int .i64 a0_2] from (k36_mkM _ _ _ (⟨a0_0, a0_1, a0_2⟩ : S36) )) (Reps.c3 (show Kd.M k36 _ _ _ (⟨a1_0, a1_1, a1_2⟩ : S36) [.int .i64 a1_0, .int .i64 a1_1, .int .i64 a1_2] from (k36_mkM _ _ _ (⟨a1_0, a1_1, a1_2⟩ : S36) )) (Reps.none _ _)))); intro v104 w22 ho23 hb hg_ hnew_; clear hg_ hnew_; (first | rw [← Ny103.out] at ho23 | (simp only [Int.reduceToNat] at ho23; rw [← Ny103.out] at ho23)); have n0_ := Aside0.mk (Kd.R_lower (Kd.R_newB (Kd.R_newB ho23 (g := gb101) (o := .cells #[.int .i64 a0_0, .int .i64 a0_1, .int .i64 a0_2] 36 (0, 0)) (by (with_reducible repeat (first | refine blk_drewN ?_ _ | refine blk_drew ?_ | refine blk_alloc ?_ _)); exact BK101.out)) (g := gb102) (o := .cells #[.int .i64 a1_0, .int .i64 a1_1, .int .i64 a1_2] 36 (0, 0)) (by (with_reducible repeat (first | refine blk_drewN ?_ _ | refine blk_drew ?_ | refine blk_alloc ?_ _)); exact BK102.out)) (below_size (by repeat (first | (with_reducible first | exact HB.out | apply below_alloc | apply pw_below_drewN | apply below_drew1 | refine below_set ?_ GE101.out | refine below_set ?_ GE102.out) | exact HB.out)))); have n1_ := Aside0.mk (blk_below (g := gb101) (o := .cells #[.int .i64 a0_0, .int .i64 a0_1, .int .i64 a0_2] 36 (0, 0)) (by (with_reducible repeat (first | refine blk_drewN ?_ _ | refine blk_drew ?_ | refine blk_alloc ?_ _)); exact BK101.out) hb); have n2_ := Aside0.mk (blk_below (g := gb102) (o := .cells #[.int .i64 a1_0, .int .i64 a1_1, .int .i64 a1_2] 36 (0, 0)) (by (with_reducible repeat (first | refine blk_drewN ?_ _ | refine blk_drew ?_ | refine blk_alloc ?_ _)); exact BK102.out) hb); have n3_ := Aside0.mk (below_step (by repeat (first | (with_reducible first | exact HB.out | apply below_alloc | apply pw_below_drewN | apply below_drew1 | refine below_set ?_ GE101.out | refine below_set ?_ GE102.out) | exact HB.out)) hb); clear BK101; clear BK102; clear HB; have HO105 := n0_; have BK101 := n1_; have BK102 := n2_; have HB := n3_; clear n0_ n1_ n2_ n3_; clear hb ho23; obtain ⟨Ao24, co24, eo24⟩ := Kd.R_slice HO105.out; subst eo24) | (go_at_call 18; (with_reducible refine (impl_AreLines.calls _ _ y103 false _ ?side1 ?side2 A6.out).mono ?_); (case side1 => repeat (first | exact (Kd.R_reads' HO105.out).2.2 | (with_reducible refine Kd.C_alloc ?_ _) | (with_reducible refine Kd.C_drewN ?_ _) | (with_reducible refine Kd.C_drew ?_))); (case side2 => exact (Kd.R_reads' HO105.out).2.1); rintro e w25 ⟨rfl, hb⟩; have n0_ := Aside0.mk (Kd.R_below (by (with_reducible repeat (first | apply Kd.R_alloc | apply Kd.R_drewN | apply Kd.R_drew)); exact HO105.out) hb); have n1_ := Aside0.mk (blk_below (g := gb101) (o := .cells #[.int .i64 a0_0, .int .i64 a0_1, .int .i64 a0_2] 36 (0, 0)) (by (with_reducible repeat (first | refine blk_drewN ?_ _ | refine blk_drew ?_ | refine blk_alloc ?_ _)); exact BK101.out) hb); have n2_ := Aside0.mk (blk_below (g := gb102) (o := .cells #[.int .i64 a1_0, .int .i64 a1_1, .int .i64 a1_2] 36 (0, 0)) (by (with_reducible repeat (first | refine blk_drewN ?_ _ | refine blk_drew ?_ | refine blk_alloc ?_ _)); exact BK102.out) hb); have n3_ := Aside0.mk (below_step (by repeat (first | (with_reducible first | exact HB.out | apply below_alloc | apply pw_below_drewN | apply below_drew1 | refine below_set ?_ GE101.out | refine below_set ?_ GE102.out) | exact HB.out)) hb); clear HO105; clear BK101; clear BK102; clear HB; have HO105 := n0_; have BK101 := n1_; have BK102 := n2_; have HB := n3_; clear n0_ n1_ n2_ n3_; (try clear hb); (try clear hb2); (try clear hk); (try clear hi))))
   go_meet
   case rel => exact ⟨_, (true), (by first | rfl | (simp; done) | (simp [*]; done)), H', ⟨by first | omega | exact Nat.le_refl _⟩, ⟨by (with_reducible repeat (first | refine blk_drewN ?_ _ | refine blk_drew ?_ | refine blk_alloc ?_ _)); exact BK101.out⟩, ⟨by (with_reducible repeat (first | refine blk_drewN ?_ _ | refine blk_drew ?_ | refine blk_alloc ?_ _)); exact BK102.out⟩, ⟨by repeat (first | (with_reducible first | exact HB.out | apply below_alloc | apply pw_below_drewN | apply below_drew1 | refine below_set ?_ GE101.out | refine below_set ?_ GE102.out) | exact HB.out)⟩⟩
 case rest =>
  clear HC3
  try clear c3
  try clear c7
  try clear hcz10_0
  try clear hcz10_1
  try clear hcz10_2
  try clear hcz11_0
  try clear hcz11_1
  try clear hcz11_2
  try clear hcz16_0
  try clear hcz16_1
  try clear hcz16_2
  try clear hcz17_0
  try clear hcz17_1
  try clear hcz17_2
  try clear hcz20_0
  try clear hcz20_1
  try clear hcz20_2
  try clear hcz21_0
  try clear hcz21_1
  try clear hcz21_2
  try clear hfz10_0
  try clear hfz10_1
  try clear hfz10_2
  try clear hfz11_0
  try clear hfz11_1
  try clear hfz11_2
  try clear hfz16_0
  try clear hfz16_1
  try clear hfz16_2
  try clear hfz17_0
  try clear hfz17_1
  try clear hfz17_2
  try clear hfz20_0
  try clear hfz20_1
  try clear hfz20_2
  try clear hfz21_0
  try clear hfz21_1
  try clear hfz21_2
  obtain ⟨kq, x21_2, rfl, HA, HJ2, BK101, BK102, HB⟩ := hcut
  cases kq with
  | zero => exact absurd HA.out (by simp [impl_MeetLines.j0])
  | succ kj2 =>
   have H := HA.out
   clear HA
   simp only [impl_MeetLines.j0] at H
   by_cases c26 : x21_2 = true
   ·subst c26
    have H1 : (some (0, 0, 0, false)) = some (r1, r2, r3, r4) := by rw [if_pos rfl] at H; exact H
    clear H
    have H := H1
    clear H1
    simp only [Option.some.injEq, Prod.mk.injEq] at H
    obtain ⟨rfl, rfl, rfl, rfl⟩ := H
    go_wp2
    repeat (go_quiet (fail); try go_wp2)
    refine bodyPost_ret (results_list (rs := [.tmp 4, .tmp 5, .tmp 6, .tmp 7]) rfl (by simp) (.tmp (.tmp (.tmp (.tmp .nil))))) rfl ?_
    exact ⟨by first | rfl | (simp [errW_none, errW_some] <;> rfl) | (simp [*, errW_none, errW_some] <;> rfl), by repeat (first | (with_reducible first | exact HB.out | apply below_alloc | apply pw_below_drewN | apply below_drew1 | refine below_set ?_ GE101.out | refine below_set ?_ GE102.out) | exact HB.out)⟩
   ·replace c26 := Bool.eq_false_iff.mpr c26
    subst c26
    have H1 : ((impl_divisor.f kj2 (([wrap64 ((wrap64 (a0_2 * a1_1)) - (wrap64 (a1_2 * a0_1))), wrap64 ((wrap64 (a0_0 * a1_2)) - (wrap64 (a1_0 * a0_2))), wrap64 ((wrap64 (a0_0 * a1_1)) - (wrap64 (a0_1 * a1_0)))] : List Int))).bind fun t111 => ((impl_signOf.f (wrap64 ((wrap64 (a0_0 * a1_1)) - (wrap64 (a0_1 * a1_0))))).bind fun t112 => (if (wrap64 (t111 * t112)) = 0 then (none) else (some (wrap64 (Int.tdiv (wrap64 ((wrap64 (a0_2 * a1_1)) - (wrap64 (a1_2 * a0_1)))) (wrap64 (t111 * t112))), wrap64 (Int.tdiv (wrap64 ((wrap64 (a0_0 * a1_2)) - (wrap64 (a1_0 * a0_2)))) (wrap64 (t111 * t112))), wrap64 (Int.tdiv (wrap64 ((wrap64 (a0_0 * a1_1)) - (wrap64 (a0_1 * a1_0)))) (wrap64 (t111 * t112))), true))))) = some (r1, r2, r3, r4) := by rw [if_neg (show ¬ (false = true) by decide)] at H; exact H
    clear H
    have H := H1
    clear H1
    obtain ⟨y108, hy108⟩ : ∃ y_ : List Int, y_ = (([wrap64 ((wrap64 (a0_2 * a1_1)) - (wrap64 (a1_2 * a0_1))), wrap64 ((wrap64 (a0_0 * a1_2)) - (wrap64 (a1_0 * a0_2))), wrap64 ((wrap64 (a0_0 * a1_1)) - (wrap64 (a0_1 * a1_0)))] : List Int)) := ⟨_, rfl⟩
    replace H : ((impl_divisor.f kj2 y108).bind fun t111 => ((impl_signOf.f (wrap64 ((wrap64 (a0_0 * a1_1)) - (wrap64 (a0_1 * a1_0))))).bind fun t112 => (if (wrap64 (t111 * t112)) = 0 then (none) else (some (wrap64 (Int.tdiv (wrap64 ((wrap64 (a0_2 * a1_1)) - (wrap64 (a1_2 * a0_1)))) (wrap64 (t111 * t112))), wrap64 (Int.tdiv (wrap64 ((wrap64 (a0_0 * a1_2)) - (wrap64 (a1_0 * a0_2)))) (wrap64 (t111 * t112))), wrap64 (Int.tdiv (wrap64 ((wrap64 (a0_0 * a1_1)) - (wrap64 (a0_1 * a1_0)))) (wrap64 (t111 * t112))), true))))) = some (r1, r2, r3, r4) := by first | (rw [hy108]; with_reducible exact H) | (have H2_ := (Option.bind_some _ _).symm.trans H; rw [hy108]; with_reducible exact H2_) | (have H2_ := (Option.bind_some _ _).symm.trans H; with_reducible exact H2_) | with_reducible exact H | (rw [hy108]; exact H) | exact H
    have Ny108 := Aside0.mk hy108
    clear hy108
    replace H := Option.bind_eq_some_iff.mp H
    obtain ⟨t111, A270, H⟩ := H
    replace H : ((impl_signOf.f (wrap64 ((wrap64 (a0_0 * a1_1)) - (wrap64 (a0_1 * a1_0))))).bind fun t112 => (if (wrap64 (t111 * t112)) = 0 then (none) else (some (wrap64 (Int.tdiv (wrap64 ((wrap64 (a0_2 * a1_1)) - (wrap64 (a1_2 * a0_1)))) (wrap64 (t111 * t112))), wrap64 (Int.tdiv (wrap64 ((wrap64 (a0_0 * a1_2)) - (wrap64 (a1_0 * a0_2)))) (wrap64 (t111 * t112))), wrap64 (Int.tdiv (wrap64 ((wrap64 (a0_0 * a1_1)) - (wrap64 (a0_1 * a1_0)))) (wrap64 (t111 * t112))), true)))) = some (r1, r2, r3, r4) := H
    have A27 := Aside0.mk A270
    clear A270
    replace H := Option.bind_eq_some_iff.mp H
    obtain ⟨t112, A280, H⟩ := H
    replace H : (if (wrap64 (t111 * t112)) = 0 then (none) else (some (wrap64 (Int.tdiv (wrap64 ((wrap64 (a0_2 * a1_1)) - (wrap64 (a1_2 * a0_1)))) (wrap64 (t111 * t112))), wrap64 (Int.tdiv (wrap64 ((wrap64 (a0_0 * a1_2)) - (wrap64 (a1_0 * a0_2)))) (wrap64 (t111 * t112))), wrap64 (Int.tdiv (wrap64 ((wrap64 (a0_0 * a1_1)) - (wrap64 (a0_1 * a1_0)))) (wrap64 (t111 * t112))), true))) = some (r1, r2, r3, r4) := H
    have A28 := Aside0.mk A280
    clear A280
    by_cases c29 : (wrap64 (t111 * t112)) = 0
    ·rw [if_pos c29] at H
     exact absurd H (by simp)
    ·rw [if_neg c29] at H
     have c29b0 : ((wrap64 (t111 * t112)) == 0) = false := beq_eq_false_iff_ne.mpr c29
     have c29b1 : ((wrap64 (t111 * t112)) != 0) = true := bne_iff_ne.mpr c29
     simp only [Option.some.injEq, Prod.mk.injEq] at H
     obtain ⟨rfl, rfl, rfl, rfl⟩ := H
     have hnb30 := NB101_102.out
     have hnc30 := NB102_101.out
     have hcz31_0 : wc.cell? ⟨gb101, 0, none⟩ = some (.int .i64 a0_0) := (blk_cell BK101.out 0).trans rfl
     have hcz31_1 : wc.cell? ⟨gb101, 1, none⟩ = some (.int .i64 a0_1) := (blk_cell BK101.out 1).trans rfl
     have hcz31_2 : wc.cell? ⟨gb101, 2, none⟩ = some (.int .i64 a0_2) := (blk_cell BK101.out 2).trans rfl
     have hfz31_0 := blk_frozen BK101.out 0
     have hfz31_1 := blk_frozen BK101.out 1
     have hfz31_2 := blk_frozen BK101.out 2
     have hcz32_0 : wc.cell? ⟨gb102, 0, none⟩ = some (.int .i64 a1_0) := (blk_cell BK102.out 0).trans rfl
     have hcz32_1 : wc.cell? ⟨gb102, 1, none⟩ = some (.int .i64 a1_1) := (blk_cell BK102.out 1).trans rfl
     have hcz32_2 : wc.cell? ⟨gb102, 2, none⟩ = some (.int .i64 a1_2) := (blk_cell BK102.out 2).trans rfl
     have hfz32_0 := blk_frozen BK102.out 0
     have hfz32_1 := blk_frozen BK102.out 1
     have hfz32_2 := blk_frozen BK102.out 2
     go_wp2_with (first | ((with_reducible refine gate_dst (N := 58) rfl ?_); refine Kd.R_lit (Kd.int .i64) _ 3 ?hg (N := 58) ?hd (xs := ([wrap64 ((wrap64 (a0_2 * a1_1)) - (wrap64 (a1_2 * a0_1))), wrap64 ((wrap64 (a0_0 * a1_2)) - (wrap64 (a1_0 * a0_2))), wrap64 ((wrap64 (a0_0 * a1_1)) - (wrap64 (a0_1 * a1_0)))] : List Int)) (inner := [.int .i64 (wrap64 ((wrap64 (a0_2 * a1_1)) - (wrap64 (a1_2 * a0_1)))), .int .i64 (wrap64 ((wrap64 (a0_0 * a1_2)) - (wrap64 (a1_0 * a0_2)))), .int .i64 (wrap64 ((wrap64 (a0_0 * a1_1)) - (wrap64 (a0_1 * a1_0))))]) (ok := fun _ => True) (okp := fun _ => True) ?hr ?hp (fun _ hk => hk) trivial (Below.refl _ _) (Nat.le_refl _) (by simp) ?_; (case hd => rfl); (case hg => rfl); (case hr => first | (go_simp; done) | (go_simp; rfl)); (case hp => exact (Reps.one (show Kd.M (Kd.int .i64) _ _ _ (wrap64 ((wrap64 (a0_2 * a1_1)) - (wrap64 (a1_2 * a0_1)))) [.int .i64 (wrap64 ((wrap64 (a0_2 * a1_1)) - (wrap64 (a1_2 * a0_1))))] from rfl) (Reps.one (show Kd.M (Kd.int .i64) _ _ _ (wrap64 ((wrap64 (a0_0 * a1_2)) - (wrap64 (a1_0 * a0_2)))) [.int .i64 (wrap64 ((wrap64 (a0_0 * a1_2)) - (wrap64 (a1_0 * a0_2))))] from rfl) (Reps.one (show Kd.M (Kd.int .i64) _ _ _ (wrap64 ((wrap64 (a0_0 * a1_1)) - (wrap64 (a0_1 * a1_0)))) [.int .i64 (wrap64 ((wrap64 (a0_0 * a1_1)) - (wrap64 (a0_1 * a1_0))))] from rfl) (Reps.none _ _))))); intro v109 w33 ho34 hb hg_ hnew_; clear hg_ hnew_; (first | rw [← Ny108.out] at ho34 | (simp only [Int.reduceToNat] at ho34; rw [← Ny108.out] at ho34)); have n0_ := Aside0.mk (Kd.R_lower ho34 (below_size (by repeat (first | (with_reducible first | exact HB.out | apply below_alloc | apply pw_below_drewN | apply below_drew1 | refine below_set ?_ GE101.out | refine below_set ?_ GE102.out) | exact HB.out)))); have n1_ := Aside0.mk (blk_below (g := gb101) (o := .cells #[.int .i64 a0_0, .int .i64 a0_1, .int .i64 a0_2] 36 (0, 0)) (by (with_reducible repeat (first | refine blk_drewN ?_ _ | refine blk_drew ?_ | refine blk_alloc ?_ _)); exact BK101.out) hb); have n2_ := Aside0.mk (blk_below (g := gb102) (o := .cells #[.int .i64 a1_0, .int .i64 a1_1, .int .i64 a1_2] 36 (0, 0)) (by (with_reducible repeat (first | refine blk_drewN ?_ _ | refine blk_drew ?_ | refine blk_alloc ?_ _)); exact BK102.out) hb); have n3_ := Aside0.mk (below_step (by repeat (first | (with_reducible first | exact HB.out | apply below_alloc | apply pw_below_drewN | apply below_drew1 | refine below_set ?_ GE101.out | refine below_set ?_ GE102.out) | exact HB.out)) hb); clear BK101; clear BK102; clear HB; have HO110 := n0_; have BK101 := n1_; have BK102 := n2_; have HB := n3_; clear n0_ n1_ n2_ n3_; clear hb ho34; obtain ⟨Ao35, co35, eo35⟩ := Kd.R_slice HO110.out; subst eo35) | (go_at_call 62; (with_reducible refine (impl_divisor.calls kj2 _ _ y108 t111 _ ?side1 ?side2 A27.out).mono ?_); (case side1 => repeat (first | exact (Kd.R_reads' HO110.out).2.2 | (with_reducible refine Kd.C_alloc ?_ _) | (with_reducible refine Kd.C_drewN ?_ _) | (with_reducible refine Kd.C_drew ?_))); (case side2 => exact (Kd.R_reads' HO110.out).2.1); rintro e w36 ⟨rfl, hb⟩; have n0_ := Aside0.mk (Kd.R_below (by (with_reducible repeat (first | apply Kd.R_alloc | apply Kd.R_drewN | apply Kd.R_drew)); exact HO110.out) hb); have n1_ := Aside0.mk (blk_below (g := gb101) (o := .cells #[.int .i64 a0_0, .int .i64 a0_1, .int .i64 a0_2] 36 (0, 0)) (by (with_reducible repeat (first | refine blk_drewN ?_ _ | refine blk_drew ?_ | refine blk_alloc ?_ _)); exact BK101.out) hb); have n2_ := Aside0.mk (blk_below (g := gb102) (o := .cells #[.int .i64 a1_0, .int .i64 a1_1, .int .i64 a1_2] 36 (0, 0)) (by (with_reducible repeat (first | refine blk_drewN ?_ _ | refine blk_drew ?_ | refine blk_alloc ?_ _)); exact BK102.out) hb); have n3_ := Aside0.mk (below_step (by repeat (first | (with_reducible first | exact HB.out | apply below_alloc | apply pw_below_drewN | apply below_drew1 | refine below_set ?_ GE101.out | refine below_set ?_ GE102.out) | exact HB.out)) hb); clear HO110; clear BK101; clear BK102; clear HB; have HO110 := n0_; have BK101 := n1_; have BK102 := n2_; have HB := n3_; clear n0_ n1_ n2_ n3_; (try clear hb); (try clear hb2); (try clear hk); (try clear hi)) | (go_at_call 63; (with_reducible refine (impl_signOf.calls (wrap64 ((wrap64 (a0_0 * a1_1)) - (wrap64 (a0_1 * a1_0)))) t112 _ A28.out).mono ?_); rintro e w' ⟨rfl, ⟨nd, rfl⟩⟩; (try first | exact ⟨rfl, _, World.drewN_drewN _ _ _⟩ | exact ⟨rfl, _, Eq.trans (World.drewN_drewN _ _ _) (congrArg (World.drewN _) (Nat.add_assoc _ _ _))⟩)))
     repeat (go_quiet (first | ((with_reducible refine gate_dst (N := 58) rfl ?_); refine Kd.R_lit (Kd.int .i64) _ 3 ?hg (N := 58) ?hd (xs := ([wrap64 ((wrap64 (a0_2 * a1_1)) - (wrap64 (a1_2 * a0_1))), wrap64 ((wrap64 (a0_0 * a1_2)) - (wrap64 (a1_0 * a0_2))), wrap64 ((wrap64 (a0_0 * a1_1)) - (wrap64 (a0_1 * a1_0)))] : List Int)) (inner := [.int .i64 (wrap64 ((wrap64 (a0_2 * a1_1)) - (wrap64 (a1_2 * a0_1)))), .int .i64 (wrap64 ((wrap64 (a0_0 * a1_2)) - (wrap64 (a1_0 * a0_2)))), .int .i64 (wrap64 ((wrap64 (a0_0 * a1_1)) - (wrap64 (a0_1 * a1_0))))]) (ok := fun _ => True) (okp := fun _ => True) ?hr ?hp (fun _ hk => hk) trivial (Below.refl _ _) (Nat.le_refl _) (by simp) ?_; (case hd => rfl); (case hg => rfl); (case hr => first | (go_simp; done) | (go_simp; rfl)); (case hp => exact (Reps.one (show Kd.M (Kd.int .i64) _ _ _ (wrap64 ((wrap64 (a0_2 * a1_1)) - (wrap64 (a1_2 * a0_1)))) [.int .i64 (wrap64 ((wrap64 (a0_2 * a1_1)) - (wrap64 (a1_2 * a0_1))))] from rfl) (Reps.one (show Kd.M (Kd.int .i64) _ _ _ (wrap64 ((wrap64 (a0_0 * a1_2)) - (wrap64 (a1_0 * a0_2)))) [.int .i64 (wrap64 ((wrap64 (a0_0 * a1_2)) - (wrap64 (a1_0 * a0_2))))] from rfl) (Reps.one (show Kd.M (Kd.int .i64) _ _ _ (wrap64 ((wrap64 (a0_0 * a1_1)) - (wrap64 (a0_1 * a1_0)))) [.int .i64 (wrap64 ((wrap64 (a0_0 * a1_1)) - (wrap64 (a0_1 * a1_0))))] from rfl) (Reps.none _ _))))); intro v109 w33 ho34 hb hg_ hnew_; clear hg_ hnew_; (first | rw [← Ny108.out] at ho34 | (simp only [Int.reduceToNat] at ho34; rw [← Ny108.out] at ho34)); have n0_ := Aside0.mk (Kd.R_lower ho34 (below_size (by repeat (first | (with_reducible first | exact HB.out | apply below_alloc | apply pw_below_drewN | apply below_drew1 | refine below_set ?_ GE101.out | refine below_set ?_ GE102.out) | exact HB.out)))); have n1_ := Aside0.mk (blk_below (g := gb101) (o := .cells #[.int .i64 a0_0, .int .i64 a0_1, .int .i64 a0_2] 36 (0, 0)) (by (with_reducible repeat (first | refine blk_drewN ?_ _ | refine blk_drew ?_ | refine blk_alloc ?_ _)); exact BK101.out) hb); have n2_ := Aside0.mk (blk_below (g := gb102) (o := .cells #[.int .i64 a1_0, .int .i64 a1_1, .int .i64 a1_2] 36 (0, 0)) (by (with_reducible repeat (first | refine blk_drewN ?_ _ | refine blk_drew ?_ | refine blk_alloc ?_ _)); exact BK102.out) hb); have n3_ := Aside0.mk (below_step (by repeat (first | (with_reducible first | exact HB.out | apply below_alloc | apply pw_below_drewN | apply below_drew1 | refine below_set ?_ GE101.out | refine below_set ?_ GE102.out) | exact HB.out)) hb); clear BK101; clear BK102; clear HB; have HO110 := n0_; have BK101 := n1_; have BK102 := n2_; have HB := n3_; clear n0_ n1_ n2_ n3_; clear hb ho34; obtain ⟨Ao35, co35, eo35⟩ := Kd.R_slice HO110.out; subst eo35) | (go_at_call 62; (with_reducible refine (impl_divisor.calls kj2 _ _ y108 t111 _ ?side1 ?side2 A27.out).mono ?_); (case side1 => repeat (first | exact (Kd.R_reads' HO110.out).2.2 | (with_reducible refine Kd.C_alloc ?_ _) | (with_reducible refine Kd.C_drewN ?_ _) | (with_reducible refine Kd.C_drew ?_))); (case side2 => exact (Kd.R_reads' HO110.out).2.1); rintro e w36 ⟨rfl, hb⟩; have n0_ := Aside0.mk (Kd.R_below (by (with_reducible repeat (first | apply Kd.R_alloc | apply Kd.R_drewN | apply Kd.R_drew)); exact HO110.out) hb); have n1_ := Aside0.mk (blk_below (g := gb101) (o := .cells #[.int .i64 a0_0, .int .i64 a0_1, .int .i64 a0_2] 36 (0, 0)) (by (with_reducible repeat (first | refine blk_drewN ?_ _ | refine blk_drew ?_ | refine blk_alloc ?_ _)); exact BK101.out) hb); have n2_ := Aside0.mk (blk_below (g := gb102) (o := .cells #[.int .i64 a1_0, .int .i64 a1_1, .int .i64 a1_2] 36 (0, 0)) (by (with_reducible repeat (first | refine blk_drewN ?_ _ | refine blk_drew ?_ | refine blk_alloc ?_ _)); exact BK102.out) hb); have n3_ := Aside0.mk (below_step (by repeat (first | (with_reducible first | exact HB.out | apply below_alloc | apply pw_below_drewN | apply below_drew1 | refine below_set ?_ GE101.out | refine below_set ?_ GE102.out) | exact HB.out)) hb); clear HO110; clear BK101; clear BK102; clear HB; have HO110 := n0_; have BK101 := n1_; have BK102 := n2_; have HB := n3_; clear n0_ n1_ n2_ n3_; (try clear hb); (try clear hb2); (try clear hk); (try clear hi)) | (go_at_call 63; (with_reducible refine (impl_signOf.calls (wrap64 ((wrap64 (a0_0 * a1_1)) - (wrap64 (a0_1 * a1_0)))) t112 _ A28.out).mono ?_); rintro e w' ⟨rfl, ⟨nd, rfl⟩⟩; (try first | exact ⟨rfl, _, World.drewN_drewN _ _ _⟩ | exact ⟨rfl, _, Eq.trans (World.drewN_drewN _ _ _) (congrArg (World.drewN _) (Nat.add_assoc _ _ _))⟩))); try go_wp2_with (first | ((with_reducible refine gate_dst (N := 58) rfl ?_); refine Kd.R_lit (Kd.int .i64) _ 3 ?hg (N := 58) ?hd (xs := ([wrap64 ((wrap64 (a0_2 * a1_1)) - (wrap64 (a1_2 * a0_1))), wrap64 ((wrap64 (a0_0 * a1_2)) - (wrap64 (a1_0 * a0_2))), wrap64 ((wrap64 (a0_0 * a1_1)) - (wrap64 (a0_1 * a1_0)))] : List Int)) (inner := [.int .i64 (wrap64 ((wrap64 (a0_2 * a1_1)) - (wrap64 (a1_2 * a0_1)))), .int .i64 (wrap64 ((wrap64 (a0_0 * a1_2)) - (wrap64 (a1_0 * a0_2)))), .int .i64 (wrap64 ((wrap64 (a0_0 * a1_1)) - (wrap64 (a0_1 * a1_0))))]) (ok := fun _ => True) (okp := fun _ => True) ?hr ?hp (fun _ hk => hk) trivial (Below.refl _ _) (Nat.le_refl _) (by simp) ?_; (case hd => rfl); (case hg => rfl); (case hr => first | (go_simp; done) | (go_simp; rfl)); (case hp => exact (Reps.one (show Kd.M (Kd.int .i64) _ _ _ (wrap64 ((wrap64 (a0_2 * a1_1)) - (wrap64 (a1_2 * a0_1)))) [.int .i64 (wrap64 ((wrap64 (a0_2 * a1_1)) - (wrap64 (a1_2 * a0_1))))] from rfl) (Reps.one (show Kd.M (Kd.int .i64) _ _ _ (wrap64 ((wrap64 (a0_0 * a1_2)) - (wrap64 (a1_0 * a0_2)))) [.int .i64 (wrap64 ((wrap64 (a0_0 * a1_2)) - (wrap64 (a1_0 * a0_2))))] from rfl) (Reps.one (show Kd.M (Kd.int .i64) _ _ _ (wrap64 ((wrap64 (a0_0 * a1_1)) - (wrap64 (a0_1 * a1_0)))) [.int .i64 (wrap64 ((wrap64 (a0_0 * a1_1)) - (wrap64 (a0_1 * a1_0))))] from rfl) (Reps.none _ _))))); intro v109 w33 ho34 hb hg_ hnew_; clear hg_ hnew_; (first | rw [← Ny108.out] at ho34 | (simp only [Int.reduceToNat] at ho34; rw [← Ny108.out] at ho34)); have n0_ := Aside0.mk (Kd.R_lower ho34 (below_size (by repeat (first | (with_reducible first | exact HB.out | apply below_alloc | apply pw_below_drewN | apply below_drew1 | refine below_set ?_ GE101.out | refine below_set ?_ GE102.out) | exact HB.out)))); have n1_ := Aside0.mk (blk_below (g := gb101) (o := .cells #[.int .i64 a0_0, .int .i64 a0_1, .int .i64 a0_2] 36 (0, 0)) (by (with_reducible repeat (first | refine blk_drewN ?_ _ | refine blk_drew ?_ | refine blk_alloc ?_ _)); exact BK101.out) hb); have n2_ := Aside0.mk (blk_below (g := gb102) (o := .cells #[.int .i64 a1_0, .int .i64 a1_1, .int .i64 a1_2] 36 (0, 0)) (by (with_reducible repeat (first | refine blk_drewN ?_ _ | refine blk_drew ?_ | refine blk_alloc ?_ _)); exact BK102.out) hb); have n3_ := Aside0.mk (below_step (by repeat (first | (with_reducible first | exact HB.out | apply below_alloc | apply pw_below_drewN | apply below_drew1 | refine below_set ?_ GE101.out | refine below_set ?_ GE102.out) | exact HB.out)) hb); clear BK101; clear BK102; clear HB; have HO110 := n0_; have BK101 := n1_; have BK102 := n2_; have HB := n3_; clear n0_ n1_ n2_ n3_; clear hb ho34; obtain ⟨Ao35, co35, eo35⟩ := Kd.R_slice HO110.out; subst eo35) | (go_at_call 62; (with_reducible refine (impl_divisor.calls kj2 _ _ y108 t111 _ ?side1 ?side2 A27.out).mono ?_); (case side1 => repeat (first | exact (Kd.R_reads' HO110.out).2.2 | (with_reducible refine Kd.C_alloc ?_ _) | (with_reducible refine Kd.C_drewN ?_ _) | (with_reducible refine Kd.C_drew ?_))); (case side2 => exact (Kd.R_reads' HO110.out).2.1); rintro e w36 ⟨rfl, hb⟩; have n0_ := Aside0.mk (Kd.R_below (by (with_reducible repeat (first | apply Kd.R_alloc | apply Kd.R_drewN | apply Kd.R_drew)); exact HO110.out) hb); have n1_ := Aside0.mk (blk_below (g := gb101) (o := .cells #[.int .i64 a0_0, .int .i64 a0_1, .int .i64 a0_2] 36 (0, 0)) (by (with_reducible repeat (first | refine blk_drewN ?_ _ | refine blk_drew ?_ | refine blk_alloc ?_ _)); exact BK101.out) hb); have n2_ := Aside0.mk (blk_below (g := gb102) (o := .cells #[.int .i64 a1_0, .int .i64 a1_1, .int .i64 a1_2] 36 (0, 0)) (by (with_reducible repeat (first | refine blk_drewN ?_ _ | refine blk_drew ?_ | refine blk_alloc ?_ _)); exact BK102.out) hb); have n3_ := Aside0.mk (below_step (by repeat (first | (with_reducible first | exact HB.out | apply below_alloc | apply pw_below_drewN | apply below_drew1 | refine below_set ?_ GE101.out | refine below_set ?_ GE102.out) | exact HB.out)) hb); clear HO110; clear BK101; clear BK102; clear HB; have HO110 := n0_; have BK101 := n1_; have BK102 := n2_; have HB := n3_; clear n0_ n1_ n2_ n3_; (try clear hb); (try clear hb2); (try clear hk); (try clear hi)) | (go_at_call 63; (with_reducible refine (impl_signOf.calls (wrap64 ((wrap64 (a0_0 * a1_1)) - (wrap64 (a0_1 * a1_0)))) t112 _ A28.out).mono ?_); rintro e w' ⟨rfl, ⟨nd, rfl⟩⟩; (try first | exact ⟨rfl, _, World.drewN_drewN _ _ _⟩ | exact ⟨rfl, _, Eq.trans (World.drewN_drewN _ _ _) (congrArg (World.drewN _) (Nat.add_assoc _ _ _))⟩))))
     refine bodyPost_ret (results_list (rs := [.tmp 4, .tmp 5, .tmp 6, .tmp 7]) rfl (by simp) (.tmp (.tmp (.tmp (.tmp .nil))))) rfl ?_
     exact ⟨by first | rfl | (simp [errW_none, errW_some] <;> rfl) | (simp [*, errW_none, errW_some] <;> rfl), by repeat (first | (with_reducible first | exact HB.out | apply below_alloc | apply pw_below_drewN | apply below_drew1 | refine below_set ?_ GE101.out | refine below_set ?_ GE102.out) | exact HB.out)⟩
end Go.Proofs.YtecpobpcimehlaaDoor.P

namespace Go.Proofs.YtecpobpcimehlaaDoor.P
open Go.RowKit Go.Proofs.YtecpobpcimehlaaDoorW.PrintWords Go.Proofs.YtecpobpcimehlaaDoorW.PrintLast Go.Proofs.YtecpobpcimehlaaDoorW.PrintMore
attribute [local go_sem] max2_int min2_int max_two min_two max_three min_three max_four min_four   -- for this text's walks alone
set_option linter.unusedVariables false
set_option linter.unusedSimpArgs false
/-! ### impl_meetings: function 40 -/
/-! #### the map of meeting points: its keys, its datum as a list of keys and sets -/
abbrev Tri := Int × Int × Int
abbrev triV (k : Tri) : Value := .agg #[.int .i64 k.1, .int .i64 k.2.1, .int .i64 k.2.2]
def triL (k : Tri) : Lit := .string (keyBytes [.int .i64 k.1, .int .i64 k.2.1, .int .i64 k.2.2])
def triOk (k : Tri) : Prop := (Lit.int .i64 k.1).wf = true ∧ (Lit.int .i64 k.2.1).wf = true ∧ (Lit.int .i64 k.2.2).wf = true
theorem meet_laidOut : laidOutB Tryd.prog = true := by kernel_rfl
theorem law3 : Go.Maps.Keyed Tryd.prog 52 := Go.Maps.Keyed.of_law (deep_law_laid meet_laidOut (m := 2) (by omega) (of_decide_eq_true (by kernel_rfl)) (by kernel_rfl) (by kernel_rfl))
theorem key3 {k : Tri} (h : triOk k) : keyOf Tryd.prog 52 (triV k) = some (triL k) := by
 have hk : Tryd.prog.keyType 52 = true := by kernel_rfl
 have hs : Tryd.prog.types.size + 1 = (Tryd.prog.types.size - 1) + 2 := by kernel_rfl
 have hc : Tryd.prog.cellsOf 52 = 3 := by kernel_rfl
 have hci : Tryd.prog.cellsOf 3 = 1 := by kernel_rfl
 have hf : (triV k).formed Tryd.prog 52 = true := by simp [Value.formed, Tryd.underlying52, hc]
 unfold keyOf
 simp only [Tryd.underlying52, hk, hf, Bool.and_self, if_true]
 rw [hs]
 unfold triOk at h
 simp only [Program.keyLits, Tryd.underlying52, Tryd.underlying3, Value.cells, hc, hci, List.length_cons, List.length_nil]
 simp [List.range, List.range.loop, h.1, h.2.1, h.2.2, triL]
theorem triL_inj {a b : Tri} (ha : triOk a) (hb : triOk b) (h : triL a = triL b) : a = b := by
 have e := law3.inj (key3 ha) ((key3 hb).trans (congrArg some h.symm))
 obtain ⟨a1, a2, a3⟩ := a
 obtain ⟨b1, b2, b3⟩ := b
 simpa [triV] using e
theorem triL_key {k : Tri} (h : triOk k) : WideAt.IsKeyLit (triL k) := law3.key (key3 h)
abbrev MM := List (Tri × Int)
def getM (M : MM) (k : Tri) : Int := match M.find? (fun p => p.1 == k) with
 | some p => p.2
 | none => 0
def putM (M : MM) (k : Tri) (v : Int) : MM := (k, v) :: M.filter (fun p => !(p.1 == k))
abbrev convM (p : Tri × Int) : Lit × DataW Unit := (triL p.1, .lit (.int .i64 p.2))
def RelM (D : DataW Unit) (M : MM) : Prop := (∃ E, D = .map E ∧ E.Perm (M.map convM)) ∧ M.Pairwise (fun p q => p.1 ≠ q.1) ∧ (∀ p ∈ M, triOk p.1)
theorem relM_nil : RelM (.map []) [] := ⟨⟨[], rfl, List.Perm.nil⟩, List.Pairwise.nil, fun p h => by cases h⟩
theorem same_tri {a b : Tri} (ha : triOk a) (hb : triOk b) : (triL a).sameKey (triL b) = (a == b) := by
 by_cases h : a = b
 ·subst h
  rw [WideAt.sameKey_self (triL_key ha)]; simp
 ·have : (a == b) = false := by simp [h]
  rw [this]
  cases hs : (triL a).sameKey (triL b)
  ·rfl
  ·exact absurd (triL_inj ha hb (WideAt.sameKey_eq hs)) h
theorem find_perm {α : Type} {f : α → Bool} : ∀ {l l' : List α}, l.Perm l' → l.Pairwise (fun x y => ¬ (f x = true ∧ f y = true)) → l'.find? f = l.find? f := by
 intro l l' h
 induction h with
 | nil => intro _; rfl
 | cons x h ih =>
  intro hp
  obtain ⟨h1, h2⟩ := List.pairwise_cons.1 hp
  simp only [List.find?_cons]
  rw [ih h2]
 | swap x y l =>
  intro hp
  obtain ⟨h1, _⟩ := List.pairwise_cons.1 hp
  have := h1 x (by simp)
  simp only [List.find?_cons]
  cases hx : f x <;> cases hy : f y <;> simp_all
 | trans h1 h2 ih1 ih2 =>
  intro hp
  have hp2 := (h1.pairwise_iff (R := fun x y => ¬ (f x = true ∧ f y = true)) (fun {x y} hxy h => hxy ⟨h.2, h.1⟩)).1 hp
  rw [ih2 hp2, ih1 hp]
theorem conv_apart {M : MM} (hp : M.Pairwise (fun p q => p.1 ≠ q.1)) (ho : ∀ p ∈ M, triOk p.1) (k : Lit) : (M.map convM).Pairwise (fun x y => ¬ (x.1.sameKey k = true ∧ y.1.sameKey k = true)) := by
 rw [List.pairwise_map]
 refine hp.imp_of_mem fun {p q} hpm hqm hne hb => hne (triL_inj (ho p hpm) (ho q hqm) ?_)
 exact (WideAt.sameKey_eq hb.1).trans (WideAt.sameKey_eq hb.2).symm
theorem RelM.atKey {D : DataW Unit} {M : MM} (h : RelM D M) {k : Tri} (hk : triOk k) : D.atKey (triL k) (.lit (.int .i64 0)) = .lit (.int .i64 (getM M k)) := by
 obtain ⟨⟨E, rfl, hE⟩, hp, ho⟩ := h
 have e := find_perm hE.symm (conv_apart hp ho (triL k))
 simp only [DataW.atKey]
 rw [e]
 unfold getM
 clear e hE hp
 induction M with
 | nil => rfl
 | cons p M ih =>
  have h1 := same_tri (ho p (by simp)) hk
  simp only [List.map_cons, List.find?_cons, convM]
  rw [h1]
  cases hb : (p.1 == k)
  ·exact ih (fun q hq => ho q (by simp [hq]))
  ·rfl
theorem insert_perm (x : Lit × DataW Unit) : ∀ l : List (Lit × DataW Unit), (DataW.insert x l).Perm (x :: l)
 | [] => List.Perm.refl _
 | y :: r => by
  unfold DataW.insert
  split
  ·exact List.Perm.refl _
  ·exact ((insert_perm x r).cons y).trans (List.Perm.swap x y r)
theorem RelM.put {D : DataW Unit} {M : MM} (h : RelM D M) {k : Tri} (hk : triOk k) (v : Int) : RelM (D.put (triL k) (.lit (.int .i64 v))) (putM M k v) := by
 obtain ⟨⟨E, rfl, hE⟩, hp, ho⟩ := h
 refine ⟨⟨_, rfl, ?_⟩, ?_, ?_⟩
 ·refine (insert_perm _ _).trans (List.Perm.cons _ ?_)
  refine (hE.filter _).trans ?_
  rw [List.filter_map]
  have : M.filter ((fun p : Lit × DataW Unit => !p.1.sameKey (triL k)) ∘ convM) = M.filter (fun p => !(p.1 == k)) := by
   apply List.filter_congr
   intro p hpm
   simp only [Function.comp, convM]
   rw [same_tri (ho p hpm) hk]
  rw [this]
 ·refine List.pairwise_cons.2 ⟨fun q hq => ?_, hp.filter _⟩
  have h2 := (List.mem_filter.1 hq).2
  intro e
  have e' : q.1 = k := e.symm
  rw [e'] at h2
  simp at h2
 ·intro p hp'
  rcases List.mem_cons.1 hp' with rfl | hp'
  ·exact hk
  ·exact ho p (List.mem_filter.1 hp').1
theorem RelM.length {D : DataW Unit} {M : MM} (h : RelM D M) : Maps.size D = M.length := by
 obtain ⟨⟨E, rfl, hE⟩, _, _⟩ := h
 show E.length = _
 rw [hE.length_eq, List.length_map]
theorem RelM.has {D : DataW Unit} {M : MM} (h : RelM D M) (kl : Lit) : Maps.has D kl = M.any (fun p => (triL p.1).sameKey kl) := by
 obtain ⟨⟨E, rfl, hE⟩, _, _⟩ := h
 show E.any (fun p => p.1.sameKey kl) = _
 rw [hE.any_eq, List.any_map]
 rfl
theorem owns_tight {w : World} {b n : Nat} {D : DataW Unit} {M : MM} {R : Value → Option (DataW Unit × List MemPlace)} (h : w.ownsMap Tryd.prog 52 R b n D) (hr : RelM D M) : w.ownsMap Tryd.prog 52 R b M.length D := by
 obtain ⟨es, clock, hb, F, hs, hD⟩ := h
 refine ⟨es, clock, hb, F, ?_, hD⟩
 have e := hr.length
 rw [hD] at e
 have : ((es.toList.map (Go.WideElems.rg Tryd.prog 52 R)).foldr DataW.insert []).length = M.length := e
 rw [length_sorted, List.length_map, Array.length_toList] at this
 omega
theorem owns_block {w w' : World} {P : Program} {k : TypeId} {R : Value → Option (DataW Unit × List MemPlace)} {b n : Nat} {D : DataW Unit} (h : w.ownsMap P k R b n D) (hb : w'.heap[b]? = w.heap[b]?) : w'.ownsMap P k R b n D := by
 obtain ⟨es, clock, h1, F, hs, hD⟩ := h
 exact ⟨es, clock, hb.trans h1, F, hs, hD⟩
def triB (k : Tri) : Bool := (Lit.int .i64 k.1).wf && ((Lit.int .i64 k.2.1).wf && (Lit.int .i64 k.2.2).wf)
theorem triB_ok {k : Tri} (h : triB k = true) : triOk k := by
 unfold triB at h
 simp only [Bool.and_eq_true] at h
 exact ⟨h.1, h.2.1, h.2.2⟩
mutual
def impl_meetings.l0 : Nat → List S36 → MM → Int → Option MM
 | 0, _, _, _ => none
 | k + 1, l, M, i => if i < (l.length : Int) then impl_meetings.l1 k l M i 0 else some M
def impl_meetings.l1 : Nat → List S36 → MM → Int → Int → Option MM
 | 0, _, _, _, _ => none
 | k + 1, l, M, i, j => if j < i then (impl_MeetLines.f k (rd_T36 l i).f0 (rd_T36 l i).f1 (rd_T36 l i).f2 (rd_T36 l j).f0 (rd_T36 l j).f1 (rd_T36 l j).f2).bind fun t => (if t.2.2.2 = true then (if M.length < 1000000 ∧ triB (t.1, t.2.1, t.2.2.1) = true then impl_meetings.l1 k l (putM M (t.1, t.2.1, t.2.2.1) (Go.bits .or .i64 (Go.bits .or .i64 (getM M (t.1, t.2.1, t.2.2.1)) (wrap64 (2 ^ min i.toNat 64))) (wrap64 (2 ^ min j.toNat 64)))) i (wrap64 (j + 1)) else none) else impl_meetings.l1 k l M i (wrap64 (j + 1))) else impl_meetings.l0 k l M (wrap64 (i + 1))
end
def impl_meetings.f (k : Nat) (l : List S36) : Option MM := impl_meetings.l0 k l [] 0
def meet_T10 : Bool × List (List Nat × List Nat) := (true, [([], []), ([], []), ([], []), ([], []), ([1, 2, 3], [1, 2, 3]), ([], []), ([], []), ([], []), ([], []), ([6, 7, 8], [6, 7, 8]), ([5, 9], [5, 9]), ([], []), ([11], [11]), ([10, 12], [10, 12]), ([], []), ([14], [14]), ([13, 15], [13, 15]), ([0, 4, 16, 0, 1, 2, 3, 4, 5, 6, 7, 8, 9, 10, 11, 12, 13, 14, 15, 16], [0, 4, 16])])
def meet_B10 : List Nat := [0, 0, 0, 0, 14, 0, 0, 0, 0, 448, 992, 0, 2048, 8160, 0, 16384, 65504, 131071]
theorem meet_tab10 : rtab .any (opsOf Tryd.f40 10) = meet_T10 := by kernel_rfl
theorem meet_bits10 : waitsOk meet_T10.2 meet_B10 = true := by kernel_rfl
theorem meet_zero (w : World) : (zeroValue 3).run Tryd.prog w = .ok (.int .i64 0) w := by kernel_rfl
set_option maxHeartbeats 4000000 in
set_option maxRecDepth 100000 in
theorem impl_meetings.calls (k : Nat) (A0 : Option Addr) (c0 : Nat) (l0 : List S36) (r : MM) (w : World) (hr0 : Kd.C k36 w A0 l0.length l0) (hc0 : l0.length ≤ c0) (hsm : l0.length ≤ 60) (h : impl_meetings.f k l0 = some r) :
  Calls Tryd.prog 40 #[.slice A0 l0.length c0] w fun e w' => e = .returned (.map (some w.heap.size)) ∧ (∃ D n, w'.ownsMap Tryd.prog 52 (plainElem Tryd.prog 3) w.heap.size n D ∧ RelM D r) ∧ Below w.heap.size w w' := by
 have hmm := @run_makeMap Tryd.prog
 have HR := Aside0.mk hr0
 have HC := Aside0.mk hc0
 have HS := Aside0.mk hsm
 have H' := Aside0.mk (show impl_meetings.l0 k l0 [] 0 = some r from h)
 clear hr0 hc0 hsm h
 go_enter Tryd.func40, Tryd.ntmps40
 go_wp2_with fail
 go_loopg [15] k (fun kq v15 wr => ∃ (M : MM) (i : Nat), v15 = .int .i64 i ∧ i ≤ l0.length ∧ Aside0 (impl_meetings.l0 kq l0 M i = some r) ∧ Aside0 (kq ≤ k) ∧ Aside0 (∃ D n, wr.ownsMap Tryd.prog 52 (plainElem Tryd.prog 3) w.heap.size n D ∧ RelM D M) ∧ Aside0 (Below w.heap.size w wr))
 case atStart => exact ⟨[], 0, rfl, Nat.zero_le _, H', ⟨Nat.le_refl _⟩, ⟨_, _, World.ownsMap_made _ _ _ _, relM_nil⟩, ⟨below_alloc (Below.refl _ _) _⟩⟩
 case round =>
  clear H'
  obtain ⟨M, i, rfl, hil, HA, HK1, HO, HB⟩ := hrel
  cases gk with
  | zero => exact absurd HA.out (by simp [impl_meetings.l0])
  | succ k1 =>
   have H := HA.out
   clear HA
   simp only [impl_meetings.l0] at H
   by_cases hlt : i < l0.length
   ·rw [if_pos (by omega)] at H
    have HA := Aside0.mk H
    clear H
    have hltz : (i : Int) < (l0.length : Int) := by omega
    have hkc : i ≤ c0 := by have := HC.out; omega
    have hmax : l0.length ≤ 9223372036854775807 := by have := HS.out; omega
    obtain ⟨ad, rfl, hx0, hx1, hx2⟩ := at_T36 (Kd.C_below HR.out HB.out) (i : Int) (by omega) hltz
    simp only [Int.toNat_natCast] at hx0 hx1 hx2
    have HY := Aside0.mk (show rd_T36 l0 (i : Int) = rd_T36 l0 (i : Int) from rfl)
    generalize hy : rd_T36 l0 (i : Int) = y at hx0 hx1 hx2
    have HYY := Aside0.mk hy
    clear hy HY
    have hu40 := Tryd.underlying36
    go_wp2_with fail
    have hbl : w.heap.size < wr.heap.size := by obtain ⟨D, n, ho, _⟩ := HO.out; exact ho.lt
    have HGA := Aside0.mk (show (wr.alloc (.cells #[.int .i64 y.f0, .int .i64 y.f1, .int .i64 y.f2] 36)).heap[wr.heap.size]? = some (.cells #[.int .i64 y.f0, .int .i64 y.f1, .int .i64 y.f2] 36 (0, 0)) from heap_alloc_new _ _)
    have HO1 := Aside0.mk (show ∃ D n, (wr.alloc (.cells #[.int .i64 y.f0, .int .i64 y.f1, .int .i64 y.f2] 36)).ownsMap Tryd.prog 52 (plainElem Tryd.prog 3) w.heap.size n D ∧ RelM D M by obtain ⟨D, n, ho, hr⟩ := HO.out; exact ⟨D, n, ho.alloc _, hr⟩)
    have HB1 := Aside0.mk (below_alloc HB.out (.cells #[.int .i64 y.f0, .int .i64 y.f1, .int .i64 y.f2] 36))
    generalize hga : wr.heap.size = ga at HGA hbl ⊢
    have HBL := Aside0.mk hbl
    clear HO HB hx0 hx1 hx2 hga hbl
    generalize wr.alloc (.cells #[.int .i64 y.f0, .int .i64 y.f1, .int .i64 y.f2] 36) = w1 at HGA HO1 HB1 ⊢
    go_loopg [24] k1 (fun kq v24 wi => ∃ (M : MM) (j : Nat), v24 = .int .i64 j ∧ j ≤ i ∧ Aside0 (impl_meetings.l1 kq l0 M i j = some r) ∧ Aside0 (kq ≤ k1) ∧ Aside0 (∃ D n, wi.ownsMap Tryd.prog 52 (plainElem Tryd.prog 3) w.heap.size n D ∧ RelM D M) ∧ Aside0 (Below w.heap.size w wi) ∧ Aside0 (wi.heap[ga]? = some (.cells #[.int .i64 y.f0, .int .i64 y.f1, .int .i64 y.f2] 36 (0, 0))))
    case atStart => exact ⟨M, 0, rfl, Nat.zero_le _, HA, ⟨Nat.le_refl _⟩, HO1, HB1, HGA⟩
    case round =>
     clear HA HO1 HB1 HGA M
     obtain ⟨M, j, rfl, hji, HA, HK2, HO, HB, HGA⟩ := hrel
     cases gk with
     | zero => exact absurd HA.out (by simp [impl_meetings.l1])
     | succ k2 =>
      have H := HA.out
      clear HA
      simp only [impl_meetings.l1] at H
      by_cases hjlt : j < i
      ·rw [if_pos (by omega)] at H
       rw [HYY.out] at H
       have hjltz : (j : Int) < (i : Int) := by omega
       have hjl : (j : Int) < (l0.length : Int) := by omega
       obtain ⟨ad', e', hx0, hx1, hx2⟩ := at_T36 (Kd.C_below HR.out HB.out) (j : Int) (by omega) hjl
       cases e'
       simp only [Int.toNat_natCast] at hx0 hx1 hx2
       generalize rd_T36 l0 (j : Int) = z at hx0 hx1 hx2 H
       have hy0 : wr.cell? ⟨ga, 0, none⟩ = some (.int .i64 y.f0) := by simp [World.cell?, HGA.out]
       have hy1 : wr.cell? ⟨ga, 1, none⟩ = some (.int .i64 y.f1) := by simp [World.cell?, HGA.out]
       have hy2 : wr.cell? ⟨ga, 2, none⟩ = some (.int .i64 y.f2) := by simp [World.cell?, HGA.out]
       obtain ⟨⟨t1, t2, t3, t4⟩, hm, H⟩ := Option.bind_eq_some_iff.mp H
       have HM := Aside0.mk hm
       have HH := Aside0.mk H
       clear hm H
       have hgl : ga < wr.heap.size := (Array.getElem?_eq_some_iff.1 HGA.out).1
       have hya0 := ((below_alloc (Below.refl wr.heap.size wr) (.cells #[.int .i64 z.f0, .int .i64 z.f1, .int .i64 z.f2] 36)).cell (p := ⟨ga, 0, none⟩) hgl).trans hy0
       have hya1 := ((below_alloc (Below.refl wr.heap.size wr) (.cells #[.int .i64 z.f0, .int .i64 z.f1, .int .i64 z.f2] 36)).cell (p := ⟨ga, 1, none⟩) hgl).trans hy1
       have hya2 := ((below_alloc (Below.refl wr.heap.size wr) (.cells #[.int .i64 z.f0, .int .i64 z.f1, .int .i64 z.f2] 36)).cell (p := ⟨ga, 2, none⟩) hgl).trans hy2
       clear hy0 hy1 hy2
       go_wp2_with fail
       (with_reducible refine (impl_MeetLines.calls k2 y.f0 y.f1 y.f2 z.f0 z.f1 z.f2 t1 t2 t3 t4 _ HM.out).mono ?_)
       rintro e w2 ⟨rfl, hb2⟩
       have HB2 := Aside0.mk (below_step (below_alloc HB.out _) hb2)
       have hsz2 : wr.heap.size < w2.heap.size := by have := hb2.size; simp at this; omega
       have hold : ∀ b, b < wr.heap.size → w2.heap[b]? = wr.heap[b]? := fun b hb => (hb2.block b (by simp; omega)).trans ((below_alloc (Below.refl wr.heap.size wr) _).block b hb)
       have HGA2 := Aside0.mk ((hold ga hgl).trans HGA.out)
       have HO2 := Aside0.mk (show ∃ D n, w2.ownsMap Tryd.prog 52 (plainElem Tryd.prog 3) w.heap.size n D ∧ RelM D M by obtain ⟨D, n, ho, hr⟩ := HO.out; exact ⟨D, n, owns_block ho (hold _ ho.lt), hr⟩)
       clear hb2 hold hsz2 hya0 hya1 hya2 hx0 hx1 hx2 hgl HO HB HGA
       cases t4 with
       | false =>
        have HF := Aside0.mk (show impl_meetings.l1 k2 l0 M i (wrap64 ((j : Int) + 1)) = some r from HH.out)
        go_wp2
        go_roundg k2
        case measure => have := HK2.out; omega
        case rel => exact ⟨M, j + 1, by go_num, hjlt, by have h := HF.out; rw [show wrap64 ((j : Int) + 1) = ((j + 1 : Nat) : Int) by unfold wrap64; omega] at h; exact ⟨h⟩, ⟨by have := HK2.out; omega⟩, HO2, HB2, HGA2⟩
       | true =>
        have H := HH.out
        simp only [if_true] at H
        clear HH
        by_cases hc : M.length < 1000000 ∧ triB (t1, t2, t3) = true
        ·rw [if_pos hc] at H
         have hkt := triB_ok hc.2
         obtain ⟨D, n0, ho0, hr⟩ := HO2.out
         have ho := owns_tight ho0 hr
         obtain ⟨v, hlk, hat, hwc⟩ := (ho.drew).lookup_int law3 Tryd.underlying50 Tryd.underlying3 (meet_zero _) (key3 hkt)
         obtain rfl : v = getM M (t1, t2, t3) := by
          have e := hat.symm.trans (hr.atKey hkt)
          simpa using e
         have HHr := Aside0.mk hr
         have HHo := Aside0.mk (show w2.drew.ownsMap Tryd.prog 52 (plainElem Tryd.prog 3) w.heap.size M.length D from ho.drew)
         have HB3 := Aside0.mk (below_drew1 HB2.out)
         have HGA3 := Aside0.mk (show w2.drew.heap[ga]? = _ from HGA2.out)
         have HHk := Aside0.mk hkt
         have HML := Aside0.mk hc.1
         have HF := Aside0.mk H
         generalize hcv : getM M (t1, t2, t3) = cv at HF hlk
         have HCV := Aside0.mk hcv
         clear hr ho ho0 HO2 HB2 HGA2 hat hwc hkt hc H hcv
         go_wp2_with fail
         refine start_ (n := 18) (S := fun w' => (Instr.lookup 50 (.map (some w.heap.size)) (.agg #[.int .i64 t1, .int .i64 t2, .int .i64 t3]) false).run Tryd.prog w' = .ok (.int .i64 cv) w') (ds := [17]) (bm 18 0) (by kernel_rfl) rfl rfl hlk (fun hHeld => ?_)
         refine with_tabW meet_tab10 meet_bits10 (fun HT_ HW_ => ?_)
         generalize w2.drew = w3 at HHo HB3 HGA3 hHeld ⊢
         clear hlk
         refine plan_ ((0, 0, 38, 1) :: (0, 1, 39, 3) :: (0, 2, 40, 7) :: (0, 3, 41, 15) :: (0, 4, 42, 31) :: (0, 5, 43, 63) :: (0, 6, 44, 127) :: (0, 7, 45, 255) :: (0, 8, 46, 511) :: (0, 9, 47, 1023) :: (0, 11, 49, 3071) :: (0, 12, 50, 7167) :: (0, 14, 52, 23551) :: (0, 15, 53, 56319) :: (2, 10, 48, 57343) :: (0, 13, 51, 65535) :: (0, 16, 54, 131071) :: []) ?_
         iterate 17 (first | (refine planV_ ?_ ?_ rfl rfl (any_of HT_.out (by kernel_rfl)) (fun _ _ _ h => h) (Or.inl ⟨by rfl, ?_⟩) ?_ ?_; rotate_left 2; (· intro w'; go_simp; with_reducible rfl); (· simp only [Act.put, List.setIfInBounds_toArray, List.set_cons_zero, List.set_cons_succ, i64_w, i32_w]; rfl)) | (refine planT_ ?_ ?_ rfl rfl (take_ofW HT_.out HW_.out (by kernel_rfl)) (fun _ _ _ h => h) (Or.inl ⟨by rfl, ?_⟩) hHeld ?_ ?_; rotate_left 2; (· rintro w' s0; go_simp; with_reducible rfl); (· simp only [Act.put, List.setIfInBounds_toArray, List.set_cons_zero, List.set_cons_succ, i64_w, i32_w]; rfl)))
         refine planEnd_ ?_
         refine last_ (i := 17) (N := none) (bm 18 262143) rfl rfl (one_of HT_.out (by kernel_rfl)) (by decide) (fun K hK => ?_)
         obtain ⟨w4, hrun, ho4, hg4⟩ := HHo.out.update law3 Tryd.underlying50 (by have := HML.out; unfold maxLen; omega) (key3 HHk.out) (plainElem_int Tryd.underlying3 (wf_bits .or .i64 (bits .or .i64 cv (wrap64 (2 ^ min i 64))) (wrap64 (2 ^ min j 64))))
         refine skip_ (w1 := w4) (by rfl) rfl ?_ ?_
         ·simp only [execOp, Act.eval, Sem.run_bind, Sem.run_pure]
          go_simp
         refine hK.out _ _ ?_
         clear hK K
         refine done_ (done_of HT_.out (by kernel_rfl)) ?_
         have HO4 := Aside0.mk (show ∃ D n, w4.ownsMap Tryd.prog 52 (plainElem Tryd.prog 3) w.heap.size n D ∧ RelM D (putM M (t1, t2, t3) (bits .or .i64 (bits .or .i64 cv (wrap64 (2 ^ min i 64))) (wrap64 (2 ^ min j 64)))) from ⟨_, _, ho4, HHr.out.put HHk.out _⟩)
         have HB4 := Aside0.mk (HB3.out.grown hg4 HB3.out.size (fun k hk => by cases hk; exact Nat.le_refl _))
         have HGA4 := Aside0.mk ((hg4.block ga (Array.getElem?_eq_some_iff.1 HGA3.out).1 (fun e => by have := HBL.out; cases e; omega)).trans HGA3.out)
         clear hrun ho4 hg4 HT_ HW_ hHeld
         go_wp2
         go_roundg k2
         case measure => have := HK2.out; omega
         case rel => exact ⟨_, j + 1, by go_num, hjlt, by have h := HF.out; rw [show wrap64 ((j : Int) + 1) = ((j + 1 : Nat) : Int) by unfold wrap64; omega, Int.toNat_natCast, Int.toNat_natCast] at h; exact ⟨h⟩, ⟨by have := HK2.out; omega⟩, HO4, HB4, HGA4⟩
        ·rw [if_neg hc] at H
         cases H
      ·have hje : j = i := by omega
       subst hje
       rw [if_neg (by omega)] at H
       have HF := Aside0.mk H
       have hjz : ¬ (j : Int) < (j : Int) := by omega
       clear H
       go_wp2
       go_roundg k2
       case measure => have := HK2.out; have := HK1.out; omega
       case rel => exact ⟨M, j + 1, by go_num, hlt, by have h := HF.out; rw [show wrap64 ((j : Int) + 1) = ((j + 1 : Nat) : Int) by unfold wrap64; omega] at h; exact ⟨h⟩, ⟨by have := HK2.out; have := HK1.out; omega⟩, HO, HB⟩
   ·have hile : i = l0.length := by omega
    subst hile
    rw [if_neg (by omega)] at H
    obtain rfl := Option.some.inj H
    clear H
    go_wp2
    go_ret
    exact ⟨rfl, HO.out, HB.out⟩
theorem meet_strike (M : MM) (left : Lit → Bool) (p : Tri × Int) (hp : M.Pairwise (fun p q => p.1 ≠ q.1)) (ho : ∀ p ∈ M, triOk p.1) (hm : p ∈ M) (hl : left (triL p.1) = true) :
  (M.filter (fun q => left (triL q.1))).Perm (p :: M.filter (fun q => left (triL q.1) && !(triL q.1).sameKey (triL p.1))) := by
 induction M with
 | nil => cases hm
 | cons q M ih =>
  obtain ⟨h1, h2⟩ := List.pairwise_cons.1 hp
  have ho2 : ∀ x ∈ M, triOk x.1 := fun x hx => ho x (by simp [hx])
  by_cases e : q = p
  ·subst e
   have hs : (triL q.1).sameKey (triL q.1) = true := WideAt.sameKey_self (triL_key (ho q (by simp)))
   have hf : M.filter (fun x => left (triL x.1) && !(triL x.1).sameKey (triL q.1)) = M.filter (fun x => left (triL x.1)) := by
    apply List.filter_congr
    intro x hx
    have : (triL x.1).sameKey (triL q.1) = false := by
     rw [same_tri (ho2 x hx) (ho q (by simp))]
     have hne := h1 x hx
     simp only [beq_eq_false_iff_ne, ne_eq]
     exact fun h => hne h.symm
    rw [this]; simp
   simp only [List.filter_cons, hl, hs, Bool.not_true, Bool.and_false, if_true, Bool.false_eq_true, if_false]
   rw [hf]
  ·have hm2 : p ∈ M := by
    rcases List.mem_cons.1 hm with h | h
    ·exact absurd h.symm e
    ·exact h
   have hs : (triL q.1).sameKey (triL p.1) = false := by
    rw [same_tri (ho q (by simp)) (ho2 p hm2)]
    have hne := h1 p hm2
    simp only [beq_eq_false_iff_ne, ne_eq]
    exact hne
   have hi := ih h2 ho2 hm2
   simp only [List.filter_cons, hs, Bool.not_false, Bool.and_true]
   cases hq : left (triL q.1)
   ·simp only [Bool.false_eq_true, if_false]; exact hi
   ·simp only [if_true]
    exact (hi.cons q).trans (List.Perm.swap p q _)
theorem RelM.out {D : DataW Unit} {M : MM} (h : RelM D M) {kl : Lit} {c : Int} (hat : ∀ zd, D.atKey kl zd = .lit (.int .i64 c)) : ∃ p ∈ M, triL p.1 = kl ∧ p.2 = c := by
 have hh := Maps.has_true_of_atKey hat
 rw [h.has] at hh
 obtain ⟨p, hp, hs⟩ := List.any_eq_true.1 hh
 have hk := WideAt.sameKey_eq hs
 refine ⟨p, hp, hk, ?_⟩
 have e := h.atKey (h.2.2 p hp)
 rw [hk, hat] at e
 have e2 : c = getM M p.1 := by simpa using e
 rw [e2]
 clear hat hh hs e e2 hk
 obtain ⟨h1_, hpw, ho⟩ := h
 clear h1_ ho
 unfold getM
 induction M with
 | nil => cases hp
 | cons q M ih =>
  obtain ⟨h1, h2⟩ := List.pairwise_cons.1 hpw
  simp only [List.find?_cons]
  rcases List.mem_cons.1 hp with rfl | hm
  ·simp
  ·have hne := h1 p hm
   have : (q.1 == p.1) = false := by simpa using hne
   rw [this]
   exact ih hm h2
theorem filter_has {D : DataW Unit} {M : MM} (h : RelM D M) : M.filter (fun q => Maps.has D (triL q.1)) = M := by
 apply List.filter_eq_self.2
 intro p hp
 rw [h.has]
 exact List.any_eq_true.2 ⟨p, hp, WideAt.sameKey_self (triL_key (h.2.2 p hp))⟩
theorem filter_none {M : MM} {left : Lit → Bool} (h : ∀ kl, left kl = false) : M.filter (fun q => left (triL q.1)) = [] := by
 apply List.filter_eq_nil_iff.2
 intro p _
 rw [h]; simp
end Go.Proofs.YtecpobpcimehlaaDoor.P

namespace Go.Proofs.YtecpobpcimehlaaDoor.P
open Go.RowKit Go.Proofs.YtecpobpcimehlaaDoorW.PrintWords Go.Proofs.YtecpobpcimehlaaDoorW.PrintLast Go.Proofs.YtecpobpcimehlaaDoorW.PrintMore
attribute [local go_sem] max2_int min2_int max_two min_two max_three min_three max_four min_four   -- for this text's walks alone
set_option linter.unusedVariables false
set_option linter.unusedSimpArgs false
/-! ### impl_elementsOf: function 41 -/
def impl_elementsOf.l0 : Nat → Int → List Int → Int → Option (List Int)
 | 0, _, _, _ => none
 | k + 1, x0, x3, x4 => if x4 < 63 then (if 0 ≤ x4 then (if (Go.bits .and .i64 (shr .i64 x0 x4) 1) = 1 then (if x3.length < 17592186044416 then (impl_elementsOf.l0 k x0 (x3 ++ [x4]) (wrap64 (x4 + 1))) else (none)) else (impl_elementsOf.l0 k x0 x3 (wrap64 (x4 + 1)))) else (none)) else (some x3)
def impl_elementsOf.f (k : Nat) (a0 : Int) : Option (List Int) := impl_elementsOf.l0 k a0 ([] : List Int) 0
theorem impl_elementsOf.mono_l : ∀ k, (∀ y0 y1 y2, LeO (impl_elementsOf.l0 k y0 y1 y2) (impl_elementsOf.l0 (k + 1) y0 y1 y2))
 | 0 => fun _ _ _ r h => by simp [impl_elementsOf.l0] at h
 | k + 1 => by
  have ih0 := impl_elementsOf.mono_l k
  ·intro y0 y1 y2
   unfold impl_elementsOf.l0
   repeat' first
   | (with_reducible exact ih0 _ _ _)
   | (with_reducible exact LeO.refl _)
   | (with_reducible exact LeO.none _)
   | (with_reducible refine LeO.ite ?_ ?_)
   | (with_reducible refine LeO.bind ?_ (fun _ => ?_))
theorem impl_elementsOf.mono : ∀ a0 k, LeO (impl_elementsOf.f k a0) (impl_elementsOf.f (k + 1) a0) := by
 intro a0 k
 have ih0 := impl_elementsOf.mono_l k
 unfold impl_elementsOf.f
 repeat' first
   | (with_reducible exact ih0 _ _ _)
   | (with_reducible exact LeO.refl _)
   | (with_reducible exact LeO.none _)
   | (with_reducible refine LeO.ite ?_ ?_)
   | (with_reducible refine LeO.bind ?_ (fun _ => ?_))
set_option maxHeartbeats 8000000 in
set_option maxRecDepth 100000 in
theorem impl_elementsOf.calls (k : Nat) (a0 : Int) (r : List Int) (w : World) (h : impl_elementsOf.f k a0 = some r) :
  Calls Tryd.prog 41 #[.int .i64 a0] w fun e w' => ∃ v0_ : Value, e = .returned (v0_) ∧ Kd.R (Kd.int .i64) 3 w' w.heap.size (fun _ => True) v0_ r ∧ Below w.heap.size w w' := by
 have HB := Aside0.mk (Below.refl w.heap.size w)
 have H : (impl_elementsOf.l0 k a0 ([] : List Int) 0) = some r := h
 clear h
 have H' := Aside0.mk H
 clear H
 go_enter Tryd.func41, Tryd.ntmps41
 go_wp2
 go_loopg [3, 4] k (fun kq v3 v4 w' => ∃ (x3_1 : List Int) (x4_1 : Int), v4 = .int .i64 x4_1 ∧ Aside0 (impl_elementsOf.l0 kq a0 x3_1 x4_1 = some r) ∧ Aside0 (kq ≤ k) ∧ Aside0 (Kd.R (Kd.int .i64) 3 w' w.heap.size (fun _ => True) v3 x3_1) ∧ Aside0 (Below w.heap.size w w'))
 case atStart => exact ⟨(([] : List Int)), (0), (by first | rfl | (simp; done) | (simp [*]; done)), H', ⟨Nat.le_refl _⟩, ⟨by first | exact Kd.R_nil _ _ _ _ _ | exact Kd.N_nil _ _ _ _ _ | exact Kd.V_nil _ _ _ _ _ | exact Kd.Q_nil _ _ _ _ _ | exact Kd.S_nil _ _ _ _ _⟩, ⟨by repeat (first | (with_reducible first | exact HB.out | apply below_alloc | apply pw_below_drewN | apply below_drew1) | exact HB.out)⟩⟩
 case round =>
  clear H'
  obtain ⟨x3_1, x4_1, rfl, HA, HK1, HO_3, HB⟩ := hrel
  cases gk with
  | zero => exact absurd HA.out (by simp [impl_elementsOf.l0])
  | succ k1 =>
   have H := HA.out
   clear HA
   simp only [impl_elementsOf.l0] at H
   by_cases c2 : x4_1 < 63
   ·rw [if_pos c2] at H
    have c2b0 : decide (x4_1 < 63) = true := decide_eq_true c2
    clear c2
    by_cases c3 : 0 ≤ x4_1
    ·rw [if_pos c3] at H
     have c3b0 := eq_true c3
     have c3b1 : decide (0 ≤ x4_1) = true := decide_eq_true c3
     clear c3
     obtain ⟨ji4, hji4⟩ : ∃ j_ : Int, (shr .i64 a0 x4_1) = j_ := ⟨_, rfl⟩
     replace H : (if (Go.bits .and .i64 (ji4) 1) = 1 then (if x3_1.length < 17592186044416 then (impl_elementsOf.l0 k1 a0 (x3_1 ++ [x4_1]) (wrap64 (x4_1 + 1))) else (none)) else (impl_elementsOf.l0 k1 a0 x3_1 (wrap64 (x4_1 + 1)))) = some r := by first | (rw [hji4] at H; exact H) | (simp only [hji4] at H ⊢; exact H)
     have hji4_ : (a0 / 2 ^ min x4_1.toNat 64) = ji4 := hji4
     have hji4z : x4_1 ≤ 64 → (a0 / 2 ^ x4_1.toNat) = ji4 := shr_small hji4
     by_cases c5 : (Go.bits .and .i64 (ji4) 1) = 1
     ·rw [if_pos c5] at H
      have c5b0 : ((Go.bits .and .i64 (ji4) 1) == 1) = true := beq_iff_eq.mpr c5
      have c5b1 : ((Go.bits .and .i64 (ji4) 1) != 1) = false := bne_eq_false_iff_eq.mpr c5
      clear c5
      by_cases c6 : x3_1.length < 17592186044416
      ·rw [if_pos c6] at H
       have LMc6 := Aside0.mk c6
       clear c6
       obtain ⟨y101, hy101⟩ : ∃ y_ : List Int, y_ = (x3_1 ++ [x4_1]) := ⟨_, rfl⟩
       replace H : (impl_elementsOf.l0 k1 a0 y101 (wrap64 (x4_1 + 1))) = some r := by first | (rw [hy101]; with_reducible exact H) | (have H2_ := (Option.bind_some _ _).symm.trans H; rw [hy101]; with_reducible exact H2_) | (have H2_ := (Option.bind_some _ _).symm.trans H; with_reducible exact H2_) | with_reducible exact H | (rw [hy101]; exact H) | exact H
       have Ny101 := Aside0.mk hy101
       clear hy101
       have H' := Aside0.mk H
       clear H
       go_wp2_with (first | ((with_reducible refine gate_builtin (b := .append) (xs := #[.tmp 14, .tmp 16]) rfl ?_); at_builtin; refine Kd.R_append (Kd.int .i64) (w0 := w) w.heap.size rfl (.tmp 14) (.tmp 16) 31 3 (.int .i64 0) 8 rfl Tryd.underlying31 info3 rfl (by decide) (by omega) u3 x3_1 x4_1 [.int .i64 x4_1] (fun _ => True) (fun _ => False) rfl rfl ?aP (fun _ hk => hk.elim) ?aF ?aO ?aB ?aS ?aL ?_; (case aP => exact rfl); (case aB => exact (by repeat (first | (with_reducible first | exact HB.out | apply below_alloc | apply pw_below_drewN | apply below_drew1) | exact HB.out))); (case aF => exact (fun _ _ => trivial)); (case aO => exact (by (with_reducible repeat (first | apply Kd.R_alloc | apply Kd.R_drewN | apply Kd.R_drew)); exact HO_3.out)); (case aS => exact (below_size (by repeat (first | (with_reducible first | exact HB.out | apply below_alloc | apply pw_below_drewN | apply below_drew1) | exact HB.out)))); (case aL => have := LMc6.out; omega); intro v102 w7 ho hb hg hat; rw [← Ny101.out] at ho; have n0_ := Aside0.mk (hb); have n1_ := Aside0.mk (ho); clear HB; clear HO_3; have HB := n0_; have HO103 := n1_; clear n0_ n1_; clear ho hb hg hat))
       go_roundg k1
       case measure => have := HK1.out; omega
       case rel => exact ⟨(y101), (wrap64 (x4_1 + 1)), (by first | rfl | (simp; done) | (simp [*]; done)), H', ⟨by have := HK1.out; omega⟩, ⟨by (with_reducible repeat (first | apply Kd.R_alloc | apply Kd.R_drewN | apply Kd.R_drew)); exact HO103.out⟩, ⟨by repeat (first | (with_reducible first | exact HB.out | apply below_alloc | apply pw_below_drewN | apply below_drew1) | exact HB.out)⟩⟩
      ·rw [if_neg c6] at H
       exact absurd H (by simp)
     ·rw [if_neg c5] at H
      have c5b0 : ((Go.bits .and .i64 (ji4) 1) == 1) = false := beq_eq_false_iff_ne.mpr c5
      have c5b1 : ((Go.bits .and .i64 (ji4) 1) != 1) = true := bne_iff_ne.mpr c5
      have H' := Aside0.mk H
      clear H
      go_wp2
      go_roundg k1
      case measure => have := HK1.out; omega
      case rel => exact ⟨(x3_1), (wrap64 (x4_1 + 1)), (by first | rfl | (simp; done) | (simp [*]; done)), H', ⟨by have := HK1.out; omega⟩, ⟨by (with_reducible repeat (first | apply Kd.R_alloc | apply Kd.R_drewN | apply Kd.R_drew)); exact HO_3.out⟩, ⟨by repeat (first | (with_reducible first | exact HB.out | apply below_alloc | apply pw_below_drewN | apply below_drew1) | exact HB.out)⟩⟩
    ·rw [if_neg c3] at H
     exact absurd H (by simp)
   ·rw [if_neg c2] at H
    have c2b0 : decide (x4_1 < 63) = false := decide_eq_false c2
    clear c2
    obtain rfl := Option.some.inj H
    go_wp2
    go_ret
    exact ⟨_, by first | rfl | (simp [errW_none, errW_some] <;> rfl) | (simp [*, errW_none, errW_some] <;> rfl), by (with_reducible repeat (first | apply Kd.R_alloc | apply Kd.R_drewN | apply Kd.R_drew)); exact HO_3.out, by repeat (first | (with_reducible first | exact HB.out | apply below_alloc | apply pw_below_drewN | apply below_drew1) | exact HB.out)⟩
end Go.Proofs.YtecpobpcimehlaaDoor.P

namespace Go.Proofs.YtecpobpcimehlaaDoor.P
open Go.RowKit Go.Proofs.YtecpobpcimehlaaDoorW.PrintWords Go.Proofs.YtecpobpcimehlaaDoorW.PrintLast Go.Proofs.YtecpobpcimehlaaDoorW.PrintMore
attribute [local go_sem] max2_int min2_int max_two min_two max_three min_three max_four min_four   -- for this text's walks alone
set_option linter.unusedVariables false
set_option linter.unusedSimpArgs false
/-! ### slices_Sort_int_int: function 42 -/
def slices_Sort_int_int.f (l0 : List Int) : Option (List Int) := if l0.length < 4611686018427387904 then some (l0.mergeSort fun x y => decide (x ≤ y)) else none
theorem sorted_cells (d : List Int) (cur : Array Value) (hc : d.length ≤ cur.size) : (Go.Sort.putCells (Value.int .i64) 0 d.toArray cur).size = cur.size ∧ (Go.Sort.putCells (Value.int .i64) 0 d.toArray cur).toList.take d.length = nums .i64 d := by
 constructor
 ·simp [Go.Sort.putCells]
 ·apply List.ext_getElem?
  intro j
  rw [List.getElem?_take]
  by_cases hj : j < d.length
  ·rw [if_pos hj, Array.getElem?_toList, Go.Sort.putCells, Array.getElem?_mapIdx, Array.getElem?_eq_getElem (by omega), Option.map_some, if_pos ⟨Nat.zero_le _, by simpa using hj⟩]
   simp [nums, List.getElem?_eq_getElem hj, hj]
  ·rw [if_neg hj, List.getElem?_eq_none (by simp [nums]; omega)]
theorem sorted_heap (w : World) (m g : Nat) (d : Array Int) (os : Array Obj) (i : Nat) (hi : i < w.heap.size) :
  (Go.Sort.grow (Go.Sort.putRow (Value.int .i64) (Go.Sort.ahead w m) g 0 d) os).heap[i]? = if g = i then (w.heap[i]?).map (Go.Sort.onCells (Go.Sort.putCells (Value.int .i64) 0 d)) else w.heap[i]? := by
 rw [Go.Sort.heap_grow_old _ _ (by simpa [Go.Sort.putRow, Go.Sort.mapBlock, Go.Sort.ahead] using hi)]
 simp [Go.Sort.putRow, Go.Sort.mapBlock, Go.Sort.ahead, Array.getElem?_modify]
theorem slices_Sort_int_int.calls (P0_ : Nat → Prop) (u9000_ : Value) (l0 : List Int) (r : List Int) (w0 w : World) (hB : Below w0.heap.size w0 w) (ho0 : Kd.R (Kd.int .i64) 3 w w0.heap.size P0_ u9000_ l0) (h : slices_Sort_int_int.f l0 = some r) :
  Calls Tryd.prog 42 #[u9000_] w fun e w' => e = .returned (.tuple #[]) ∧ Kd.R (Kd.int .i64) 3 w' w0.heap.size (fun k_ => (P0_ k_ ∨ w.heap.size ≤ k_)) u9000_ r ∧ Below w0.heap.size w0 w' ∧ Kept w w' (fun k_ => P0_ k_) := by
 simp only [slices_Sort_int_int.f] at h
 by_cases hbig : l0.length < 4611686018427387904
 case neg => rw [if_neg hbig] at h; cases h
 rw [if_pos hbig] at h
 obtain rfl : (l0.mergeSort fun x y => decide (x ≤ y)) = r := Option.some.inj h
 have hown := Kd.own_of_R (enc := Value.int .i64) (h1 := fun _ => rfl) ho0
 have hok := ho0.1
 have hl2 : (l0.mergeSort fun x y => decide (x ≤ y)).length = l0.length := List.length_mergeSort _
 rcases hown with ⟨hlen, ⟨rfl, hn⟩ | ⟨g, cap, cur, rfl, hgb, hh, hnc, hcm, hcs, htk⟩⟩
 ·obtain rfl := List.eq_nil_of_length_eq_zero hn
  refine (Tryd.slices_Sort_int_none none 0 w).mono ?_
  rintro e w' ⟨rfl, rfl⟩
  exact ⟨rfl, by simpa using Kd.R_nil _ _ _ _ _, hB, Kept.refl _ _⟩
 ·have hlt : g < w.heap.size := blk_lt hh
  have hcells : ∀ j (hj : j < l0.length), cur[j]? = some (.int .i64 l0[j]) := by
   intro j hj
   have h1 : (cur.toList.take (l0.length * 1))[j]? = (encs (Value.int .i64) l0)[j]? := by rw [htk]
   rw [Nat.mul_one, List.getElem?_take, if_pos hj, Array.getElem?_toList] at h1
   rw [h1]
   simp [encs, List.getElem?_eq_getElem hj]
  have hH : Go.Sort.Holds (Value.int .i64) w g 0 l0.toArray := by
   intro j hj
   have hj' : j < l0.length := by simpa using hj
   refine ⟨?_, blk_frozen hh _⟩
   rw [Nat.zero_add, blk_cell hh j, hcells j hj']
   simp [hj']
  refine (Tryd.slices_Sort_int g 0 cap l0 w hH hlt hbig).mono ?_
  rintro e w' ⟨rfl, m, os, rfl⟩
  have hsz : w.heap.size ≤ (Go.Sort.grow (Go.Sort.putRow (Value.int .i64) (Go.Sort.ahead w m) g 0 (l0.mergeSort fun x y => decide (x ≤ y)).toArray) os).heap.size := by
   simp [Go.Sort.putRow, Go.Sort.mapBlock, Go.Sort.ahead]
  have hblk := sorted_heap w m g (l0.mergeSort fun x y => decide (x ≤ y)).toArray os
  generalize hw' : Go.Sort.grow (Go.Sort.putRow (Value.int .i64) (Go.Sort.ahead w m) g 0 (l0.mergeSort fun x y => decide (x ≤ y)).toArray) os = w' at hsz hblk
  have hg' : w'.heap[g]? = some (.cells (Go.Sort.putCells (Value.int .i64) 0 (l0.mergeSort fun x y => decide (x ≤ y)).toArray cur) 3 (0, 0)) := by
   rw [hblk g hlt, if_pos rfl, hh]; rfl
  have hs := sorted_cells (l0.mergeSort fun x y => decide (x ≤ y)) cur (by rw [hl2, hcs]; omega)
  have hB2 : Below w0.heap.size w w' := by
   subst hw'
   exact ⟨rfl, rfl, rfl, hsz, fun i hi => by rw [hblk i (Nat.lt_of_lt_of_le hi hB.size), if_neg (by omega)]⟩
  refine ⟨rfl, ?_, hB.trans hB2, ⟨hsz, fun i hi hn => by rw [hblk i hi, if_neg (fun he => hn (by rw [← he]; exact hok g rfl))]⟩⟩
  refine Kd.R_of_own (enc := Value.int .i64) (h1 := fun _ => rfl) ?_ (fun k hk => .inl (hok k hk))
  refine ⟨by simp [encs], .inr ⟨g, cap, _, by rw [hl2], hgb, hg', by rw [hl2]; exact hnc, hcm, by rw [hs.1]; exact hcs, ?_⟩⟩
  rw [Nat.mul_one]
  exact hs.2
end Go.Proofs.YtecpobpcimehlaaDoor.P

namespace Go.Proofs.YtecpobpcimehlaaDoor.P
open Go.RowKit Go.Proofs.YtecpobpcimehlaaDoorW.PrintWords Go.Proofs.YtecpobpcimehlaaDoorW.PrintLast Go.Proofs.YtecpobpcimehlaaDoorW.PrintMore
attribute [local go_sem] max2_int min2_int max_two min_two max_three min_three max_four min_four   -- for this text's walks alone
set_option linter.unusedVariables false
set_option linter.unusedSimpArgs false
/-! ### impl_MeetingRow: function 21 -/
def lenM (k : Nat) (p : Tri × Int) : Int := (((impl_elementsOf.f k p.2).getD []).length : Int)
def impl_MeetingRow.f (k : Nat) (l0 : List S36) : Option (List Int) := (impl_AreLines.f l0).bind fun b => if b = true then (if l0.length ≤ 60 then (impl_meetings.f k l0).bind fun M => (if (M.length < 1000000 ∧ M.all (fun p => (impl_elementsOf.f k p.2).isSome) = true) then slices_Sort_int_int.f (M.map (lenM k)) else none) else none) else some []
theorem sort_perm {A B : List Int} (h : A.Perm B) : slices_Sort_int_int.f A = slices_Sort_int_int.f B := by
 unfold slices_Sort_int_int.f
 rw [h.length_eq]
 congr 2
 have hA := List.mergeSort_perm A (fun x y => decide (x ≤ y))
 have hB := List.mergeSort_perm B (fun x y => decide (x ≤ y))
 have tr : ∀ a b c : Int, decide (a ≤ b) = true → decide (b ≤ c) = true → decide (a ≤ c) = true := fun a b c h1 h2 => decide_eq_true (Int.le_trans (of_decide_eq_true h1) (of_decide_eq_true h2))
 have tt_ : ∀ a b : Int, (decide (a ≤ b) || decide (b ≤ a)) = true := fun a b => by
  rcases Int.le_total a b with h | h <;> simp [h]
 have sA := List.pairwise_mergeSort tr tt_ A
 have sB := List.pairwise_mergeSort tr tt_ B
 exact List.Perm.eq_of_pairwise (le := fun x y => decide (x ≤ y) = true) (fun a b _ _ h1 h2 => Int.le_antisymm (of_decide_eq_true h1) (of_decide_eq_true h2)) sA sB (hA.trans (h.trans hB.symm))
set_option maxHeartbeats 4000000 in
set_option maxRecDepth 100000 in
theorem impl_MeetingRow.calls (k : Nat) (A0 : Option Addr) (c0 : Nat) (l0 : List S36) (r : List Int) (w : World) (hr0 : Kd.C k36 w A0 l0.length l0) (hc0 : l0.length ≤ c0) (h : impl_MeetingRow.f k l0 = some r) :
  Calls Tryd.prog 21 #[.slice A0 l0.length c0] w fun e w' => ∃ v0_ : Value, e = .returned (v0_) ∧ Kd.R (Kd.int .i64) 3 w' w.heap.size (fun _ => True) v0_ r ∧ Below w.heap.size w w' := by
 have HR := Aside0.mk hr0
 have HC := Aside0.mk hc0
 have HB := Aside0.mk (Below.refl w.heap.size w)
 unfold impl_MeetingRow.f at h
 obtain ⟨b, hb, h⟩ := Option.bind_eq_some_iff.mp h
 have HA1 := Aside0.mk hb
 clear hr0 hc0 hb
 cases b with
 | false =>
  obtain rfl := Option.some.inj (show some [] = some r from h)
  clear h
  go_enter Tryd.func21, Tryd.ntmps21
  go_wp2_with (first | (go_at_call 18; (with_reducible refine (impl_AreLines.calls A0 c0 l0 false _ (Kd.C_below HR.out HB.out) HC.out HA1.out).mono ?_); rintro e w1 ⟨rfl, hb⟩))
  go_ret
  exact ⟨_, rfl, Kd.R_nil _ _ _ _ _, below_step HB.out hb⟩
 | true =>
  rw [if_pos rfl] at h
  by_cases hg : l0.length ≤ 60
  case neg => rw [if_neg hg] at h; cases h
  rw [if_pos hg] at h
  obtain ⟨M, hM, h⟩ := Option.bind_eq_some_iff.mp h
  by_cases hq : M.length < 1000000 ∧ M.all (fun p => (impl_elementsOf.f k p.2).isSome) = true
  case neg => rw [if_neg hq] at h; cases h
  rw [if_pos hq] at h
  have HM := Aside0.mk hM
  have HF := Aside0.mk h
  have HG := Aside0.mk hg
  have HQ := Aside0.mk hq
  clear h hM hg hq
  go_enter Tryd.func21, Tryd.ntmps21
  go_wp2_with (first
    | (go_at_call 18; (with_reducible refine (impl_AreLines.calls A0 c0 l0 true _ (Kd.C_below HR.out HB.out) HC.out HA1.out).mono ?_); rintro e w3 ⟨rfl, hb⟩; have m0_ := Aside0.mk (below_step HB.out hb); clear HB hb; have HB := m0_; clear m0_)
    | (go_at_call 40; (with_reducible refine (impl_meetings.calls k A0 c0 l0 M _ (Kd.C_below HR.out HB.out) HC.out HG.out HM.out).mono ?_); rintro e w4 ⟨rfl, ⟨D, n, ho, hr⟩, hb⟩; have HO := Aside0.mk ho; have HRM := Aside0.mk hr; have HSZ := Aside0.mk (below_size HB.out); have m0_ := Aside0.mk (below_step HB.out hb); clear HB ho hr hb; have HB := m0_; clear m0_)
    | (at_range; refine wpList_range_own _ rfl _ 50 rfl 52 3 law3 Tryd.underlying50 (plainElem Tryd.prog 3) w3.heap.size n D rfl HO.out ?_; intro w5 hrg0 hg0 hs0))
  go_frame
  have HX0 := Aside0.mk (HB.out.grown hg0 HB.out.size (fun j hj => by cases hj))
  have HRG := Aside0.mk hrg0
  have HRB := Aside0.mk (HB.out.size)
  have HBR := Aside0.mk HO.out.lt
  generalize w3.heap.size = b at HRG HO HBR HSZ ⊢
  generalize w4.heap.size = rr at HRG HRB HBR ⊢
  clear hrg0 hg0 hs0 HB HO
  go_loopw [3] (fun v3 wr => ∃ (left : Lit → Bool) (cnt : Nat) (xs : List Int), Aside0 (Kd.R (Kd.int .i64) 3 wr w.heap.size (fun k_ => k_ ≠ b ∧ k_ ≠ rr) v3 xs) ∧ Aside0 ((xs ++ (M.filter (fun q => left (triL q.1))).map (lenM k)).Perm (M.map (lenM k))) ∧ wr.ranges Tryd.prog 52 (plainElem Tryd.prog 3) b rr n D left cnt ∧ Aside0 (Below w.heap.size w wr))
   (fun _ wr => wr.rangeLeft b rr)
  case atStart => exact ⟨_, _, [], ⟨Kd.R_nil _ _ _ _ _⟩, ⟨by rw [filter_has HRM.out]; exact List.Perm.refl _⟩, HRG.out, HX0⟩
  case round =>
   clear HRG HX0
   obtain ⟨left, cnt, xs, HV, HS, hrg, HX⟩ := hrel
   go_wp2_with (first
     | (at_next; refine wpList_next_ranges _ rfl (.tmp 11) rfl 52 law3 (plainElem Tryd.prog 3) (fun x : Value => x) (Value.int .i64) (fun key kl _ => ⟨key, rfl⟩) (fun v y hv => by obtain ⟨c, rfl, _⟩ := plainElem_int_inv Tryd.underlying3 hv; exact ⟨c, rfl⟩) b rr n D left cnt rfl hrg ?_ ?_))
   ·intro _ hl0
    have HP := Aside0.mk (show xs.Perm (M.map (lenM k)) by have := HS.out; rw [filter_none hl0] at this; simpa using this)
    have HF2 := Aside0.mk ((sort_perm HP.out).trans HF.out)
    clear hl0 HS hrg
    go_wp2_with (first | (go_at_call 42; (with_reducible refine (slices_Sort_int_int.calls (fun k_ => k_ ≠ b ∧ k_ ≠ rr) _ xs r w _ HX.out HV.out HF2.out).mono ?_); rintro e w8 ⟨rfl, ho8, hb8, hk8⟩; have HV8 := Aside0.mk ho8; have HX8 := Aside0.mk hb8; clear ho8 hb8 hk8))
    go_ret
    exact ⟨_, rfl, Kd.R_mono HV8.out (fun _ _ => trivial), HX8.out⟩
   ·intro x c kl y ps w6 cnt6 hkey hlk hv hat hrg6 hlt hg6 hs6 hen
    obtain ⟨c', ec, hz, hwc⟩ := plainElem_int_inv Tryd.underlying3 hv
    obtain rfl : c = c' := by injection ec
    have hy : y = .lit (.int .i64 c) := congrArg Prod.fst hz
    obtain ⟨p, hp, hpk, hpc⟩ := HRM.out.out (kl := kl) (c := c) (fun zd => by rw [hat, hy])
    have HP := Aside0.mk (meet_strike M left p HRM.out.2.1 HRM.out.2.2 hp (by rw [hpk]; exact hlk))
    rw [hpk] at HP
    obtain ⟨es, hes⟩ : ∃ es, impl_elementsOf.f k c = some es := by
     have := List.all_eq_true.1 HQ.out.2 p hp
     rw [hpc] at this
     exact Option.isSome_iff_exists.1 this
    have HES := Aside0.mk hes
    have HLN := Aside0.mk (show lenM k p = (es.length : Int) by unfold lenM; rw [hpc, hes]; rfl)
    have HS2 := Aside0.mk (show ((xs ++ [(es.length : Int)]) ++ (M.filter (fun q => left (triL q.1) && !(triL q.1).sameKey kl)).map (lenM k)).Perm (M.map (lenM k)) by
     refine List.Perm.trans ?_ HS.out
     rw [List.append_assoc]
     refine List.Perm.append_left _ ?_
     have := (HP.out.map (lenM k)).symm
     rw [List.map_cons, HLN.out] at this
     exact this)
    have HXL := Aside0.mk (show xs.length < 1000000 by have := HS2.out.length_eq; simp only [List.length_append, List.length_map, List.length_cons, List.length_nil] at this; have := HQ.out.1; omega)
    have HLT := Aside0.mk hlt
    have HX6 := Aside0.mk (HX.out.grown hg6 HX.out.size (fun j hj => by cases hj; exact HRB.out))
    have HV6 := Aside0.mk (Kd.R_grown HV.out hg6 (fun k_ hk e_ => hk.2 (by injection e_)))
    have HR6 := Aside0.mk hrg6
    have HLE := Aside0.mk hrg.left_eq
    clear hkey hlk hv hat hlt hg6 hs6 ec hz hwc hy hp hpk hpc HS hrg HP hrg6 HX HV hes
    go_wp2_with (first
     | (go_at_call 41; (with_reducible refine (impl_elementsOf.calls k c es _ HES.out).mono ?_); rintro e w7 ⟨v7, rfl, ho7, hb7⟩; obtain ⟨A7, c7, rfl⟩ := Kd.R_slice ho7; have hg7 : w6.grownBy w7 none := ⟨hb7.os, hb7.tape, hb7.output, hb7.size, fun i hi _ => hb7.block i hi⟩; have HX7 := Aside0.mk (below_step HX6.out hb7); have HV7 := Aside0.mk (Kd.R_below HV6.out hb7); have HR7 := Aside0.mk (HR6.out.kept hg7 (by simp) (by simp)); clear ho7 hb7 hg7 HX6 HV6 HR6 hen)
     | ((with_reducible refine gate_builtin (b := .append) (xs := #[.tmp 16, .tmp 20]) rfl ?_); at_builtin; refine Kd.R_append (Kd.int .i64) (w0 := w) w.heap.size rfl (.tmp 16) (.tmp 20) 31 3 (.int .i64 0) 8 rfl Tryd.underlying31 info3 rfl (by decide) (by omega) u3 xs (es.length : Int) [.int .i64 (es.length : Int)] (fun k_ => k_ ≠ b ∧ k_ ≠ rr) (fun _ => False) rfl rfl ?aP (fun _ hk => hk.elim) ?aF HV7.out HX7.out (below_size HX7.out) ?aL ?_; (case aP => exact rfl); (case aF => exact (fun k_ hk => by have h1 := HR7.out.lt; have h2 := HR7.out.owns.lt; omega)); (case aL => have := HXL.out; omega); intro v8 w8 ho hb hg hat; have HX8 := Aside0.mk hb; have HV8 := Aside0.mk ho; have HR8 := Aside0.mk (HR7.out.kept hg (fun e_ => (HV7.out.1 b e_.symm).1 rfl) (fun e_ => (HV7.out.1 rr e_.symm).2 rfl)); clear ho hb hg hat HX7 HV7 HR7))
    go_roundw
    case rel => exact ⟨_, cnt6, _, HV8, HS2, HR8.out, HX8⟩
    case measure => rw [HR8.out.left_eq, HLE.out]; exact HLT.out
end Go.Proofs.YtecpobpcimehlaaDoor.P

namespace Go.Proofs.YtecpobpcimehlaaDoor.P
open Go.RowKit Go.Proofs.YtecpobpcimehlaaDoorW.PrintWords Go.Proofs.YtecpobpcimehlaaDoorW.PrintLast Go.Proofs.YtecpobpcimehlaaDoorW.PrintMore
attribute [local go_sem] max2_int min2_int max_two min_two max_three min_three max_four min_four   -- for this text's walks alone
set_option linter.unusedVariables false
set_option linter.unusedSimpArgs false
/-! ### impl_excess: function 44 -/
def impl_excess.l0 : Nat → Int → List Int → Int → Int → Option (Int)
 | 0, _, _, _, _ => none
 | k + 1, x3, x7, x8, x9 => if x9 < x8 then (if 0 ≤ x9 then (if x9 < (x7.length : Int) then (impl_excess.l0 k (wrap64 ((wrap64 (x3 + (rd x7 x9))) - 1)) x7 x8 (wrap64 (x9 + 1))) else (none)) else (none)) else (some x3)
def impl_excess.f (k : Nat) (l0 : List (S36)) : Option (Int) := (impl_MeetingRow.f k l0).bind fun t101 => (impl_excess.l0 k 0 t101 (t101.length : Int) 0)
set_option maxHeartbeats 8000000 in
set_option maxRecDepth 100000 in
theorem impl_excess.calls (k : Nat) (A0 : Option Addr) (c0 : Nat) (l0 : List (S36)) (r : Int) (w : World) (hr0 : Kd.C k36 w A0 l0.length l0) (hc0 : l0.length ≤ c0) (h : impl_excess.f k l0 = some r) :
  Calls Tryd.prog 44 #[.slice A0 l0.length c0] w fun e w' => e = .returned (.int .i64 r) ∧ Below w.heap.size w w' := by
 have HR0 := Aside0.mk hr0
 have HC0 := Aside0.mk hc0
 clear hr0 hc0
 have HB := Aside0.mk (Below.refl w.heap.size w)
 have H : ((impl_MeetingRow.f k l0).bind fun t101 => (impl_excess.l0 k 0 t101 (t101.length : Int) 0)) = some r := h
 clear h
 replace H := Option.bind_eq_some_iff.mp H
 obtain ⟨t101, A20, H⟩ := H
 replace H : (impl_excess.l0 k 0 t101 (t101.length : Int) 0) = some r := H
 have A2 := Aside0.mk A20
 clear A20
 have H' := Aside0.mk H
 clear H
 go_enter Tryd.func44, Tryd.ntmps44
 go_wp2_with (first | ((with_reducible refine gate_callee (f := 21) rfl ?_); refine goesL_ (some 7) rfl rfl Tryd.func21 (by kernel_rfl) rfl #[.slice A0 l0.length c0] rfl (by (try simp only [List.map_toArray, List.map_cons, List.map_nil]); first | done | rfl | (simp only [List.length_drop, List.length_take]; rfl)) ?_; (with_reducible refine (impl_MeetingRow.calls k _ _ l0 t101 _ ?side1 ?side2 A2.out).mono ?_); (case side1 => repeat (first | exact HR0.out | (with_reducible refine Kd.C_alloc ?_ _) | (with_reducible refine Kd.C_drewN ?_ _) | (with_reducible refine Kd.C_drew ?_))); (case side2 => exact HC0.out); rintro e w3 ⟨v102, rfl, ho0, hb⟩; refine ⟨_, rfl, ?_⟩; have n0_ := Aside0.mk (Kd.R_lower ho0 (below_size (by repeat (first | (with_reducible first | exact HB.out | apply below_alloc | apply pw_below_drewN | apply below_drew1) | exact HB.out)))); have n1_ := Aside0.mk (below_step (by repeat (first | (with_reducible first | exact HB.out | apply below_alloc | apply pw_below_drewN | apply below_drew1) | exact HB.out)) hb); clear HB; have HO103 := n0_; have HB := n1_; clear n0_ n1_; (try clear hb); (try clear hb2); (try clear hk); (try clear hi); (try clear ho0); obtain ⟨Ao4, co4, eo4⟩ := Kd.R_slice HO103.out; subst eo4))
 go_loopg [3, 9] k (fun kq v3 v9 w' => ∃ (x3_1 : Int) (x9_1 : Int), v3 = .int .i64 x3_1 ∧ v9 = .int .i64 x9_1 ∧ Aside0 (impl_excess.l0 kq x3_1 t101 (t101.length : Int) x9_1 = some r) ∧ Aside0 (kq ≤ k) ∧ Aside0 (Kd.R (Kd.int .i64) 3 w' w.heap.size (fun _ => True) (.slice Ao4 t101.length co4) t101) ∧ Aside0 (Below w.heap.size w w'))
 case atStart => exact ⟨(0), (0), (by first | rfl | (simp; done) | (simp [*]; done)), (by first | rfl | (simp; done) | (simp [*]; done)), H', ⟨Nat.le_refl _⟩, ⟨by (with_reducible repeat (first | apply Kd.R_alloc | apply Kd.R_drewN | apply Kd.R_drew)); exact HO103.out⟩, ⟨by repeat (first | (with_reducible first | exact HB.out | apply below_alloc | apply pw_below_drewN | apply below_drew1) | exact HB.out)⟩⟩
 case round =>
  clear H'
  obtain ⟨x3_1, x9_1, rfl, rfl, HA, HK1, HO_7, HB⟩ := hrel
  cases gk with
  | zero => exact absurd HA.out (by simp [impl_excess.l0])
  | succ k1 =>
   have H := HA.out
   clear HA
   simp only [impl_excess.l0] at H
   by_cases c5 : x9_1 < (t101.length : Int)
   ·rw [if_pos c5] at H
    have c5b0 : decide (x9_1 < (t101.length : Int)) = true := decide_eq_true c5
    clear c5
    by_cases c6 : 0 ≤ x9_1
    ·rw [if_pos c6] at H
     have c6b0 : decide (0 ≤ x9_1) = true := decide_eq_true c6
     clear c6
     by_cases c7 : x9_1 < (t101.length : Int)
     ·rw [if_pos c7] at H
      have c7b0 : decide (x9_1 < (t101.length : Int)) = true := decide_eq_true c7
      clear c7
      have H' := Aside0.mk H
      clear H
      have p104 : 0 ≤ (x9_1 : Int) := of_decide_eq_true (by first | (with_reducible assumption) | assumption)
      have q104 : x9_1 < (t101.length : Int) := of_decide_eq_true (by first | (with_reducible assumption) | assumption)
      obtain ⟨ad104, e104, hx104_0⟩ := Kd.at_int (Kd.R_reads' HO_7.out).2.2 x9_1 p104 q104
      cases e104
      replace p104 := eq_true p104
      replace q104 := eq_true q104
      go_wp2
      go_roundg k1
      case measure => have := HK1.out; omega
      case rel => exact ⟨(wrap64 ((wrap64 (x3_1 + (rd t101 x9_1))) - 1)), (wrap64 (x9_1 + 1)), (by first | rfl | (simp; done) | (simp [*]; done)), (by first | rfl | (simp; done) | (simp [*]; done)), H', ⟨by have := HK1.out; omega⟩, ⟨by (with_reducible repeat (first | apply Kd.R_alloc | apply Kd.R_drewN | apply Kd.R_drew)); exact HO_7.out⟩, ⟨by repeat (first | (with_reducible first | exact HB.out | apply below_alloc | apply pw_below_drewN | apply below_drew1) | exact HB.out)⟩⟩
     ·rw [if_neg c7] at H
      exact absurd H (by simp)
    ·rw [if_neg c6] at H
     exact absurd H (by simp)
   ·rw [if_neg c5] at H
    have c5b0 : decide (x9_1 < (t101.length : Int)) = false := decide_eq_false c5
    clear c5
    obtain rfl := Option.some.inj H
    go_wp2
    go_ret
    exact ⟨by first | rfl | (simp [errW_none, errW_some] <;> rfl) | (simp [*, errW_none, errW_some] <;> rfl), by repeat (first | (with_reducible first | exact HB.out | apply below_alloc | apply pw_below_drewN | apply below_drew1) | exact HB.out)⟩
end Go.Proofs.YtecpobpcimehlaaDoor.P

namespace Go.Proofs.YtecpobpcimehlaaDoor.P
open Go.RowKit Go.Proofs.YtecpobpcimehlaaDoorW.PrintWords Go.Proofs.YtecpobpcimehlaaDoorW.PrintLast Go.Proofs.YtecpobpcimehlaaDoorW.PrintMore
attribute [local go_sem] max2_int min2_int max_two min_two max_three min_three max_four min_four   -- for this text's walks alone
set_option linter.unusedVariables false
set_option linter.unusedSimpArgs false
/-! ### impl_CountRegions: function 23 -/
def impl_CountRegions.f (k : Nat) (l0 : List (S36)) : Option (Int) := (impl_AreLines.f l0).bind fun t101 => (if t101 = true then ((impl_excess.f k l0).bind fun t102 => (some (wrap64 ((wrap64 (1 + (l0.length : Int))) + t102)))) else (some (-1)))
set_option maxHeartbeats 8000000 in
set_option maxRecDepth 100000 in
theorem impl_CountRegions.calls (k : Nat) (A0 : Option Addr) (c0 : Nat) (l0 : List (S36)) (r : Int) (w : World) (hr0 : Kd.C k36 w A0 l0.length l0) (hc0 : l0.length ≤ c0) (h : impl_CountRegions.f k l0 = some r) :
  Calls Tryd.prog 23 #[.slice A0 l0.length c0] w fun e w' => e = .returned (.int .i64 r) ∧ Below w.heap.size w w' := by
 have HR0 := Aside0.mk hr0
 have HC0 := Aside0.mk hc0
 clear hr0 hc0
 have HB := Aside0.mk (Below.refl w.heap.size w)
 have H : ((impl_AreLines.f l0).bind fun t101 => (if t101 = true then ((impl_excess.f k l0).bind fun t102 => (some (wrap64 ((wrap64 (1 + (l0.length : Int))) + t102)))) else (some (-1)))) = some r := h
 clear h
 replace H := Option.bind_eq_some_iff.mp H
 obtain ⟨t101, A20, H⟩ := H
 replace H : (if t101 = true then ((impl_excess.f k l0).bind fun t102 => (some (wrap64 ((wrap64 (1 + (l0.length : Int))) + t102)))) else (some (-1))) = some r := H
 have A2 := Aside0.mk A20
 clear A20
 by_cases c3 : t101 = true
 ·subst c3
  have H1 : ((impl_excess.f k l0).bind fun t102 => (some (wrap64 ((wrap64 (1 + (l0.length : Int))) + t102)))) = some r := by rw [if_pos rfl] at H; exact H
  clear H
  have H := H1
  clear H1
  replace H := Option.bind_eq_some_iff.mp H
  obtain ⟨t102, A40, H⟩ := H
  replace H : (some (wrap64 ((wrap64 (1 + (l0.length : Int))) + t102))) = some r := H
  have A4 := Aside0.mk A40
  clear A40
  obtain rfl := Option.some.inj H
  go_enter Tryd.func23, Tryd.ntmps23
  go_wp2_with (first | ((with_reducible refine gate_callee (f := 18) rfl ?_); refine goesL_ (some 4) rfl rfl Tryd.func18 (by kernel_rfl) rfl #[.slice A0 l0.length c0] rfl (by (try simp only [List.map_toArray, List.map_cons, List.map_nil]); first | done | rfl | (simp only [List.length_drop, List.length_take]; rfl)) ?_; (with_reducible refine (impl_AreLines.calls _ _ l0 true _ ?side1 ?side2 A2.out).mono ?_); (case side1 => repeat (first | exact HR0.out | (with_reducible refine Kd.C_alloc ?_ _) | (with_reducible refine Kd.C_drewN ?_ _) | (with_reducible refine Kd.C_drew ?_))); (case side2 => exact HC0.out); rintro e w5 ⟨rfl, hb⟩; refine ⟨_, rfl, ?_⟩; have n0_ := Aside0.mk (below_step (by repeat (first | (with_reducible first | exact HB.out | apply below_alloc | apply pw_below_drewN | apply below_drew1) | exact HB.out)) hb); clear HB; have HB := n0_; clear n0_; (try clear hb); (try clear hb2); (try clear hk); (try clear hi)) | ((with_reducible refine gate_callee (f := 44) rfl ?_); refine goesL_ (some 10) rfl rfl Tryd.func44 (by kernel_rfl) rfl #[.slice A0 l0.length c0] rfl (by (try simp only [List.map_toArray, List.map_cons, List.map_nil]); first | done | rfl | (simp only [List.length_drop, List.length_take]; rfl)) ?_; (with_reducible refine (impl_excess.calls k _ _ l0 t102 _ ?side1 ?side2 A4.out).mono ?_); (case side1 => repeat (first | exact (Kd.C_below HR0.out HB.out) | (with_reducible refine Kd.C_alloc ?_ _) | (with_reducible refine Kd.C_drewN ?_ _) | (with_reducible refine Kd.C_drew ?_))); (case side2 => exact HC0.out); rintro e w6 ⟨rfl, hb⟩; refine ⟨_, rfl, ?_⟩; have n0_ := Aside0.mk (below_step (by repeat (first | (with_reducible first | exact HB.out | apply below_alloc | apply pw_below_drewN | apply below_drew1) | exact HB.out)) hb); clear HB; have HB := n0_; clear n0_; (try clear hb); (try clear hb2); (try clear hk); (try clear hi)))
  go_ret
  exact ⟨by first | rfl | (simp [errW_none, errW_some] <;> rfl) | (simp [*, errW_none, errW_some] <;> rfl), by repeat (first | (with_reducible first | exact HB.out | apply below_alloc | apply pw_below_drewN | apply below_drew1) | exact HB.out)⟩
 ·replace c3 := Bool.eq_false_iff.mpr c3
  subst c3
  have H1 : (some (-1)) = some r := by rw [if_neg (show ¬ (false = true) by decide)] at H; exact H
  clear H
  have H := H1
  clear H1
  obtain rfl := Option.some.inj H
  go_enter Tryd.func23, Tryd.ntmps23
  go_wp2_with (first | ((with_reducible refine gate_callee (f := 18) rfl ?_); refine goesL_ (some 4) rfl rfl Tryd.func18 (by kernel_rfl) rfl #[.slice A0 l0.length c0] rfl (by (try simp only [List.map_toArray, List.map_cons, List.map_nil]); first | done | rfl | (simp only [List.length_drop, List.length_take]; rfl)) ?_; (with_reducible refine (impl_AreLines.calls _ _ l0 false _ ?side1 ?side2 A2.out).mono ?_); (case side1 => repeat (first | exact HR0.out | (with_reducible refine Kd.C_alloc ?_ _) | (with_reducible refine Kd.C_drewN ?_ _) | (with_reducible refine Kd.C_drew ?_))); (case side2 => exact HC0.out); rintro e w7 ⟨rfl, hb⟩; refine ⟨_, rfl, ?_⟩; have n0_ := Aside0.mk (below_step (by repeat (first | (with_reducible first | exact HB.out | apply below_alloc | apply pw_below_drewN | apply below_drew1) | exact HB.out)) hb); clear HB; have HB := n0_; clear n0_; (try clear hb); (try clear hb2); (try clear hk); (try clear hi)))
  go_ret
  exact ⟨by first | rfl | (simp [errW_none, errW_some] <;> rfl) | (simp [*, errW_none, errW_some] <;> rfl), by repeat (first | (with_reducible first | exact HB.out | apply below_alloc | apply pw_below_drewN | apply below_drew1) | exact HB.out)⟩
end Go.Proofs.YtecpobpcimehlaaDoor.P

namespace Go.Proofs.YtecpobpcimehlaaDoor.P
open Go.RowKit Go.Proofs.YtecpobpcimehlaaDoorW.PrintWords Go.Proofs.YtecpobpcimehlaaDoorW.PrintLast Go.Proofs.YtecpobpcimehlaaDoorW.PrintMore
attribute [local go_sem] max2_int min2_int max_two min_two max_three min_three max_four min_four   -- for this text's walks alone
set_option linter.unusedVariables false
set_option linter.unusedSimpArgs false
/-! ### impl_ParallelClasses_1: function 46 -/
def parW (a b : S36) : Bool := (impl_areParallel.f a.f0 a.f1 a.f2 b.f0 b.f1 b.f2).getD false
theorem par_is (a b : S36) : impl_areParallel.f a.f0 a.f1 a.f2 b.f0 b.f1 b.f2 = some (parW a b) := rfl
set_option maxHeartbeats 400000 in
theorem Par_lit (x y : S36) (B : Nat) (w : World) (hB : B < w.heap.size) (h0 : w.cell? ⟨B, 0, none⟩ = some (.int .i64 x.f0)) (h1 : w.cell? ⟨B, 1, none⟩ = some (.int .i64 x.f1)) (h2 : w.cell? ⟨B, 2, none⟩ = some (.int .i64 x.f2)) :
  Calls Tryd.prog 46 #[.agg #[.int .i64 y.f0, .int .i64 y.f1, .int .i64 y.f2], .pointer (some ⟨B, 0, none⟩)] w fun e w' => e = .returned (.bool (parW x y)) ∧ Below w.heap.size w w' := by
 have hu36 := Tryd.underlying36
 go_enter Tryd.func46, Tryd.ntmps46
 go_wp2_with fail
 (with_reducible refine (impl_areParallel.calls _ _ _ _ _ _ _ _ (par_is x y)).mono ?_); rintro e w1 ⟨rfl, hd⟩
 go_wp2_with fail
 go_ret
 exact ⟨rfl, below_step (by repeat (first | exact Below.refl _ _ | apply below_alloc | apply pw_below_drewN | apply below_drew1)) hd⟩
end Go.Proofs.YtecpobpcimehlaaDoor.P

namespace Go.Proofs.YtecpobpcimehlaaDoor.P
open Go.RowKit Go.Proofs.YtecpobpcimehlaaDoorW.PrintWords Go.Proofs.YtecpobpcimehlaaDoorW.PrintLast Go.Proofs.YtecpobpcimehlaaDoorW.PrintMore
attribute [local go_sem] max2_int min2_int max_two min_two max_three min_three max_four min_four   -- for this text's walks alone
set_option linter.unusedVariables false
set_option linter.unusedSimpArgs false
/-! ### impl_ParallelClasses: function 25 -/
def parN (l : List S36) (i : Nat) : Int := ((l.countP (parW (l.getD i z36)) : Nat) : Int)
def parF (l : List S36) (i : Nat) : Bool := !(l.take i).any (parW (l.getD i z36))
def parsU (l : List S36) (n : Nat) : List Int := ((List.range n).filter (parF l)).map (parN l)
def impl_ParallelClasses.f (l0 : List S36) : Option (List Int) := (impl_AreLines.f l0).bind fun b => if b = true then (if l0.length ≤ 60 then slices_Sort_int_int.f (parsU l0 l0.length) else none) else some []
theorem parsU_len (l : List S36) (n : Nat) : (parsU l n).length ≤ n := by
 unfold parsU
 rw [List.length_map]
 exact Nat.le_trans (List.length_filter_le _ _) (by simp)
theorem parsU_succ (l : List S36) (n : Nat) : parsU l (n + 1) = parsU l n ++ if parF l n = true then [parN l n] else [] := by
 unfold parsU
 rw [List.range_succ, List.filter_append, List.map_append]
 congr 1
 by_cases h : parF l n = true
 ·simp [h]
 ·simp [h]
set_option maxHeartbeats 4000000 in
set_option maxRecDepth 100000 in
theorem impl_ParallelClasses.calls (A0 : Option Addr) (c0 : Nat) (l0 : List S36) (r : List Int) (w : World) (hr0 : Kd.C k36 w A0 l0.length l0) (hc0 : l0.length ≤ c0) (h : impl_ParallelClasses.f l0 = some r) :
  Calls Tryd.prog 25 #[.slice A0 l0.length c0] w fun e w' => ∃ v0_ : Value, e = .returned (v0_) ∧ Kd.R (Kd.int .i64) 3 w' w.heap.size (fun _ => True) v0_ r ∧ Below w.heap.size w w' := by
 have HR := Aside0.mk hr0
 have HC := Aside0.mk hc0
 have HB := Aside0.mk (Below.refl w.heap.size w)
 unfold impl_ParallelClasses.f at h
 obtain ⟨b, hb, h⟩ := Option.bind_eq_some_iff.mp h
 have HA1 := Aside0.mk hb
 clear hr0 hc0 hb
 cases b with
 | false =>
  obtain rfl := Option.some.inj (show some [] = some r from h)
  clear h
  go_enter Tryd.func25, Tryd.ntmps25
  go_wp2_with (first | (go_at_call 18; (with_reducible refine (impl_AreLines.calls A0 c0 l0 false _ (Kd.C_below HR.out HB.out) HC.out HA1.out).mono ?_); rintro e w1 ⟨rfl, hb⟩))
  go_ret
  exact ⟨_, rfl, Kd.R_nil _ _ _ _ _, below_step HB.out hb⟩
 | true =>
  rw [if_pos rfl] at h
  by_cases hg : l0.length ≤ 60
  case neg => rw [if_neg hg] at h; cases h
  rw [if_pos hg] at h
  have HG := Aside0.mk hg
  have HF := Aside0.mk h
  clear h hg
  have hu36 := Tryd.underlying36
  have eg : ∀ (args : Array Value) (w : World), (callFunc 46 args).run Tryd.prog w = .ok (.enter 46 args) w := enters_of Tryd.func46 (by kernel_rfl) rfl
  go_enter Tryd.func25, Tryd.ntmps25
  go_wp2_with (first
    | (go_at_call 18; (with_reducible refine (impl_AreLines.calls A0 c0 l0 true _ (Kd.C_below HR.out HB.out) HC.out HA1.out).mono ?_); rintro e w3 ⟨rfl, hb⟩; have m0_ := Aside0.mk (below_step HB.out hb); clear HB hb; have HB := m0_; clear m0_))
  go_loopg [3, 14] l0.length (fun gg v3 v14 wr => ∃ (kk : Nat), v14 = .int .i64 kk ∧ kk ≤ l0.length ∧ l0.length - kk ≤ gg ∧ Aside0 (Kd.R (Kd.int .i64) 3 wr w.heap.size (fun _ => True) v3 (parsU l0 kk)) ∧ Aside0 (Below w.heap.size w wr))
  case atStart => exact ⟨0, rfl, Nat.zero_le _, by omega, ⟨Kd.R_nil _ _ _ _ _⟩, HB⟩
  case round =>
   clear HB
   obtain ⟨kk, rfl, hkk, hg, HV, HB⟩ := hrel
   have hmax : l0.length ≤ 9223372036854775807 := by have := HG.out; omega
   by_cases hlt : kk < l0.length
   ·have hltz : (kk : Int) < (l0.length : Int) := by omega
    have hkc : kk ≤ c0 := by have := HC.out; omega
    obtain ⟨ad, rfl, hx0, hx1, hx2⟩ := at_T36 (Kd.C_below HR.out HB.out) (kk : Int) (by omega) hltz
    simp only [Int.toNat_natCast] at hx0 hx1 hx2
    have hrdk : rd_T36 l0 (kk : Int) = l0.getD kk z36 := rfl
    generalize hy : rd_T36 l0 (kk : Int) = y at hx0 hx1 hx2 hrdk
    have HY := Aside0.mk hrdk
    clear hrdk hy
    go_wp2_with fail
    have HGA := Aside0.mk (show (wr.alloc (.cells #[.int .i64 y.f0, .int .i64 y.f1, .int .i64 y.f2] 36)).heap[wr.heap.size]? = some (.cells #[.int .i64 y.f0, .int .i64 y.f1, .int .i64 y.f2] 36 (0, 0)) from heap_alloc_new _ _)
    have HV1 := Aside0.mk (show Kd.R (Kd.int .i64) 3 (wr.alloc (.cells #[.int .i64 y.f0, .int .i64 y.f1, .int .i64 y.f2] 36)) w.heap.size (fun k_ => k_ ≠ wr.heap.size) u3 (parsU l0 kk) from Kd.R_alloc (Kd.R_mono (Kd.R_bound HV.out) (fun k_ hk_ => Nat.ne_of_lt hk_.2.2.1)) _)
    have HB1 := Aside0.mk (below_alloc HB.out (.cells #[.int .i64 y.f0, .int .i64 y.f1, .int .i64 y.f2] 36))
    have hbl := below_size HB.out
    generalize hga : wr.heap.size = ga at HGA HV1 hbl ⊢
    have HBL := Aside0.mk hbl
    clear HV HB hx0 hx1 hx2 hga hbl
    generalize wr.alloc (.cells #[.int .i64 y.f0, .int .i64 y.f1, .int .i64 y.f2] 36) = w1 at HGA HV1 HB1 ⊢
    go_loopg [6, 21] l0.length (fun gq v6 v21 wi => ∃ (jj : Nat), v21 = .int .i64 jj ∧ v6 = .int .i64 ((((l0.take jj).countP (parW y) : Nat) : Int)) ∧ jj ≤ l0.length ∧ l0.length - jj ≤ gq ∧ Aside0 (Kd.R (Kd.int .i64) 3 wi w.heap.size (fun k_ => k_ ≠ ga) u3 (parsU l0 kk)) ∧ Aside0 (Below w.heap.size w wi) ∧ Aside0 (wi.heap[ga]? = some (.cells #[.int .i64 y.f0, .int .i64 y.f1, .int .i64 y.f2] 36 (0, 0))))
    case atStart => exact ⟨0, rfl, rfl, Nat.zero_le _, by omega, HV1, HB1, HGA⟩
    case round =>
     clear HV1 HB1 HGA
     obtain ⟨jj, rfl, rfl, hjj, hgj, HV, HB, HGA⟩ := hrel
     by_cases hjlt : jj < l0.length
     ·have hjltz : (jj : Int) < (l0.length : Int) := by omega
      obtain ⟨ad', e', hx0, hx1, hx2⟩ := at_T36 (Kd.C_below HR.out HB.out) (jj : Int) (by omega) hjltz
      cases e'
      simp only [Int.toNat_natCast] at hx0 hx1 hx2
      have hrdz : rd_T36 l0 (jj : Int) = l0.getD jj z36 := rfl
      generalize hz : rd_T36 l0 (jj : Int) = z at hx0 hx1 hx2 hrdz
      have HZ := Aside0.mk (show (((l0.take (jj + 1)).countP (parW y) : Nat) : Int) = (((l0.take jj).countP (parW y) : Nat) : Int) + if parW y z = true then 1 else 0 by
       rw [List.take_succ_eq_append_getElem hjlt, List.countP_append, hrdz, List.getD_eq_getElem?_getD, List.getElem?_eq_getElem hjlt, Option.getD_some]
       by_cases hq : parW y l0[jj] = true
       ·simp [hq]
       ·simp [hq])
      have HN := Aside0.mk (show (0 : Int) ≤ (((l0.take jj).countP (parW y) : Nat) : Int) ∧ (((l0.take jj).countP (parW y) : Nat) : Int) ≤ 60 by
       have h1 : (l0.take jj).countP (parW y) ≤ (l0.take jj).length := List.countP_le_length
       have h2 : (l0.take jj).length ≤ l0.length := by rw [List.length_take]; omega
       have := HG.out; omega)
      clear hrdz hz
      generalize (((l0.take jj).countP (parW y) : Nat) : Int) = nn at HZ HN ⊢
      have hy0 : wr.cell? ⟨ga, 0, none⟩ = some (.int .i64 y.f0) := by simp [World.cell?, HGA.out]
      have hy1 : wr.cell? ⟨ga, 1, none⟩ = some (.int .i64 y.f1) := by simp [World.cell?, HGA.out]
      have hy2 : wr.cell? ⟨ga, 2, none⟩ = some (.int .i64 y.f2) := by simp [World.cell?, HGA.out]
      have hgl : ga < wr.heap.size := (Array.getElem?_eq_some_iff.1 HGA.out).1
      have hya0 := ((below_alloc (Below.refl wr.heap.size wr) (.cells #[.int .i64 z.f0, .int .i64 z.f1, .int .i64 z.f2] 36)).cell (p := ⟨ga, 0, none⟩) hgl).trans hy0
      have hya1 := ((below_alloc (Below.refl wr.heap.size wr) (.cells #[.int .i64 z.f0, .int .i64 z.f1, .int .i64 z.f2] 36)).cell (p := ⟨ga, 1, none⟩) hgl).trans hy1
      have hya2 := ((below_alloc (Below.refl wr.heap.size wr) (.cells #[.int .i64 z.f0, .int .i64 z.f1, .int .i64 z.f2] 36)).cell (p := ⟨ga, 2, none⟩) hgl).trans hy2
      clear hy0 hy1 hy2
      go_wp2_with fail
      (with_reducible refine (impl_areParallel.calls _ _ _ _ _ _ _ _ (par_is y z)).mono ?_)
      rintro e w2 ⟨rfl, hb2⟩
      have HB2 := Aside0.mk (below_step (below_alloc HB.out _) hb2)
      have hb3 : Below wr.heap.size wr w2 := below_step (below_alloc (Below.refl _ _) _) hb2
      have HGA2 := Aside0.mk ((hb3.block ga hgl).trans HGA.out)
      have HV2 := Aside0.mk (Kd.R_below HV.out hb3)
      clear hb2 hb3 hya0 hya1 hya2 hx0 hx1 hx2 hgl HV HB HGA
      cases hq : parW y z with
      | true =>
       have HZ2 := Aside0.mk (show (((l0.take (jj + 1)).countP (parW y) : Nat) : Int) = nn + 1 by rw [HZ.out, hq]; rfl)
       have HW := Aside0.mk (show wrap64 (nn + 1) = nn + 1 by have := HN.out; unfold wrap64; omega)
       clear hq HZ
       go_wp2
       go_roundg (l0.length - (jj + 1))
       case measure => omega
       case rel => exact ⟨jj + 1, by go_num, by rw [HZ2.out]; simp [HW.out], by omega, by omega, HV2, HB2, HGA2⟩
      | false =>
       have HZ2 := Aside0.mk (show (((l0.take (jj + 1)).countP (parW y) : Nat) : Int) = nn by rw [HZ.out, hq]; exact Int.add_zero _)
       clear hq HZ
       go_wp2
       go_roundg (l0.length - (jj + 1))
       case measure => omega
       case rel => exact ⟨jj + 1, by go_num, by rw [HZ2.out], by omega, by omega, HV2, HB2, HGA2⟩
     ·have hjltz : ¬ (jj : Int) < (l0.length : Int) := by omega
      have hje : jj = l0.length := by omega
      have HN := Aside0.mk (show ((((l0.take jj).countP (parW y) : Nat) : Int)) = parN l0 kk by rw [hje, List.take_length, HY.out]; rfl)
      generalize (((l0.take jj).countP (parW y) : Nat) : Int) = nn at HN ⊢
      clear hje
      go_wp2_with fail
      cases hs : (l0.take kk).any (parW y) with
      | true =>
       have HS := Aside0.mk hs
       clear hs
       (with_reducible refine (containsLine_calls' 46 _ eg (parW y) (some ad) c0 (l0.take kk) kk _ (by rw [List.length_take]; omega) ?s1 ?s2 ?s3).mono ?_)
       case s1 => exact Kd.C_below (Kd.C_take HR.out (by omega)) HB.out
       case s2 => rw [List.length_take]; omega
       case s3 =>
        intro W x hb
        have hgl : ga < wr.heap.size := (Array.getElem?_eq_some_iff.1 HGA.out).1
        have hlw : ga < W.heap.size := Nat.lt_of_lt_of_le hgl hb.size
        exact Par_lit y x ga W hlw ((hb.cell (p := ⟨ga, 0, none⟩) hgl).trans (by simp [World.cell?, HGA.out])) ((hb.cell (p := ⟨ga, 1, none⟩) hgl).trans (by simp [World.cell?, HGA.out])) ((hb.cell (p := ⟨ga, 2, none⟩) hgl).trans (by simp [World.cell?, HGA.out]))
       rintro e w2 ⟨rfl, hb2⟩
       rw [HS.out]
       have HP := Aside0.mk (show parF l0 kk = false by unfold parF; rw [← HY.out, HS.out]; rfl)
       have HU := Aside0.mk (show parsU l0 (kk + 1) = parsU l0 kk by rw [parsU_succ, HP.out]; simp)
       have HB2 := Aside0.mk (below_step HB.out hb2)
       have HV2 := Aside0.mk (Kd.R_mono (Kd.R_below HV.out hb2) (fun _ _ => trivial))
       clear hb2 HB HV HGA
       go_wp2_with fail
       go_roundg (l0.length - (kk + 1))
       case measure => omega
       case rel => exact ⟨kk + 1, by go_num, by omega, by omega, by rw [HU.out]; exact HV2, HB2⟩
      | false =>
       have HS := Aside0.mk hs
       clear hs
       (with_reducible refine (containsLine_calls' 46 _ eg (parW y) (some ad) c0 (l0.take kk) kk _ (by rw [List.length_take]; omega) ?s1 ?s2 ?s3).mono ?_)
       case s1 => exact Kd.C_below (Kd.C_take HR.out (by omega)) HB.out
       case s2 => rw [List.length_take]; omega
       case s3 =>
        intro W x hb
        have hgl : ga < wr.heap.size := (Array.getElem?_eq_some_iff.1 HGA.out).1
        have hlw : ga < W.heap.size := Nat.lt_of_lt_of_le hgl hb.size
        exact Par_lit y x ga W hlw ((hb.cell (p := ⟨ga, 0, none⟩) hgl).trans (by simp [World.cell?, HGA.out])) ((hb.cell (p := ⟨ga, 1, none⟩) hgl).trans (by simp [World.cell?, HGA.out])) ((hb.cell (p := ⟨ga, 2, none⟩) hgl).trans (by simp [World.cell?, HGA.out]))
       rintro e w2 ⟨rfl, hb2⟩
       rw [HS.out]
       have HP := Aside0.mk (show parF l0 kk = true by unfold parF; rw [← HY.out, HS.out]; rfl)
       have HU := Aside0.mk (show parsU l0 (kk + 1) = parsU l0 kk ++ [nn] by rw [parsU_succ, HP.out, HN.out]; simp)
       have HXL := Aside0.mk (show (parsU l0 kk).length < 17592186044416 by have := parsU_len l0 kk; have := HG.out; omega)
       have HB2 := Aside0.mk (below_step HB.out hb2)
       have HV2 := Aside0.mk (Kd.R_mono (Kd.R_below HV.out hb2) (ok' := fun _ => True) (fun _ _ => trivial))
       clear hb2 HB HV HGA
       go_wp2_with (first | ((with_reducible refine gate_builtin (b := .append) (xs := #[.tmp 37, .tmp 39]) rfl ?_); at_builtin; refine Kd.R_append (Kd.int .i64) (w0 := w) w.heap.size rfl (.tmp 37) (.tmp 39) 31 3 (.int .i64 0) 8 rfl Tryd.underlying31 info3 rfl (by decide) (by omega) u3 (parsU l0 kk) nn [.int .i64 nn] (fun _ => True) (fun _ => False) rfl rfl ?aP (fun _ hk => hk.elim) ?aF HV2.out HB2.out (below_size HB2.out) ?aL ?_; (case aP => exact rfl); (case aF => exact (fun _ _ => trivial)); (case aL => have := HXL.out; omega); intro v8 w8 ho hb hg hat; have HB3 := Aside0.mk hb; have HV3 := Aside0.mk ho; clear ho hb hg hat HV2 HB2))
       go_roundg (l0.length - (kk + 1))
       case measure => omega
       case rel => exact ⟨kk + 1, by go_num, by omega, by omega, by rw [HU.out]; exact HV3, HB3⟩
   ·have hltz : ¬ (kk : Int) < (l0.length : Int) := by omega
    have hke : kk = l0.length := by omega
    have HV2 := Aside0.mk (show Kd.R (Kd.int .i64) 3 wr w.heap.size (fun _ => True) u3 (parsU l0 l0.length) by rw [hke] at HV; exact HV.out)
    clear hke HV
    go_wp2_with (first | (go_at_call 42; (with_reducible refine (slices_Sort_int_int.calls (fun _ => True) _ (parsU l0 l0.length) r w _ HB.out HV2.out HF.out).mono ?_); rintro e w8 ⟨rfl, ho8, hb8, hk8⟩; have HV8 := Aside0.mk ho8; have HX8 := Aside0.mk hb8; clear ho8 hb8 hk8))
    go_ret
    exact ⟨_, rfl, Kd.R_mono HV8.out (fun _ _ => trivial), HX8.out⟩
end Go.Proofs.YtecpobpcimehlaaDoor.P

namespace Go.Proofs.YtecpobpcimehlaaDoor.P
open Go.RowKit Go.Proofs.YtecpobpcimehlaaDoorW.PrintWords Go.Proofs.YtecpobpcimehlaaDoorW.PrintLast Go.Proofs.YtecpobpcimehlaaDoorW.PrintMore
attribute [local go_sem] max2_int min2_int max_two min_two max_three min_three max_four min_four   -- for this text's walks alone
set_option linter.unusedVariables false
set_option linter.unusedSimpArgs false
/-! ### impl_CountBounded: function 24 -/
def impl_CountBounded.f (k : Nat) (l0 : List (S36)) : Option (Int) := (impl_AreLines.f l0).bind fun t101 => (if t101 = true then ((impl_ParallelClasses.f l0).bind fun t102 => (if (t102.length : Int) = 1 then (some 0) else ((impl_CountRegions.f k l0).bind fun t105 => (some (wrap64 (t105 - (wrap64 (2 * (l0.length : Int))))))))) else (some (-1)))
set_option maxHeartbeats 8000000 in
set_option maxRecDepth 100000 in
theorem impl_CountBounded.calls (k : Nat) (A0 : Option Addr) (c0 : Nat) (l0 : List (S36)) (r : Int) (w : World) (hr0 : Kd.C k36 w A0 l0.length l0) (hc0 : l0.length ≤ c0) (h : impl_CountBounded.f k l0 = some r) :
  Calls Tryd.prog 24 #[.slice A0 l0.length c0] w fun e w' => e = .returned (.int .i64 r) ∧ Below w.heap.size w w' := by
 have HR0 := Aside0.mk hr0
 have HC0 := Aside0.mk hc0
 clear hr0 hc0
 have HB := Aside0.mk (Below.refl w.heap.size w)
 have H : ((impl_AreLines.f l0).bind fun t101 => (if t101 = true then ((impl_ParallelClasses.f l0).bind fun t102 => (if (t102.length : Int) = 1 then (some 0) else ((impl_CountRegions.f k l0).bind fun t105 => (some (wrap64 (t105 - (wrap64 (2 * (l0.length : Int))))))))) else (some (-1)))) = some r := h
 clear h
 replace H := Option.bind_eq_some_iff.mp H
 obtain ⟨t101, A20, H⟩ := H
 replace H : (if t101 = true then ((impl_ParallelClasses.f l0).bind fun t102 => (if (t102.length : Int) = 1 then (some 0) else ((impl_CountRegions.f k l0).bind fun t105 => (some (wrap64 (t105 - (wrap64 (2 * (l0.length : Int))))))))) else (some (-1))) = some r := H
 have A2 := Aside0.mk A20
 clear A20
 by_cases c3 : t101 = true
 ·subst c3
  have H1 : ((impl_ParallelClasses.f l0).bind fun t102 => (if (t102.length : Int) = 1 then (some 0) else ((impl_CountRegions.f k l0).bind fun t105 => (some (wrap64 (t105 - (wrap64 (2 * (l0.length : Int))))))))) = some r := by rw [if_pos rfl] at H; exact H
  clear H
  have H := H1
  clear H1
  replace H := Option.bind_eq_some_iff.mp H
  obtain ⟨t102, A40, H⟩ := H
  replace H : (if (t102.length : Int) = 1 then (some 0) else ((impl_CountRegions.f k l0).bind fun t105 => (some (wrap64 (t105 - (wrap64 (2 * (l0.length : Int)))))))) = some r := H
  have A4 := Aside0.mk A40
  clear A40
  by_cases c5 : (t102.length : Int) = 1
  ·rw [if_pos c5] at H
   have c5b0 : ((t102.length : Int) == 1) = true := beq_iff_eq.mpr c5
   have c5b1 : ((t102.length : Int) != 1) = false := bne_eq_false_iff_eq.mpr c5
   clear c5
   obtain rfl := Option.some.inj H
   go_enter Tryd.func24, Tryd.ntmps24
   go_wp2_with (first | ((with_reducible refine gate_callee (f := 18) rfl ?_); refine goesL_ (some 4) rfl rfl Tryd.func18 (by kernel_rfl) rfl #[.slice A0 l0.length c0] rfl (by (try simp only [List.map_toArray, List.map_cons, List.map_nil]); first | done | rfl | (simp only [List.length_drop, List.length_take]; rfl)) ?_; (with_reducible refine (impl_AreLines.calls _ _ l0 true _ ?side1 ?side2 A2.out).mono ?_); (case side1 => repeat (first | exact HR0.out | (with_reducible refine Kd.C_alloc ?_ _) | (with_reducible refine Kd.C_drewN ?_ _) | (with_reducible refine Kd.C_drew ?_))); (case side2 => exact HC0.out); rintro e w6 ⟨rfl, hb⟩; refine ⟨_, rfl, ?_⟩; have n0_ := Aside0.mk (below_step (by repeat (first | (with_reducible first | exact HB.out | apply below_alloc | apply pw_below_drewN | apply below_drew1) | exact HB.out)) hb); clear HB; have HB := n0_; clear n0_; (try clear hb); (try clear hb2); (try clear hk); (try clear hi)) | ((with_reducible refine gate_callee (f := 25) rfl ?_); refine goesL_ (some 7) rfl rfl Tryd.func25 (by kernel_rfl) rfl #[.slice A0 l0.length c0] rfl (by (try simp only [List.map_toArray, List.map_cons, List.map_nil]); first | done | rfl | (simp only [List.length_drop, List.length_take]; rfl)) ?_; (with_reducible refine (impl_ParallelClasses.calls _ _ l0 t102 _ ?side1 ?side2 A4.out).mono ?_); (case side1 => repeat (first | exact (Kd.C_below HR0.out HB.out) | (with_reducible refine Kd.C_alloc ?_ _) | (with_reducible refine Kd.C_drewN ?_ _) | (with_reducible refine Kd.C_drew ?_))); (case side2 => exact HC0.out); rintro e w7 ⟨v103, rfl, ho0, hb⟩; refine ⟨_, rfl, ?_⟩; have n0_ := Aside0.mk (Kd.R_lower ho0 (below_size (by repeat (first | (with_reducible first | exact HB.out | apply below_alloc | apply pw_below_drewN | apply below_drew1) | exact HB.out)))); have n1_ := Aside0.mk (below_step (by repeat (first | (with_reducible first | exact HB.out | apply below_alloc | apply pw_below_drewN | apply below_drew1) | exact HB.out)) hb); clear HB; have HO104 := n0_; have HB := n1_; clear n0_ n1_; (try clear hb); (try clear hb2); (try clear hk); (try clear hi); (try clear ho0); obtain ⟨Ao8, co8, eo8⟩ := Kd.R_slice HO104.out; subst eo8))
   go_ret
   exact ⟨by first | rfl | (simp [errW_none, errW_some] <;> rfl) | (simp [*, errW_none, errW_some] <;> rfl), by repeat (first | (with_reducible first | exact HB.out | apply below_alloc | apply pw_below_drewN | apply below_drew1) | exact HB.out)⟩
  ·rw [if_neg c5] at H
   have c5b0 : ((t102.length : Int) == 1) = false := beq_eq_false_iff_ne.mpr c5
   have c5b1 : ((t102.length : Int) != 1) = true := bne_iff_ne.mpr c5
   replace H := Option.bind_eq_some_iff.mp H
   obtain ⟨t105, A90, H⟩ := H
   replace H : (some (wrap64 (t105 - (wrap64 (2 * (l0.length : Int)))))) = some r := H
   have A9 := Aside0.mk A90
   clear A90
   obtain rfl := Option.some.inj H
   go_enter Tryd.func24, Tryd.ntmps24
   go_wp2_with (first | ((with_reducible refine gate_callee (f := 18) rfl ?_); refine goesL_ (some 4) rfl rfl Tryd.func18 (by kernel_rfl) rfl #[.slice A0 l0.length c0] rfl (by (try simp only [List.map_toArray, List.map_cons, List.map_nil]); first | done | rfl | (simp only [List.length_drop, List.length_take]; rfl)) ?_; (with_reducible refine (impl_AreLines.calls _ _ l0 true _ ?side1 ?side2 A2.out).mono ?_); (case side1 => repeat (first | exact HR0.out | (with_reducible refine Kd.C_alloc ?_ _) | (with_reducible refine Kd.C_drewN ?_ _) | (with_reducible refine Kd.C_drew ?_))); (case side2 => exact HC0.out); rintro e w10 ⟨rfl, hb⟩; refine ⟨_, rfl, ?_⟩; have n0_ := Aside0.mk (below_step (by repeat (first | (with_reducible first | exact HB.out | apply below_alloc | apply pw_below_drewN | apply below_drew1) | exact HB.out)) hb); clear HB; have HB := n0_; clear n0_; (try clear hb); (try clear hb2); (try clear hk); (try clear hi)) | ((with_reducible refine gate_callee (f := 25) rfl ?_); refine goesL_ (some 7) rfl rfl Tryd.func25 (by kernel_rfl) rfl #[.slice A0 l0.length c0] rfl (by (try simp only [List.map_toArray, List.map_cons, List.map_nil]); first | done | rfl | (simp only [List.length_drop, List.length_take]; rfl)) ?_; (with_reducible refine (impl_ParallelClasses.calls _ _ l0 t102 _ ?side1 ?side2 A4.out).mono ?_); (case side1 => repeat (first | exact (Kd.C_below HR0.out HB.out) | (with_reducible refine Kd.C_alloc ?_ _) | (with_reducible refine Kd.C_drewN ?_ _) | (with_reducible refine Kd.C_drew ?_))); (case side2 => exact HC0.out); rintro e w11 ⟨v103, rfl, ho0, hb⟩; refine ⟨_, rfl, ?_⟩; have n0_ := Aside0.mk (Kd.R_lower ho0 (below_size (by repeat (first | (with_reducible first | exact HB.out | apply below_alloc | apply pw_below_drewN | apply below_drew1) | exact HB.out)))); have n1_ := Aside0.mk (below_step (by repeat (first | (with_reducible first | exact HB.out | apply below_alloc | apply pw_below_drewN | apply below_drew1) | exact HB.out)) hb); clear HB; have HO104 := n0_; have HB := n1_; clear n0_ n1_; (try clear hb); (try clear hb2); (try clear hk); (try clear hi); (try clear ho0); obtain ⟨Ao12, co12, eo12⟩ := Kd.R_slice HO104.out; subst eo12) | ((with_reducible refine gate_callee (f := 23) rfl ?_); refine goesL_ (some 11) rfl rfl Tryd.func23 (by kernel_rfl) rfl #[.slice A0 l0.length c0] rfl (by (try simp only [List.map_toArray, List.map_cons, List.map_nil]); first | done | rfl | (simp only [List.length_drop, List.length_take]; rfl)) ?_; (with_reducible refine (impl_CountRegions.calls k _ _ l0 t105 _ ?side1 ?side2 A9.out).mono ?_); (case side1 => repeat (first | exact (Kd.C_below HR0.out HB.out) | (with_reducible refine Kd.C_alloc ?_ _) | (with_reducible refine Kd.C_drewN ?_ _) | (with_reducible refine Kd.C_drew ?_))); (case side2 => exact HC0.out); rintro e w13 ⟨rfl, hb⟩; refine ⟨_, rfl, ?_⟩; have n0_ := Aside0.mk (Kd.R_below (by (with_reducible repeat (first | apply Kd.R_alloc | apply Kd.R_drewN | apply Kd.R_drew)); exact HO104.out) hb); have n1_ := Aside0.mk (below_step (by repeat (first | (with_reducible first | exact HB.out | apply below_alloc | apply pw_below_drewN | apply below_drew1) | exact HB.out)) hb); clear HO104; clear HB; have HO104 := n0_; have HB := n1_; clear n0_ n1_; (try clear hb); (try clear hb2); (try clear hk); (try clear hi)))
   go_ret
   exact ⟨by first | rfl | (simp [errW_none, errW_some] <;> rfl) | (simp [*, errW_none, errW_some] <;> rfl), by repeat (first | (with_reducible first | exact HB.out | apply below_alloc | apply pw_below_drewN | apply below_drew1) | exact HB.out)⟩
 ·replace c3 := Bool.eq_false_iff.mpr c3
  subst c3
  have H1 : (some (-1)) = some r := by rw [if_neg (show ¬ (false = true) by decide)] at H; exact H
  clear H
  have H := H1
  clear H1
  obtain rfl := Option.some.inj H
  go_enter Tryd.func24, Tryd.ntmps24
  go_wp2_with (first | ((with_reducible refine gate_callee (f := 18) rfl ?_); refine goesL_ (some 4) rfl rfl Tryd.func18 (by kernel_rfl) rfl #[.slice A0 l0.length c0] rfl (by (try simp only [List.map_toArray, List.map_cons, List.map_nil]); first | done | rfl | (simp only [List.length_drop, List.length_take]; rfl)) ?_; (with_reducible refine (impl_AreLines.calls _ _ l0 false _ ?side1 ?side2 A2.out).mono ?_); (case side1 => repeat (first | exact HR0.out | (with_reducible refine Kd.C_alloc ?_ _) | (with_reducible refine Kd.C_drewN ?_ _) | (with_reducible refine Kd.C_drew ?_))); (case side2 => exact HC0.out); rintro e w14 ⟨rfl, hb⟩; refine ⟨_, rfl, ?_⟩; have n0_ := Aside0.mk (below_step (by repeat (first | (with_reducible first | exact HB.out | apply below_alloc | apply pw_below_drewN | apply below_drew1) | exact HB.out)) hb); clear HB; have HB := n0_; clear n0_; (try clear hb); (try clear hb2); (try clear hk); (try clear hi)))
  go_ret
  exact ⟨by first | rfl | (simp [errW_none, errW_some] <;> rfl) | (simp [*, errW_none, errW_some] <;> rfl), by repeat (first | (with_reducible first | exact HB.out | apply below_alloc | apply pw_below_drewN | apply below_drew1) | exact HB.out)⟩
end Go.Proofs.YtecpobpcimehlaaDoor.P

namespace Go.Proofs.YtecpobpcimehlaaDoor.P
open Go.RowKit Go.Proofs.YtecpobpcimehlaaDoorW.PrintWords Go.Proofs.YtecpobpcimehlaaDoorW.PrintLast Go.Proofs.YtecpobpcimehlaaDoorW.PrintMore
attribute [local go_sem] max2_int min2_int max_two min_two max_three min_three max_four min_four   -- for this text's walks alone
set_option linter.unusedVariables false
set_option linter.unusedSimpArgs false
/-! ### impl_LinePoly: function 26 -/
def impl_LinePoly.f (k : Nat) (l0 : List (S36)) : Option (List Int) := (impl_AreLines.f l0).bind fun t101 => (if t101 = true then ((impl_excess.f k l0).bind fun t102 => (some (([t102, wrap64 (-(l0.length : Int)), 1] : List Int)))) else (some ([] : List Int)))
set_option maxHeartbeats 8000000 in
set_option maxRecDepth 100000 in
theorem impl_LinePoly.calls (k : Nat) (A0 : Option Addr) (c0 : Nat) (l0 : List (S36)) (r : List Int) (w : World) (hr0 : Kd.C k36 w A0 l0.length l0) (hc0 : l0.length ≤ c0) (h : impl_LinePoly.f k l0 = some r) :
  Calls Tryd.prog 26 #[.slice A0 l0.length c0] w fun e w' => ∃ v0_ : Value, e = .returned (v0_) ∧ Kd.R (Kd.int .i64) 3 w' w.heap.size (fun _ => True) v0_ r ∧ Below w.heap.size w w' := by
 have HR0 := Aside0.mk hr0
 have HC0 := Aside0.mk hc0
 clear hr0 hc0
 have HB := Aside0.mk (Below.refl w.heap.size w)
 have H : ((impl_AreLines.f l0).bind fun t101 => (if t101 = true then ((impl_excess.f k l0).bind fun t102 => (some (([t102, wrap64 (-(l0.length : Int)), 1] : List Int)))) else (some ([] : List Int)))) = some r := h
 clear h
 replace H := Option.bind_eq_some_iff.mp H
 obtain ⟨t101, A20, H⟩ := H
 replace H : (if t101 = true then ((impl_excess.f k l0).bind fun t102 => (some (([t102, wrap64 (-(l0.length : Int)), 1] : List Int)))) else (some ([] : List Int))) = some r := H
 have A2 := Aside0.mk A20
 clear A20
 by_cases c3 : t101 = true
 ·subst c3
  have H1 : ((impl_excess.f k l0).bind fun t102 => (some (([t102, wrap64 (-(l0.length : Int)), 1] : List Int)))) = some r := by rw [if_pos rfl] at H; exact H
  clear H
  have H := H1
  clear H1
  replace H := Option.bind_eq_some_iff.mp H
  obtain ⟨t102, A40, H⟩ := H
  replace H : (some (([t102, wrap64 (-(l0.length : Int)), 1] : List Int))) = some r := H
  have A4 := Aside0.mk A40
  clear A40
  obtain ⟨y103, hy103⟩ : ∃ y_ : List Int, y_ = (([t102, wrap64 (-(l0.length : Int)), 1] : List Int)) := ⟨_, rfl⟩
  replace H : (some y103) = some r := by first | (rw [hy103]; with_reducible exact H) | (have H2_ := (Option.bind_some _ _).symm.trans H; rw [hy103]; with_reducible exact H2_) | (have H2_ := (Option.bind_some _ _).symm.trans H; with_reducible exact H2_) | with_reducible exact H | (rw [hy103]; exact H) | exact H
  have Ny103 := Aside0.mk hy103
  clear hy103
  obtain rfl := Option.some.inj H
  go_enter Tryd.func26, Tryd.ntmps26
  go_wp2_with (first | ((with_reducible refine gate_callee (f := 18) rfl ?_); refine goesL_ (some 4) rfl rfl Tryd.func18 (by kernel_rfl) rfl #[.slice A0 l0.length c0] rfl (by (try simp only [List.map_toArray, List.map_cons, List.map_nil]); first | done | rfl | (simp only [List.length_drop, List.length_take]; rfl)) ?_; (with_reducible refine (impl_AreLines.calls _ _ l0 true _ ?side1 ?side2 A2.out).mono ?_); (case side1 => repeat (first | exact HR0.out | (with_reducible refine Kd.C_alloc ?_ _) | (with_reducible refine Kd.C_drewN ?_ _) | (with_reducible refine Kd.C_drew ?_))); (case side2 => exact HC0.out); rintro e w5 ⟨rfl, hb⟩; refine ⟨_, rfl, ?_⟩; have n0_ := Aside0.mk (below_step (by repeat (first | (with_reducible first | exact HB.out | apply below_alloc | apply pw_below_drewN | apply below_drew1) | exact HB.out)) hb); clear HB; have HB := n0_; clear n0_; (try clear hb); (try clear hb2); (try clear hk); (try clear hi)) | ((with_reducible refine gate_callee (f := 44) rfl ?_); refine goesL_ (some 7) rfl rfl Tryd.func44 (by kernel_rfl) rfl #[.slice A0 l0.length c0] rfl (by (try simp only [List.map_toArray, List.map_cons, List.map_nil]); first | done | rfl | (simp only [List.length_drop, List.length_take]; rfl)) ?_; (with_reducible refine (impl_excess.calls k _ _ l0 t102 _ ?side1 ?side2 A4.out).mono ?_); (case side1 => repeat (first | exact (Kd.C_below HR0.out HB.out) | (with_reducible refine Kd.C_alloc ?_ _) | (with_reducible refine Kd.C_drewN ?_ _) | (with_reducible refine Kd.C_drew ?_))); (case side2 => exact HC0.out); rintro e w6 ⟨rfl, hb⟩; refine ⟨_, rfl, ?_⟩; have n0_ := Aside0.mk (below_step (by repeat (first | (with_reducible first | exact HB.out | apply below_alloc | apply pw_below_drewN | apply below_drew1) | exact HB.out)) hb); clear HB; have HB := n0_; clear n0_; (try clear hb); (try clear hb2); (try clear hk); (try clear hi)) | ((with_reducible refine gate_dst (N := 11) rfl ?_); refine Kd.R_lit (Kd.int .i64) _ 3 ?hg (N := 11) ?hd (xs := ([t102, wrap64 (-(l0.length : Int)), 1] : List Int)) (inner := [.int .i64 t102, .int .i64 (wrap64 (-(l0.length : Int))), .int .i64 1]) (ok := fun _ => True) (okp := fun _ => True) ?hr ?hp (fun _ hk => hk) trivial (Below.refl _ _) (Nat.le_refl _) (by simp) ?_; (case hd => rfl); (case hg => rfl); (case hr => first | (go_simp; done) | (go_simp; rfl)); (case hp => exact (Reps.one (show Kd.M (Kd.int .i64) _ _ _ t102 [.int .i64 t102] from rfl) (Reps.one (show Kd.M (Kd.int .i64) _ _ _ (wrap64 (-(l0.length : Int))) [.int .i64 (wrap64 (-(l0.length : Int)))] from rfl) (Reps.one (show Kd.M (Kd.int .i64) _ _ _ 1 [.int .i64 1] from rfl) (Reps.none _ _))))); intro v104 w7 ho8 hb hg_ hnew_; clear hg_ hnew_; (first | rw [← Ny103.out] at ho8 | (simp only [Int.reduceToNat] at ho8; rw [← Ny103.out] at ho8)); have n0_ := Aside0.mk (Kd.R_lower ho8 (below_size (by repeat (first | (with_reducible first | exact HB.out | apply below_alloc | apply pw_below_drewN | apply below_drew1) | exact HB.out)))); have n1_ := Aside0.mk (below_step (by repeat (first | (with_reducible first | exact HB.out | apply below_alloc | apply pw_below_drewN | apply below_drew1) | exact HB.out)) hb); clear HB; have HO105 := n0_; have HB := n1_; clear n0_ n1_; clear hb ho8))
  go_ret
  exact ⟨_, by first | rfl | (simp [errW_none, errW_some] <;> rfl) | (simp [*, errW_none, errW_some] <;> rfl), by (with_reducible repeat (first | apply Kd.R_alloc | apply Kd.R_drewN | apply Kd.R_drew)); exact HO105.out, by repeat (first | (with_reducible first | exact HB.out | apply below_alloc | apply pw_below_drewN | apply below_drew1) | exact HB.out)⟩
 ·replace c3 := Bool.eq_false_iff.mpr c3
  subst c3
  have H1 : (some ([] : List Int)) = some r := by rw [if_neg (show ¬ (false = true) by decide)] at H; exact H
  clear H
  have H := H1
  clear H1
  obtain rfl := Option.some.inj H
  go_enter Tryd.func26, Tryd.ntmps26
  go_wp2_with (first | ((with_reducible refine gate_callee (f := 18) rfl ?_); refine goesL_ (some 4) rfl rfl Tryd.func18 (by kernel_rfl) rfl #[.slice A0 l0.length c0] rfl (by (try simp only [List.map_toArray, List.map_cons, List.map_nil]); first | done | rfl | (simp only [List.length_drop, List.length_take]; rfl)) ?_; (with_reducible refine (impl_AreLines.calls _ _ l0 false _ ?side1 ?side2 A2.out).mono ?_); (case side1 => repeat (first | exact HR0.out | (with_reducible refine Kd.C_alloc ?_ _) | (with_reducible refine Kd.C_drewN ?_ _) | (with_reducible refine Kd.C_drew ?_))); (case side2 => exact HC0.out); rintro e w9 ⟨rfl, hb⟩; refine ⟨_, rfl, ?_⟩; have n0_ := Aside0.mk (below_step (by repeat (first | (with_reducible first | exact HB.out | apply below_alloc | apply pw_below_drewN | apply below_drew1) | exact HB.out)) hb); clear HB; have HB := n0_; clear n0_; (try clear hb); (try clear hb2); (try clear hk); (try clear hi)))
  go_ret
  exact ⟨_, by first | rfl | (simp [errW_none, errW_some] <;> rfl) | (simp [*, errW_none, errW_some] <;> rfl), by first | exact Kd.R_nil _ _ _ _ _ | exact Kd.N_nil _ _ _ _ _ | exact Kd.V_nil _ _ _ _ _ | exact Kd.Q_nil _ _ _ _ _ | exact Kd.S_nil _ _ _ _ _, by repeat (first | (with_reducible first | exact HB.out | apply below_alloc | apply pw_below_drewN | apply below_drew1) | exact HB.out)⟩
end Go.Proofs.YtecpobpcimehlaaDoor.P

namespace Go.Proofs.YtecpobpcimehlaaDoor.P
open Go.RowKit Go.Proofs.YtecpobpcimehlaaDoorW.PrintWords Go.Proofs.YtecpobpcimehlaaDoorW.PrintLast Go.Proofs.YtecpobpcimehlaaDoorW.PrintMore
attribute [local go_sem] max2_int min2_int max_two min_two max_three min_three max_four min_four   -- for this text's walks alone
set_option linter.unusedVariables false
set_option linter.unusedSimpArgs false
/-! ### impl_DescribeLines: function 7 -/
def impl_DescribeLines.f (k : Nat) (l0 : List (S36)) : Option (ByteArray) := (impl_AreLines.f l0).bind fun t101 => (if t101 = true then ((impl_MeetingRow.f k l0).bind fun t102 => ((impl_NumbersText.f k t102).bind fun t105 => ((impl_CountRegions.f k l0).bind fun t106 => ((impl_FormatInt.f t106).bind fun t107 => ((impl_CountBounded.f k l0).bind fun t108 => ((impl_FormatInt.f t108).bind fun t109 => ((impl_ParallelClasses.f l0).bind fun t110 => ((impl_NumbersText.f k t110).bind fun t113 => ((impl_LinePoly.f k l0).bind fun t114 => ((impl_NumbersText.f k t114).bind fun t117 => ((impl_Join.f (([(⟨#[109, 101, 101, 116, 105, 110, 103]⟩ : ByteArray), t105, (⟨#[114, 101, 103, 105, 111, 110, 115]⟩ : ByteArray), t107, (⟨#[98, 111, 117, 110, 100, 101, 100]⟩ : ByteArray), t109, (⟨#[112, 97, 114, 97, 108, 108, 101, 108]⟩ : ByteArray), t113, (⟨#[112, 111, 108, 121]⟩ : ByteArray), t117] : List ByteArray)) (⟨#[32]⟩ : ByteArray)).bind fun t121 => (some t121)))))))))))) else (some (⟨#[]⟩ : ByteArray)))
set_option maxHeartbeats 8000000 in
set_option maxRecDepth 100000 in
theorem impl_DescribeLines.calls (k : Nat) (A0 : Option Addr) (c0 : Nat) (l0 : List (S36)) (r : ByteArray) (w : World) (hr0 : Kd.C k36 w A0 l0.length l0) (hc0 : l0.length ≤ c0) (h : impl_DescribeLines.f k l0 = some r) (htab_ : Tab w) :
  Calls Tryd.prog 7 #[.slice A0 l0.length c0] w fun e w' => e = .returned (.string r) ∧ Below w.heap.size w w' := by
 have HTAB := Aside0.mk htab_
 clear htab_
 have HR0 := Aside0.mk hr0
 have HC0 := Aside0.mk hc0
 clear hr0 hc0
 have HB := Aside0.mk (Below.refl w.heap.size w)
 have H : ((impl_AreLines.f l0).bind fun t101 => (if t101 = true then ((impl_MeetingRow.f k l0).bind fun t102 => ((impl_NumbersText.f k t102).bind fun t105 => ((impl_CountRegions.f k l0).bind fun t106 => ((impl_FormatInt.f t106).bind fun t107 => ((impl_CountBounded.f k l0).bind fun t108 => ((impl_FormatInt.f t108).bind fun t109 => ((impl_ParallelClasses.f l0).bind fun t110 => ((impl_NumbersText.f k t110).bind fun t113 => ((impl_LinePoly.f k l0).bind fun t114 => ((impl_NumbersText.f k t114).bind fun t117 => ((impl_Join.f (([(⟨#[109, 101, 101, 116, 105, 110, 103]⟩ : ByteArray), t105, (⟨#[114, 101, 103, 105, 111, 110, 115]⟩ : ByteArray), t107, (⟨#[98, 111, 117, 110, 100, 101, 100]⟩ : ByteArray), t109, (⟨#[112, 97, 114, 97, 108, 108, 101, 108]⟩ : ByteArray), t113, (⟨#[112, 111, 108, 121]⟩ : ByteArray), t117] : List ByteArray)) (⟨#[32]⟩ : ByteArray)).bind fun t121 => (some t121)))))))))))) else (some (⟨#[]⟩ : ByteArray)))) = some r := h
 clear h
 replace H := Option.bind_eq_some_iff.mp H
 obtain ⟨t101, A20, H⟩ := H
 replace H : (if t101 = true then ((impl_MeetingRow.f k l0).bind fun t102 => ((impl_NumbersText.f k t102).bind fun t105 => ((impl_CountRegions.f k l0).bind fun t106 => ((impl_FormatInt.f t106).bind fun t107 => ((impl_CountBounded.f k l0).bind fun t108 => ((impl_FormatInt.f t108).bind fun t109 => ((impl_ParallelClasses.f l0).bind fun t110 => ((impl_NumbersText.f k t110).bind fun t113 => ((impl_LinePoly.f k l0).bind fun t114 => ((impl_NumbersText.f k t114).bind fun t117 => ((impl_Join.f (([(⟨#[109, 101, 101, 116, 105, 110, 103]⟩ : ByteArray), t105, (⟨#[114, 101, 103, 105, 111, 110, 115]⟩ : ByteArray), t107, (⟨#[98, 111, 117, 110, 100, 101, 100]⟩ : ByteArray), t109, (⟨#[112, 97, 114, 97, 108, 108, 101, 108]⟩ : ByteArray), t113, (⟨#[112, 111, 108, 121]⟩ : ByteArray), t117] : List ByteArray)) (⟨#[32]⟩ : ByteArray)).bind fun t121 => (some t121)))))))))))) else (some (⟨#[]⟩ : ByteArray))) = some r := H
 have A2 := Aside0.mk A20
 clear A20
 by_cases c3 : t101 = true
 ·subst c3
  have H1 : ((impl_MeetingRow.f k l0).bind fun t102 => ((impl_NumbersText.f k t102).bind fun t105 => ((impl_CountRegions.f k l0).bind fun t106 => ((impl_FormatInt.f t106).bind fun t107 => ((impl_CountBounded.f k l0).bind fun t108 => ((impl_FormatInt.f t108).bind fun t109 => ((impl_ParallelClasses.f l0).bind fun t110 => ((impl_NumbersText.f k t110).bind fun t113 => ((impl_LinePoly.f k l0).bind fun t114 => ((impl_NumbersText.f k t114).bind fun t117 => ((impl_Join.f (([(⟨#[109, 101, 101, 116, 105, 110, 103]⟩ : ByteArray), t105, (⟨#[114, 101, 103, 105, 111, 110, 115]⟩ : ByteArray), t107, (⟨#[98, 111, 117, 110, 100, 101, 100]⟩ : ByteArray), t109, (⟨#[112, 97, 114, 97, 108, 108, 101, 108]⟩ : ByteArray), t113, (⟨#[112, 111, 108, 121]⟩ : ByteArray), t117] : List ByteArray)) (⟨#[32]⟩ : ByteArray)).bind fun t121 => (some t121)))))))))))) = some r := by rw [if_pos rfl] at H; exact H
  clear H
  have H := H1
  clear H1
  replace H := Option.bind_eq_some_iff.mp H
  obtain ⟨t102, A40, H⟩ := H
  replace H : ((impl_NumbersText.f k t102).bind fun t105 => ((impl_CountRegions.f k l0).bind fun t106 => ((impl_FormatInt.f t106).bind fun t107 => ((impl_CountBounded.f k l0).bind fun t108 => ((impl_FormatInt.f t108).bind fun t109 => ((impl_ParallelClasses.f l0).bind fun t110 => ((impl_NumbersText.f k t110).bind fun t113 => ((impl_LinePoly.f k l0).bind fun t114 => ((impl_NumbersText.f k t114).bind fun t117 => ((impl_Join.f (([(⟨#[109, 101, 101, 116, 105, 110, 103]⟩ : ByteArray), t105, (⟨#[114, 101, 103, 105, 111, 110, 115]⟩ : ByteArray), t107, (⟨#[98, 111, 117, 110, 100, 101, 100]⟩ : ByteArray), t109, (⟨#[112, 97, 114, 97, 108, 108, 101, 108]⟩ : ByteArray), t113, (⟨#[112, 111, 108, 121]⟩ : ByteArray), t117] : List ByteArray)) (⟨#[32]⟩ : ByteArray)).bind fun t121 => (some t121))))))))))) = some r := H
  have A4 := Aside0.mk A40
  clear A40
  replace H := Option.bind_eq_some_iff.mp H
  obtain ⟨t105, A50, H⟩ := H
  replace H : ((impl_CountRegions.f k l0).bind fun t106 => ((impl_FormatInt.f t106).bind fun t107 => ((impl_CountBounded.f k l0).bind fun t108 => ((impl_FormatInt.f t108).bind fun t109 => ((impl_ParallelClasses.f l0).bind fun t110 => ((impl_NumbersText.f k t110).bind fun t113 => ((impl_LinePoly.f k l0).bind fun t114 => ((impl_NumbersText.f k t114).bind fun t117 => ((impl_Join.f (([(⟨#[109, 101, 101, 116, 105, 110, 103]⟩ : ByteArray), t105, (⟨#[114, 101, 103, 105, 111, 110, 115]⟩ : ByteArray), t107, (⟨#[98, 111, 117, 110, 100, 101, 100]⟩ : ByteArray), t109, (⟨#[112, 97, 114, 97, 108, 108, 101, 108]⟩ : ByteArray), t113, (⟨#[112, 111, 108, 121]⟩ : ByteArray), t117] : List ByteArray)) (⟨#[32]⟩ : ByteArray)).bind fun t121 => (some t121)))))))))) = some r := H
  have A5 := Aside0.mk A50
  clear A50
  replace H := Option.bind_eq_some_iff.mp H
  obtain ⟨t106, A60, H⟩ := H
  replace H : ((impl_FormatInt.f t106).bind fun t107 => ((impl_CountBounded.f k l0).bind fun t108 => ((impl_FormatInt.f t108).bind fun t109 => ((impl_ParallelClasses.f l0).bind fun t110 => ((impl_NumbersText.f k t110).bind fun t113 => ((impl_LinePoly.f k l0).bind fun t114 => ((impl_NumbersText.f k t114).bind fun t117 => ((impl_Join.f (([(⟨#[109, 101, 101, 116, 105, 110, 103]⟩ : ByteArray), t105, (⟨#[114, 101, 103, 105, 111, 110, 115]⟩ : ByteArray), t107, (⟨#[98, 111, 117, 110, 100, 101, 100]⟩ : ByteArray), t109, (⟨#[112, 97, 114, 97, 108, 108, 101, 108]⟩ : ByteArray), t113, (⟨#[112, 111, 108, 121]⟩ : ByteArray), t117] : List ByteArray)) (⟨#[32]⟩ : ByteArray)).bind fun t121 => (some t121))))))))) = some r := H
  have A6 := Aside0.mk A60
  clear A60
  replace H := Option.bind_eq_some_iff.mp H
  obtain ⟨t107, A70, H⟩ := H
  replace H : ((impl_CountBounded.f k l0).bind fun t108 => ((impl_FormatInt.f t108).bind fun t109 => ((impl_ParallelClasses.f l0).bind fun t110 => ((impl_NumbersText.f k t110).bind fun t113 => ((impl_LinePoly.f k l0).bind fun t114 => ((impl_NumbersText.f k t114).bind fun t117 => ((impl_Join.f (([(⟨#[109, 101, 101, 116, 105, 110, 103]⟩ : ByteArray), t105, (⟨#[114, 101, 103, 105, 111, 110, 115]⟩ : ByteArray), t107, (⟨#[98, 111, 117, 110, 100, 101, 100]⟩ : ByteArray), t109, (⟨#[112, 97, 114, 97, 108, 108, 101, 108]⟩ : ByteArray), t113, (⟨#[112, 111, 108, 121]⟩ : ByteArray), t117] : List ByteArray)) (⟨#[32]⟩ : ByteArray)).bind fun t121 => (some t121)))))))) = some r := H
  have A7 := Aside0.mk A70
  clear A70
  replace H := Option.bind_eq_some_iff.mp H
  obtain ⟨t108, A80, H⟩ := H
  replace H : ((impl_FormatInt.f t108).bind fun t109 => ((impl_ParallelClasses.f l0).bind fun t110 => ((impl_NumbersText.f k t110).bind fun t113 => ((impl_LinePoly.f k l0).bind fun t114 => ((impl_NumbersText.f k t114).bind fun t117 => ((impl_Join.f (([(⟨#[109, 101, 101, 116, 105, 110, 103]⟩ : ByteArray), t105, (⟨#[114, 101, 103, 105, 111, 110, 115]⟩ : ByteArray), t107, (⟨#[98, 111, 117, 110, 100, 101, 100]⟩ : ByteArray), t109, (⟨#[112, 97, 114, 97, 108, 108, 101, 108]⟩ : ByteArray), t113, (⟨#[112, 111, 108, 121]⟩ : ByteArray), t117] : List ByteArray)) (⟨#[32]⟩ : ByteArray)).bind fun t121 => (some t121))))))) = some r := H
  have A8 := Aside0.mk A80
  clear A80
  replace H := Option.bind_eq_some_iff.mp H
  obtain ⟨t109, A90, H⟩ := H
  replace H : ((impl_ParallelClasses.f l0).bind fun t110 => ((impl_NumbersText.f k t110).bind fun t113 => ((impl_LinePoly.f k l0).bind fun t114 => ((impl_NumbersText.f k t114).bind fun t117 => ((impl_Join.f (([(⟨#[109, 101, 101, 116, 105, 110, 103]⟩ : ByteArray), t105, (⟨#[114, 101, 103, 105, 111, 110, 115]⟩ : ByteArray), t107, (⟨#[98, 111, 117, 110, 100, 101, 100]⟩ : ByteArray), t109, (⟨#[112, 97, 114, 97, 108, 108, 101, 108]⟩ : ByteArray), t113, (⟨#[112, 111, 108, 121]⟩ : ByteArray), t117] : List ByteArray)) (⟨#[32]⟩ : ByteArray)).bind fun t121 => (some t121)))))) = some r := H
  have A9 := Aside0.mk A90
  clear A90
  replace H := Option.bind_eq_some_iff.mp H
  obtain ⟨t110, A100, H⟩ := H
  replace H : ((impl_NumbersText.f k t110).bind fun t113 => ((impl_LinePoly.f k l0).bind fun t114 => ((impl_NumbersText.f k t114).bind fun t117 => ((impl_Join.f (([(⟨#[109, 101, 101, 116, 105, 110, 103]⟩ : ByteArray), t105, (⟨#[114, 101, 103, 105, 111, 110, 115]⟩ : ByteArray), t107, (⟨#[98, 111, 117, 110, 100, 101, 100]⟩ : ByteArray), t109, (⟨#[112, 97, 114, 97, 108, 108, 101, 108]⟩ : ByteArray), t113, (⟨#[112, 111, 108, 121]⟩ : ByteArray), t117] : List ByteArray)) (⟨#[32]⟩ : ByteArray)).bind fun t121 => (some t121))))) = some r := H
  have A10 := Aside0.mk A100
  clear A100
  replace H := Option.bind_eq_some_iff.mp H
  obtain ⟨t113, A110, H⟩ := H
  replace H : ((impl_LinePoly.f k l0).bind fun t114 => ((impl_NumbersText.f k t114).bind fun t117 => ((impl_Join.f (([(⟨#[109, 101, 101, 116, 105, 110, 103]⟩ : ByteArray), t105, (⟨#[114, 101, 103, 105, 111, 110, 115]⟩ : ByteArray), t107, (⟨#[98, 111, 117, 110, 100, 101, 100]⟩ : ByteArray), t109, (⟨#[112, 97, 114, 97, 108, 108, 101, 108]⟩ : ByteArray), t113, (⟨#[112, 111, 108, 121]⟩ : ByteArray), t117] : List ByteArray)) (⟨#[32]⟩ : ByteArray)).bind fun t121 => (some t121)))) = some r := H
  have A11 := Aside0.mk A110
  clear A110
  replace H := Option.bind_eq_some_iff.mp H
  obtain ⟨t114, A120, H⟩ := H
  replace H : ((impl_NumbersText.f k t114).bind fun t117 => ((impl_Join.f (([(⟨#[109, 101, 101, 116, 105, 110, 103]⟩ : ByteArray), t105, (⟨#[114, 101, 103, 105, 111, 110, 115]⟩ : ByteArray), t107, (⟨#[98, 111, 117, 110, 100, 101, 100]⟩ : ByteArray), t109, (⟨#[112, 97, 114, 97, 108, 108, 101, 108]⟩ : ByteArray), t113, (⟨#[112, 111, 108, 121]⟩ : ByteArray), t117] : List ByteArray)) (⟨#[32]⟩ : ByteArray)).bind fun t121 => (some t121))) = some r := H
  have A12 := Aside0.mk A120
  clear A120
  replace H := Option.bind_eq_some_iff.mp H
  obtain ⟨t117, A130, H⟩ := H
  replace H : ((impl_Join.f (([(⟨#[109, 101, 101, 116, 105, 110, 103]⟩ : ByteArray), t105, (⟨#[114, 101, 103, 105, 111, 110, 115]⟩ : ByteArray), t107, (⟨#[98, 111, 117, 110, 100, 101, 100]⟩ : ByteArray), t109, (⟨#[112, 97, 114, 97, 108, 108, 101, 108]⟩ : ByteArray), t113, (⟨#[112, 111, 108, 121]⟩ : ByteArray), t117] : List ByteArray)) (⟨#[32]⟩ : ByteArray)).bind fun t121 => (some t121)) = some r := H
  have A13 := Aside0.mk A130
  clear A130
  obtain ⟨y118, hy118⟩ : ∃ y_ : List ByteArray, y_ = (([(⟨#[109, 101, 101, 116, 105, 110, 103]⟩ : ByteArray), t105, (⟨#[114, 101, 103, 105, 111, 110, 115]⟩ : ByteArray), t107, (⟨#[98, 111, 117, 110, 100, 101, 100]⟩ : ByteArray), t109, (⟨#[112, 97, 114, 97, 108, 108, 101, 108]⟩ : ByteArray), t113, (⟨#[112, 111, 108, 121]⟩ : ByteArray), t117] : List ByteArray)) := ⟨_, rfl⟩
  replace H : ((impl_Join.f y118 (⟨#[32]⟩ : ByteArray)).bind fun t121 => (some t121)) = some r := by first | (rw [hy118]; with_reducible exact H) | (have H2_ := (Option.bind_some _ _).symm.trans H; rw [hy118]; with_reducible exact H2_) | (have H2_ := (Option.bind_some _ _).symm.trans H; with_reducible exact H2_) | with_reducible exact H | (rw [hy118]; exact H) | exact H
  have Ny118 := Aside0.mk hy118
  clear hy118
  replace H := Option.bind_eq_some_iff.mp H
  obtain ⟨t121, A140, H⟩ := H
  replace H : (some t121) = some r := H
  have A14 := Aside0.mk A140
  clear A140
  obtain rfl := Option.some.inj H
  go_enter Tryd.func7, Tryd.ntmps7
  go_wp2_with (first | ((with_reducible refine gate_callee (f := 18) rfl ?_); refine goesL_ (some 4) rfl rfl Tryd.func18 (by kernel_rfl) rfl #[.slice A0 l0.length c0] rfl (by (try simp only [List.map_toArray, List.map_cons, List.map_nil]); first | done | rfl | (simp only [List.length_drop, List.length_take]; rfl)) ?_; (with_reducible refine (impl_AreLines.calls _ _ l0 true _ ?side1 ?side2 A2.out).mono ?_); (case side1 => repeat (first | exact HR0.out | (with_reducible refine Kd.C_alloc ?_ _) | (with_reducible refine Kd.C_drewN ?_ _) | (with_reducible refine Kd.C_drew ?_))); (case side2 => exact HC0.out); rintro e w15 ⟨rfl, hb⟩; refine ⟨_, rfl, ?_⟩; have n0_ := Aside0.mk (below_step (by repeat (first | (with_reducible first | exact HB.out | apply below_alloc | apply pw_below_drewN | apply below_drew1) | exact HB.out)) hb); clear HB; have HB := n0_; clear n0_; (try clear hb); (try clear hb2); (try clear hk); (try clear hi)) | ((with_reducible refine gate_callee (f := 21) rfl ?_); refine goesL_ (some 7) rfl rfl Tryd.func21 (by kernel_rfl) rfl #[.slice A0 l0.length c0] rfl (by (try simp only [List.map_toArray, List.map_cons, List.map_nil]); first | done | rfl | (simp only [List.length_drop, List.length_take]; rfl)) ?_; (with_reducible refine (impl_MeetingRow.calls k _ _ l0 t102 _ ?side1 ?side2 A4.out).mono ?_); (case side1 => repeat (first | exact (Kd.C_below HR0.out HB.out) | (with_reducible refine Kd.C_alloc ?_ _) | (with_reducible refine Kd.C_drewN ?_ _) | (with_reducible refine Kd.C_drew ?_))); (case side2 => exact HC0.out); rintro e w16 ⟨v103, rfl, ho0, hb⟩; refine ⟨_, rfl, ?_⟩; have n0_ := Aside0.mk (Kd.R_lower ho0 (below_size (by repeat (first | (with_reducible first | exact HB.out | apply below_alloc | apply pw_below_drewN | apply below_drew1) | exact HB.out)))); have n1_ := Aside0.mk (below_step (by repeat (first | (with_reducible first | exact HB.out | apply below_alloc | apply pw_below_drewN | apply below_drew1) | exact HB.out)) hb); clear HB; have HO104 := n0_; have HB := n1_; clear n0_ n1_; (try clear hb); (try clear hb2); (try clear hk); (try clear hi); (try clear ho0); obtain ⟨Ao17, co17, eo17⟩ := Kd.R_slice HO104.out; subst eo17) | ((with_reducible refine gate_callee (f := 20) rfl ?_); refine goesL_ (some 8) rfl rfl Tryd.func20 (by kernel_rfl) rfl #[.slice Ao17 t102.length co17] rfl (by (try simp only [List.map_toArray, List.map_cons, List.map_nil]); first | done | rfl | (simp only [List.length_drop, List.length_take]; rfl)) ?_; (with_reducible refine (impl_NumbersText.calls k _ _ t102 t105 _ ?side1 ?side2 A5.out (Tab.on HTAB.out (by repeat (first | (with_reducible first | exact HB.out | apply below_alloc | apply pw_below_drewN | apply below_drew1) | exact HB.out)))).mono ?_); (case side1 => repeat (first | exact (Kd.R_reads' HO104.out).2.2 | (with_reducible refine Kd.C_alloc ?_ _) | (with_reducible refine Kd.C_drewN ?_ _) | (with_reducible refine Kd.C_drew ?_))); (case side2 => exact (Kd.R_reads' HO104.out).2.1); rintro e w18 ⟨rfl, hb⟩; refine ⟨_, rfl, ?_⟩; have n0_ := Aside0.mk (Kd.R_below (by (with_reducible repeat (first | apply Kd.R_alloc | apply Kd.R_drewN | apply Kd.R_drew)); exact HO104.out) hb); have n1_ := Aside0.mk (below_step (by repeat (first | (with_reducible first | exact HB.out | apply below_alloc | apply pw_below_drewN | apply below_drew1) | exact HB.out)) hb); clear HO104; clear HB; have HO104 := n0_; have HB := n1_; clear n0_ n1_; (try clear hb); (try clear hb2); (try clear hk); (try clear hi)) | ((with_reducible refine gate_callee (f := 23) rfl ?_); refine goesL_ (some 10) rfl rfl Tryd.func23 (by kernel_rfl) rfl #[.slice A0 l0.length c0] rfl (by (try simp only [List.map_toArray, List.map_cons, List.map_nil]); first | done | rfl | (simp only [List.length_drop, List.length_take]; rfl)) ?_; (with_reducible refine (impl_CountRegions.calls k _ _ l0 t106 _ ?side1 ?side2 A6.out).mono ?_); (case side1 => repeat (first | exact (Kd.C_below HR0.out HB.out) | (with_reducible refine Kd.C_alloc ?_ _) | (with_reducible refine Kd.C_drewN ?_ _) | (with_reducible refine Kd.C_drew ?_))); (case side2 => exact HC0.out); rintro e w19 ⟨rfl, hb⟩; refine ⟨_, rfl, ?_⟩; have n0_ := Aside0.mk (Kd.R_below (by (with_reducible repeat (first | apply Kd.R_alloc | apply Kd.R_drewN | apply Kd.R_drew)); exact HO104.out) hb); have n1_ := Aside0.mk (below_step (by repeat (first | (with_reducible first | exact HB.out | apply below_alloc | apply pw_below_drewN | apply below_drew1) | exact HB.out)) hb); clear HO104; clear HB; have HO104 := n0_; have HB := n1_; clear n0_ n1_; (try clear hb); (try clear hb2); (try clear hk); (try clear hi)) | ((with_reducible refine gate_callee (f := 22) rfl ?_); refine goesL_ (some 11) rfl rfl Tryd.func22 (by kernel_rfl) rfl #[.int .i64 t106] rfl (by (try simp only [List.map_toArray, List.map_cons, List.map_nil]); first | done | rfl | (simp only [List.length_drop, List.length_take]; rfl)) ?_; (with_reducible refine (impl_FormatInt.calls t106 t107 _ A7.out (Tab.on HTAB.out (by repeat (first | (with_reducible first | exact HB.out | apply below_alloc | apply pw_below_drewN | apply below_drew1) | exact HB.out)))).mono ?_); rintro e w20 ⟨rfl, hb⟩; refine ⟨_, rfl, ?_⟩; have n0_ := Aside0.mk (Kd.R_below (by (with_reducible repeat (first | apply Kd.R_alloc | apply Kd.R_drewN | apply Kd.R_drew)); exact HO104.out) hb); have n1_ := Aside0.mk (below_step (by repeat (first | (with_reducible first | exact HB.out | apply below_alloc | apply pw_below_drewN | apply below_drew1) | exact HB.out)) hb); clear HO104; clear HB; have HO104 := n0_; have HB := n1_; clear n0_ n1_; (try clear hb); (try clear hb2); (try clear hk); (try clear hi)) | ((with_reducible refine gate_callee (f := 24) rfl ?_); refine goesL_ (some 13) rfl rfl Tryd.func24 (by kernel_rfl) rfl #[.slice A0 l0.length c0] rfl (by (try simp only [List.map_toArray, List.map_cons, List.map_nil]); first | done | rfl | (simp only [List.length_drop, List.length_take]; rfl)) ?_; (with_reducible refine (impl_CountBounded.calls k _ _ l0 t108 _ ?side1 ?side2 A8.out).mono ?_); (case side1 => repeat (first | exact (Kd.C_below HR0.out HB.out) | (with_reducible refine Kd.C_alloc ?_ _) | (with_reducible refine Kd.C_drewN ?_ _) | (with_reducible refine Kd.C_drew ?_))); (case side2 => exact HC0.out); rintro e w21 ⟨rfl, hb⟩; refine ⟨_, rfl, ?_⟩; have n0_ := Aside0.mk (Kd.R_below (by (with_reducible repeat (first | apply Kd.R_alloc | apply Kd.R_drewN | apply Kd.R_drew)); exact HO104.out) hb); have n1_ := Aside0.mk (below_step (by repeat (first | (with_reducible first | exact HB.out | apply below_alloc | apply pw_below_drewN | apply below_drew1) | exact HB.out)) hb); clear HO104; clear HB; have HO104 := n0_; have HB := n1_; clear n0_ n1_; (try clear hb); (try clear hb2); (try clear hk); (try clear hi)) | ((with_reducible refine gate_callee (f := 22) rfl ?_); refine goesL_ (some 14) rfl rfl Tryd.func22 (by kernel_rfl) rfl #[.int .i64 t108] rfl (by (try simp only [List.map_toArray, List.map_cons, List.map_nil]); first | done | rfl | (simp only [List.length_drop, List.length_take]; rfl)) ?_; (with_reducible refine (impl_FormatInt.calls t108 t109 _ A9.out (Tab.on HTAB.out (by repeat (first | (with_reducible first | exact HB.out | apply below_alloc | apply pw_below_drewN | apply below_drew1) | exact HB.out)))).mono ?_); rintro e w22 ⟨rfl, hb⟩; refine ⟨_, rfl, ?_⟩; have n0_ := Aside0.mk (Kd.R_below (by (with_reducible repeat (first | apply Kd.R_alloc | apply Kd.R_drewN | apply Kd.R_drew)); exact HO104.out) hb); have n1_ := Aside0.mk (below_step (by repeat (first | (with_reducible first | exact HB.out | apply below_alloc | apply pw_below_drewN | apply below_drew1) | exact HB.out)) hb); clear HO104; clear HB; have HO104 := n0_; have HB := n1_; clear n0_ n1_; (try clear hb); (try clear hb2); (try clear hk); (try clear hi)) | ((with_reducible refine gate_callee (f := 25) rfl ?_); refine goesL_ (some 16) rfl rfl Tryd.func25 (by kernel_rfl) rfl #[.slice A0 l0.length c0] rfl (by (try simp only [List.map_toArray, List.map_cons, List.map_nil]); first | done | rfl | (simp only [List.length_drop, List.length_take]; rfl)) ?_; (with_reducible refine (impl_ParallelClasses.calls _ _ l0 t110 _ ?side1 ?side2 A10.out).mono ?_); (case side1 => repeat (first | exact (Kd.C_below HR0.out HB.out) | (with_reducible refine Kd.C_alloc ?_ _) | (with_reducible refine Kd.C_drewN ?_ _) | (with_reducible refine Kd.C_drew ?_))); (case side2 => exact HC0.out); rintro e w23 ⟨v111, rfl, ho0, hb⟩; refine ⟨_, rfl, ?_⟩; have n0_ := Aside0.mk (Kd.R_elder' (by (with_reducible repeat (first | apply Kd.R_alloc | apply Kd.R_drewN | apply Kd.R_drew)); exact HO104.out) (Kd.R_base ho0) hb); have n1_ := Aside0.mk (Kd.R_lower (Kd.R_new' ho0 (Kd.R_lt (by (with_reducible repeat (first | apply Kd.R_alloc | apply Kd.R_drewN | apply Kd.R_drew)); exact HO104.out))) (below_size (by repeat (first | (with_reducible first | exact HB.out | apply below_alloc | apply pw_below_drewN | apply below_drew1) | exact HB.out)))); have n2_ := Aside0.mk (below_step (by repeat (first | (with_reducible first | exact HB.out | apply below_alloc | apply pw_below_drewN | apply below_drew1) | exact HB.out)) hb); clear HO104; clear HB; have HO104 := n0_; have HO112 := n1_; have HB := n2_; clear n0_ n1_ n2_; (try clear hb); (try clear hb2); (try clear hk); (try clear hi); (try clear ho0); obtain ⟨Ao24, co24, eo24⟩ := Kd.R_slice HO112.out; subst eo24) | ((with_reducible refine gate_callee (f := 20) rfl ?_); refine goesL_ (some 17) rfl rfl Tryd.func20 (by kernel_rfl) rfl #[.slice Ao24 t110.length co24] rfl (by (try simp only [List.map_toArray, List.map_cons, List.map_nil]); first | done | rfl | (simp only [List.length_drop, List.length_take]; rfl)) ?_; (with_reducible refine (impl_NumbersText.calls k _ _ t110 t113 _ ?side1 ?side2 A11.out (Tab.on HTAB.out (by repeat (first | (with_reducible first | exact HB.out | apply below_alloc | apply pw_below_drewN | apply below_drew1) | exact HB.out)))).mono ?_); (case side1 => repeat (first | exact (Kd.R_reads' HO112.out).2.2 | (with_reducible refine Kd.C_alloc ?_ _) | (with_reducible refine Kd.C_drewN ?_ _) | (with_reducible refine Kd.C_drew ?_))); (case side2 => exact (Kd.R_reads' HO112.out).2.1); rintro e w25 ⟨rfl, hb⟩; refine ⟨_, rfl, ?_⟩; have n0_ := Aside0.mk (Kd.R_below (by (with_reducible repeat (first | apply Kd.R_alloc | apply Kd.R_drewN | apply Kd.R_drew)); exact HO104.out) hb); have n1_ := Aside0.mk (Kd.R_below (by (with_reducible repeat (first | apply Kd.R_alloc | apply Kd.R_drewN | apply Kd.R_drew)); exact HO112.out) hb); have n2_ := Aside0.mk (below_step (by repeat (first | (with_reducible first | exact HB.out | apply below_alloc | apply pw_below_drewN | apply below_drew1) | exact HB.out)) hb); clear HO104; clear HO112; clear HB; have HO104 := n0_; have HO112 := n1_; have HB := n2_; clear n0_ n1_ n2_; (try clear hb); (try clear hb2); (try clear hk); (try clear hi)) | ((with_reducible refine gate_callee (f := 26) rfl ?_); refine goesL_ (some 19) rfl rfl Tryd.func26 (by kernel_rfl) rfl #[.slice A0 l0.length c0] rfl (by (try simp only [List.map_toArray, List.map_cons, List.map_nil]); first | done | rfl | (simp only [List.length_drop, List.length_take]; rfl)) ?_; (with_reducible refine (impl_LinePoly.calls k _ _ l0 t114 _ ?side1 ?side2 A12.out).mono ?_); (case side1 => repeat (first | exact (Kd.C_below HR0.out HB.out) | (with_reducible refine Kd.C_alloc ?_ _) | (with_reducible refine Kd.C_drewN ?_ _) | (with_reducible refine Kd.C_drew ?_))); (case side2 => exact HC0.out); rintro e w26 ⟨v115, rfl, ho0, hb⟩; refine ⟨_, rfl, ?_⟩; have n0_ := Aside0.mk (Kd.R_elder' (by (with_reducible repeat (first | apply Kd.R_alloc | apply Kd.R_drewN | apply Kd.R_drew)); exact HO104.out) (Kd.R_base ho0) hb); have n1_ := Aside0.mk (Kd.R_elder' (by (with_reducible repeat (first | apply Kd.R_alloc | apply Kd.R_drewN | apply Kd.R_drew)); exact HO112.out) (Kd.R_base ho0) hb); have n2_ := Aside0.mk (Kd.R_lower (Kd.R_new' (Kd.R_new' ho0 (Kd.R_lt (by (with_reducible repeat (first | apply Kd.R_alloc | apply Kd.R_drewN | apply Kd.R_drew)); exact HO104.out))) (Kd.R_lt (by (with_reducible repeat (first | apply Kd.R_alloc | apply Kd.R_drewN | apply Kd.R_drew)); exact HO112.out))) (below_size (by repeat (first | (with_reducible first | exact HB.out | apply below_alloc | apply pw_below_drewN | apply below_drew1) | exact HB.out)))); have n3_ := Aside0.mk (below_step (by repeat (first | (with_reducible first | exact HB.out | apply below_alloc | apply pw_below_drewN | apply below_drew1) | exact HB.out)) hb); clear HO104; clear HO112; clear HB; have HO104 := n0_; have HO112 := n1_; have HO116 := n2_; have HB := n3_; clear n0_ n1_ n2_ n3_; (try clear hb); (try clear hb2); (try clear hk); (try clear hi); (try clear ho0); obtain ⟨Ao27, co27, eo27⟩ := Kd.R_slice HO116.out; subst eo27) | ((with_reducible refine gate_callee (f := 20) rfl ?_); refine goesL_ (some 20) rfl rfl Tryd.func20 (by kernel_rfl) rfl #[.slice Ao27 t114.length co27] rfl (by (try simp only [List.map_toArray, List.map_cons, List.map_nil]); first | done | rfl | (simp only [List.length_drop, List.length_take]; rfl)) ?_; (with_reducible refine (impl_NumbersText.calls k _ _ t114 t117 _ ?side1 ?side2 A13.out (Tab.on HTAB.out (by repeat (first | (with_reducible first | exact HB.out | apply below_alloc | apply pw_below_drewN | apply below_drew1) | exact HB.out)))).mono ?_); (case side1 => repeat (first | exact (Kd.R_reads' HO116.out).2.2 | (with_reducible refine Kd.C_alloc ?_ _) | (with_reducible refine Kd.C_drewN ?_ _) | (with_reducible refine Kd.C_drew ?_))); (case side2 => exact (Kd.R_reads' HO116.out).2.1); rintro e w28 ⟨rfl, hb⟩; refine ⟨_, rfl, ?_⟩; have n0_ := Aside0.mk (Kd.R_below (by (with_reducible repeat (first | apply Kd.R_alloc | apply Kd.R_drewN | apply Kd.R_drew)); exact HO104.out) hb); have n1_ := Aside0.mk (Kd.R_below (by (with_reducible repeat (first | apply Kd.R_alloc | apply Kd.R_drewN | apply Kd.R_drew)); exact HO112.out) hb); have n2_ := Aside0.mk (Kd.R_below (by (with_reducible repeat (first | apply Kd.R_alloc | apply Kd.R_drewN | apply Kd.R_drew)); exact HO116.out) hb); have n3_ := Aside0.mk (below_step (by repeat (first | (with_reducible first | exact HB.out | apply below_alloc | apply pw_below_drewN | apply below_drew1) | exact HB.out)) hb); clear HO104; clear HO112; clear HO116; clear HB; have HO104 := n0_; have HO112 := n1_; have HO116 := n2_; have HB := n3_; clear n0_ n1_ n2_ n3_; (try clear hb); (try clear hb2); (try clear hk); (try clear hi)) | ((with_reducible refine gate_dst (N := 21) rfl ?_); refine Kd.R_lit Kd.string _ 9 ?hg (N := 21) ?hd (xs := ([(⟨#[109, 101, 101, 116, 105, 110, 103]⟩ : ByteArray), t105, (⟨#[114, 101, 103, 105, 111, 110, 115]⟩ : ByteArray), t107, (⟨#[98, 111, 117, 110, 100, 101, 100]⟩ : ByteArray), t109, (⟨#[112, 97, 114, 97, 108, 108, 101, 108]⟩ : ByteArray), t113, (⟨#[112, 111, 108, 121]⟩ : ByteArray), t117] : List ByteArray)) (inner := [.string (⟨#[109, 101, 101, 116, 105, 110, 103]⟩ : ByteArray), .string t105, .string (⟨#[114, 101, 103, 105, 111, 110, 115]⟩ : ByteArray), .string t107, .string (⟨#[98, 111, 117, 110, 100, 101, 100]⟩ : ByteArray), .string t109, .string (⟨#[112, 97, 114, 97, 108, 108, 101, 108]⟩ : ByteArray), .string t113, .string (⟨#[112, 111, 108, 121]⟩ : ByteArray), .string t117]) (ok := fun _ => True) (okp := fun _ => True) ?hr ?hp (fun _ hk => hk) trivial (Below.refl _ _) (Nat.le_refl _) (by simp) ?_; (case hd => rfl); (case hg => rfl); (case hr => first | (go_simp; done) | (go_simp; rfl)); (case hp => exact (Reps.one (show Kd.M Kd.string _ _ _ (⟨#[109, 101, 101, 116, 105, 110, 103]⟩ : ByteArray) [.string (⟨#[109, 101, 101, 116, 105, 110, 103]⟩ : ByteArray)] from rfl) (Reps.one (show Kd.M Kd.string _ _ _ t105 [.string t105] from rfl) (Reps.one (show Kd.M Kd.string _ _ _ (⟨#[114, 101, 103, 105, 111, 110, 115]⟩ : ByteArray) [.string (⟨#[114, 101, 103, 105, 111, 110, 115]⟩ : ByteArray)] from rfl) (Reps.one (show Kd.M Kd.string _ _ _ t107 [.string t107] from rfl) (Reps.one (show Kd.M Kd.string _ _ _ (⟨#[98, 111, 117, 110, 100, 101, 100]⟩ : ByteArray) [.string (⟨#[98, 111, 117, 110, 100, 101, 100]⟩ : ByteArray)] from rfl) (Reps.one (show Kd.M Kd.string _ _ _ t109 [.string t109] from rfl) (Reps.one (show Kd.M Kd.string _ _ _ (⟨#[112, 97, 114, 97, 108, 108, 101, 108]⟩ : ByteArray) [.string (⟨#[112, 97, 114, 97, 108, 108, 101, 108]⟩ : ByteArray)] from rfl) (Reps.one (show Kd.M Kd.string _ _ _ t113 [.string t113] from rfl) (Reps.one (show Kd.M Kd.string _ _ _ (⟨#[112, 111, 108, 121]⟩ : ByteArray) [.string (⟨#[112, 111, 108, 121]⟩ : ByteArray)] from rfl) (Reps.one (show Kd.M Kd.string _ _ _ t117 [.string t117] from rfl) (Reps.none _ _)))))))))))); intro v119 w29 ho30 hb hg_ hnew_; clear hg_ hnew_; (first | rw [← Ny118.out] at ho30 | (simp only [Int.reduceToNat] at ho30; rw [← Ny118.out] at ho30)); have n0_ := Aside0.mk (Kd.R_below (by (with_reducible repeat (first | apply Kd.R_alloc | apply Kd.R_drewN | apply Kd.R_drew)); exact HO104.out) hb); have n1_ := Aside0.mk (Kd.R_below (by (with_reducible repeat (first | apply Kd.R_alloc | apply Kd.R_drewN | apply Kd.R_drew)); exact HO112.out) hb); have n2_ := Aside0.mk (Kd.R_below (by (with_reducible repeat (first | apply Kd.R_alloc | apply Kd.R_drewN | apply Kd.R_drew)); exact HO116.out) hb); have n3_ := Aside0.mk (Kd.R_lower ho30 (below_size (by repeat (first | (with_reducible first | exact HB.out | apply below_alloc | apply pw_below_drewN | apply below_drew1) | exact HB.out)))); have n4_ := Aside0.mk (below_step (by repeat (first | (with_reducible first | exact HB.out | apply below_alloc | apply pw_below_drewN | apply below_drew1) | exact HB.out)) hb); clear HO104; clear HO112; clear HO116; clear HB; have HO104 := n0_; have HO112 := n1_; have HO116 := n2_; have HO120 := n3_; have HB := n4_; clear n0_ n1_ n2_ n3_ n4_; clear hb ho30; obtain ⟨Ao31, co31, eo31⟩ := Kd.R_slice HO120.out; subst eo31) | ((with_reducible refine gate_callee (f := 19) rfl ?_); refine goesL_ (some 22) rfl rfl Tryd.func19 (by kernel_rfl) rfl #[.slice Ao31 y118.length co31, .string (⟨#[32]⟩ : ByteArray)] rfl (by (try simp only [List.map_toArray, List.map_cons, List.map_nil]); first | done | rfl | (simp only [List.length_drop, List.length_take]; rfl)) ?_; (with_reducible refine (impl_Join.calls _ _ y118 (⟨#[32]⟩ : ByteArray) t121 _ ?side1 ?side2 A14.out).mono ?_); (case side1 => repeat (first | exact (Kd.R_reads' HO120.out).2.2 | (with_reducible refine Kd.C_alloc ?_ _) | (with_reducible refine Kd.C_drewN ?_ _) | (with_reducible refine Kd.C_drew ?_))); (case side2 => exact (Kd.R_reads' HO120.out).2.1); rintro e w32 ⟨rfl, hb⟩; refine ⟨_, rfl, ?_⟩; have n0_ := Aside0.mk (Kd.R_below (by (with_reducible repeat (first | apply Kd.R_alloc | apply Kd.R_drewN | apply Kd.R_drew)); exact HO104.out) hb); have n1_ := Aside0.mk (Kd.R_below (by (with_reducible repeat (first | apply Kd.R_alloc | apply Kd.R_drewN | apply Kd.R_drew)); exact HO112.out) hb); have n2_ := Aside0.mk (Kd.R_below (by (with_reducible repeat (first | apply Kd.R_alloc | apply Kd.R_drewN | apply Kd.R_drew)); exact HO116.out) hb); have n3_ := Aside0.mk (Kd.R_below (by (with_reducible repeat (first | apply Kd.R_alloc | apply Kd.R_drewN | apply Kd.R_drew)); exact HO120.out) hb); have n4_ := Aside0.mk (below_step (by repeat (first | (with_reducible first | exact HB.out | apply below_alloc | apply pw_below_drewN | apply below_drew1) | exact HB.out)) hb); clear HO104; clear HO112; clear HO116; clear HO120; clear HB; have HO104 := n0_; have HO112 := n1_; have HO116 := n2_; have HO120 := n3_; have HB := n4_; clear n0_ n1_ n2_ n3_ n4_; (try clear hb); (try clear hb2); (try clear hk); (try clear hi)))
  go_ret
  exact ⟨by first | rfl | (simp [errW_none, errW_some] <;> rfl) | (simp [*, errW_none, errW_some] <;> rfl), by repeat (first | (with_reducible first | exact HB.out | apply below_alloc | apply pw_below_drewN | apply below_drew1) | exact HB.out)⟩
 ·replace c3 := Bool.eq_false_iff.mpr c3
  subst c3
  have H1 : (some (⟨#[]⟩ : ByteArray)) = some r := by rw [if_neg (show ¬ (false = true) by decide)] at H; exact H
  clear H
  have H := H1
  clear H1
  obtain rfl := Option.some.inj H
  go_enter Tryd.func7, Tryd.ntmps7
  go_wp2_with (first | ((with_reducible refine gate_callee (f := 18) rfl ?_); refine goesL_ (some 4) rfl rfl Tryd.func18 (by kernel_rfl) rfl #[.slice A0 l0.length c0] rfl (by (try simp only [List.map_toArray, List.map_cons, List.map_nil]); first | done | rfl | (simp only [List.length_drop, List.length_take]; rfl)) ?_; (with_reducible refine (impl_AreLines.calls _ _ l0 false _ ?side1 ?side2 A2.out).mono ?_); (case side1 => repeat (first | exact HR0.out | (with_reducible refine Kd.C_alloc ?_ _) | (with_reducible refine Kd.C_drewN ?_ _) | (with_reducible refine Kd.C_drew ?_))); (case side2 => exact HC0.out); rintro e w33 ⟨rfl, hb⟩; refine ⟨_, rfl, ?_⟩; have n0_ := Aside0.mk (below_step (by repeat (first | (with_reducible first | exact HB.out | apply below_alloc | apply pw_below_drewN | apply below_drew1) | exact HB.out)) hb); clear HB; have HB := n0_; clear n0_; (try clear hb); (try clear hb2); (try clear hk); (try clear hi)))
  go_ret
  exact ⟨by first | rfl | (simp [errW_none, errW_some] <;> rfl) | (simp [*, errW_none, errW_some] <;> rfl), by repeat (first | (with_reducible first | exact HB.out | apply below_alloc | apply pw_below_drewN | apply below_drew1) | exact HB.out)⟩
end Go.Proofs.YtecpobpcimehlaaDoor.P

namespace Go.Proofs.YtecpobpcimehlaaDoor.P
open Go.RowKit Go.Proofs.YtecpobpcimehlaaDoorW.PrintWords Go.Proofs.YtecpobpcimehlaaDoorW.PrintLast Go.Proofs.YtecpobpcimehlaaDoorW.PrintMore
attribute [local go_sem] max2_int min2_int max_two min_two max_three min_three max_four min_four   -- for this text's walks alone
set_option linter.unusedVariables false
set_option linter.unusedSimpArgs false
/-! ### laws_eqLine: function 27 -/
def laws_eqLine.f (a0_0 : Int) (a0_1 : Int) (a0_2 : Int) (a1_0 : Int) (a1_1 : Int) (a1_2 : Int) : Option (Bool) := if a0_0 = a1_0 then (if a0_1 = a1_1 then (if a0_2 = a1_2 then (some true) else (some false)) else (some false)) else (some false)
set_option maxHeartbeats 8000000 in
set_option maxRecDepth 100000 in
theorem laws_eqLine.calls (a0_0 : Int) (a0_1 : Int) (a0_2 : Int) (a1_0 : Int) (a1_1 : Int) (a1_2 : Int) (r : Bool) (w : World) (h : laws_eqLine.f a0_0 a0_1 a0_2 a1_0 a1_1 a1_2 = some r) :
  Calls Tryd.prog 27 #[.agg #[.int .i64 a0_0, .int .i64 a0_1, .int .i64 a0_2], .agg #[.int .i64 a1_0, .int .i64 a1_1, .int .i64 a1_2]] w fun e w' => e = .returned (.bool r) ∧ Below w.heap.size w w' := by
 have hu36 := Tryd.underlying36
 have HB := Aside0.mk (Below.refl w.heap.size w)
 have H : (if a0_0 = a1_0 then (if a0_1 = a1_1 then (if a0_2 = a1_2 then (some true) else (some false)) else (some false)) else (some false)) = some r := h
 clear h
 by_cases c3 : a0_0 = a1_0
 ·rw [if_pos c3] at H
  have c3b0 : (a0_0 == a1_0) = true := beq_iff_eq.mpr c3
  have c3b1 : (a0_0 != a1_0) = false := bne_eq_false_iff_eq.mpr c3
  clear c3
  by_cases c4 : a0_1 = a1_1
  ·rw [if_pos c4] at H
   have c4b0 : (a0_1 == a1_1) = true := beq_iff_eq.mpr c4
   have c4b1 : (a0_1 != a1_1) = false := bne_eq_false_iff_eq.mpr c4
   clear c4
   by_cases c5 : a0_2 = a1_2
   ·rw [if_pos c5] at H
    have c5b0 : (a0_2 == a1_2) = true := beq_iff_eq.mpr c5
    have c5b1 : (a0_2 != a1_2) = false := bne_eq_false_iff_eq.mpr c5
    clear c5
    obtain rfl := Option.some.inj H
    go_enter Tryd.func27, Tryd.ntmps27
    go_wp2_with (first | ((with_reducible refine gate_dst (N := 2) rfl ?_); refine box_event ?hg (N := 2) ?hd (cs := #[.int .i64 a0_0, .int .i64 a0_1, .int .i64 a0_2]) (t := 36) ?hr ?_; (case hd => rfl); (case hg => rfl); (case hr => first | (go_simp; done) | (go_simp; rfl)); intro gb101 hg w6 hbox hb; have n0_ := Aside0.mk (below_step (by repeat (first | (with_reducible first | exact HB.out | apply below_alloc | apply pw_below_drewN | apply below_drew1) | exact HB.out)) hb); have n1_ := Aside0.mk (hbox); have n2_ := Aside0.mk ((by rw [hg]; exact (below_size (by repeat (first | (with_reducible first | exact HB.out | apply below_alloc | apply pw_below_drewN | apply below_drew1) | exact HB.out))) : w.heap.size ≤ gb101)); have n3_ := Aside0.mk ((by rw [hg]; exact (below_size (by repeat (first | (with_reducible first | exact HB.out | apply below_alloc | apply pw_below_drewN | apply below_drew1) | exact HB.out))) : w.heap.size ≤ gb101)); clear HB; have HB := n0_; have BK101 := n1_; have GW101 := n2_; have GE101 := n3_; clear n0_ n1_ n2_ n3_; clear hb hbox hg) | ((with_reducible refine gate_dst (N := 3) rfl ?_); refine box_event ?hg (N := 3) ?hd (cs := #[.int .i64 a1_0, .int .i64 a1_1, .int .i64 a1_2]) (t := 36) ?hr ?_; (case hd => rfl); (case hg => rfl); (case hr => first | (go_simp; done) | (go_simp; rfl)); intro gb102 hg w7 hbox hb; have n0_ := Aside0.mk (blk_below (g := gb101) (o := .cells #[.int .i64 a0_0, .int .i64 a0_1, .int .i64 a0_2] 36 (0, 0)) (by (with_reducible repeat (first | refine blk_drewN ?_ _ | refine blk_drew ?_ | refine blk_alloc ?_ _)); exact BK101.out) hb); have n1_ := Aside0.mk (below_step (by repeat (first | (with_reducible first | exact HB.out | apply below_alloc | apply pw_below_drewN | apply below_drew1 | refine below_set ?_ GE101.out) | exact HB.out)) hb); have n2_ := Aside0.mk (hbox); have n3_ := Aside0.mk ((by rw [hg]; exact (below_size (by repeat (first | (with_reducible first | exact HB.out | apply below_alloc | apply pw_below_drewN | apply below_drew1 | refine below_set ?_ GE101.out) | exact HB.out))) : w.heap.size ≤ gb102)); have n4_ := Aside0.mk ((by rw [hg]; exact (below_size (by repeat (first | (with_reducible first | exact HB.out | apply below_alloc | apply pw_below_drewN | apply below_drew1 | refine below_set ?_ GE101.out) | exact HB.out))) : w.heap.size ≤ gb102)); have n5_ := Aside0.mk ((by rw [hg]; exact Nat.ne_of_lt (blk_lt (g := gb101) (o := .cells #[.int .i64 a0_0, .int .i64 a0_1, .int .i64 a0_2] 36 (0, 0)) (by (with_reducible repeat (first | refine blk_drewN ?_ _ | refine blk_drew ?_ | refine blk_alloc ?_ _)); exact BK101.out)) : gb101 ≠ gb102)); have n6_ := Aside0.mk ((by rw [hg]; exact Nat.ne_of_gt (blk_lt (g := gb101) (o := .cells #[.int .i64 a0_0, .int .i64 a0_1, .int .i64 a0_2] 36 (0, 0)) (by (with_reducible repeat (first | refine blk_drewN ?_ _ | refine blk_drew ?_ | refine blk_alloc ?_ _)); exact BK101.out)) : gb102 ≠ gb101)); clear BK101; clear HB; have BK101 := n0_; have HB := n1_; have BK102 := n2_; have GW102 := n3_; have GE102 := n4_; have NB101_102 := n5_; have NB102_101 := n6_; clear n0_ n1_ n2_ n3_ n4_ n5_ n6_; clear hb hbox hg; have hnb8 := NB101_102.out; have hnc8 := NB102_101.out; have hcz9_0 : w7.cell? ⟨gb101, 0, none⟩ = some (.int .i64 a0_0) := (blk_cell BK101.out 0).trans rfl; have hcz9_1 : w7.cell? ⟨gb101, 1, none⟩ = some (.int .i64 a0_1) := (blk_cell BK101.out 1).trans rfl; have hcz9_2 : w7.cell? ⟨gb101, 2, none⟩ = some (.int .i64 a0_2) := (blk_cell BK101.out 2).trans rfl; have hfz9_0 := blk_frozen BK101.out 0; have hfz9_1 := blk_frozen BK101.out 1; have hfz9_2 := blk_frozen BK101.out 2; have hcz10_0 : w7.cell? ⟨gb102, 0, none⟩ = some (.int .i64 a1_0) := (blk_cell BK102.out 0).trans rfl; have hcz10_1 : w7.cell? ⟨gb102, 1, none⟩ = some (.int .i64 a1_1) := (blk_cell BK102.out 1).trans rfl; have hcz10_2 : w7.cell? ⟨gb102, 2, none⟩ = some (.int .i64 a1_2) := (blk_cell BK102.out 2).trans rfl; have hfz10_0 := blk_frozen BK102.out 0; have hfz10_1 := blk_frozen BK102.out 1; have hfz10_2 := blk_frozen BK102.out 2))
    go_ret
    exact ⟨by first | rfl | (simp [errW_none, errW_some] <;> rfl) | (simp [*, errW_none, errW_some] <;> rfl), by repeat (first | (with_reducible first | exact HB.out | apply below_alloc | apply pw_below_drewN | apply below_drew1 | refine below_set ?_ GE101.out | refine below_set ?_ GE102.out) | exact HB.out)⟩
   ·rw [if_neg c5] at H
    have c5b0 : (a0_2 == a1_2) = false := beq_eq_false_iff_ne.mpr c5
    have c5b1 : (a0_2 != a1_2) = true := bne_iff_ne.mpr c5
    obtain rfl := Option.some.inj H
    go_enter Tryd.func27, Tryd.ntmps27
    go_wp2_with (first | ((with_reducible refine gate_dst (N := 2) rfl ?_); refine box_event ?hg (N := 2) ?hd (cs := #[.int .i64 a0_0, .int .i64 a0_1, .int .i64 a0_2]) (t := 36) ?hr ?_; (case hd => rfl); (case hg => rfl); (case hr => first | (go_simp; done) | (go_simp; rfl)); intro gb101 hg w11 hbox hb; have n0_ := Aside0.mk (below_step (by repeat (first | (with_reducible first | exact HB.out | apply below_alloc | apply pw_below_drewN | apply below_drew1) | exact HB.out)) hb); have n1_ := Aside0.mk (hbox); have n2_ := Aside0.mk ((by rw [hg]; exact (below_size (by repeat (first | (with_reducible first | exact HB.out | apply below_alloc | apply pw_below_drewN | apply below_drew1) | exact HB.out))) : w.heap.size ≤ gb101)); have n3_ := Aside0.mk ((by rw [hg]; exact (below_size (by repeat (first | (with_reducible first | exact HB.out | apply below_alloc | apply pw_below_drewN | apply below_drew1) | exact HB.out))) : w.heap.size ≤ gb101)); clear HB; have HB := n0_; have BK101 := n1_; have GW101 := n2_; have GE101 := n3_; clear n0_ n1_ n2_ n3_; clear hb hbox hg) | ((with_reducible refine gate_dst (N := 3) rfl ?_); refine box_event ?hg (N := 3) ?hd (cs := #[.int .i64 a1_0, .int .i64 a1_1, .int .i64 a1_2]) (t := 36) ?hr ?_; (case hd => rfl); (case hg => rfl); (case hr => first | (go_simp; done) | (go_simp; rfl)); intro gb102 hg w12 hbox hb; have n0_ := Aside0.mk (blk_below (g := gb101) (o := .cells #[.int .i64 a0_0, .int .i64 a0_1, .int .i64 a0_2] 36 (0, 0)) (by (with_reducible repeat (first | refine blk_drewN ?_ _ | refine blk_drew ?_ | refine blk_alloc ?_ _)); exact BK101.out) hb); have n1_ := Aside0.mk (below_step (by repeat (first | (with_reducible first | exact HB.out | apply below_alloc | apply pw_below_drewN | apply below_drew1 | refine below_set ?_ GE101.out) | exact HB.out)) hb); have n2_ := Aside0.mk (hbox); have n3_ := Aside0.mk ((by rw [hg]; exact (below_size (by repeat (first | (with_reducible first | exact HB.out | apply below_alloc | apply pw_below_drewN | apply below_drew1 | refine below_set ?_ GE101.out) | exact HB.out))) : w.heap.size ≤ gb102)); have n4_ := Aside0.mk ((by rw [hg]; exact (below_size (by repeat (first | (with_reducible first | exact HB.out | apply below_alloc | apply pw_below_drewN | apply below_drew1 | refine below_set ?_ GE101.out) | exact HB.out))) : w.heap.size ≤ gb102)); have n5_ := Aside0.mk ((by rw [hg]; exact Nat.ne_of_lt (blk_lt (g := gb101) (o := .cells #[.int .i64 a0_0, .int .i64 a0_1, .int .i64 a0_2] 36 (0, 0)) (by (with_reducible repeat (first | refine blk_drewN ?_ _ | refine blk_drew ?_ | refine blk_alloc ?_ _)); exact BK101.out)) : gb101 ≠ gb102)); have n6_ := Aside0.mk ((by rw [hg]; exact Nat.ne_of_gt (blk_lt (g := gb101) (o := .cells #[.int .i64 a0_0, .int .i64 a0_1, .int .i64 a0_2] 36 (0, 0)) (by (with_reducible repeat (first | refine blk_drewN ?_ _ | refine blk_drew ?_ | refine blk_alloc ?_ _)); exact BK101.out)) : gb102 ≠ gb101)); clear BK101; clear HB; have BK101 := n0_; have HB := n1_; have BK102 := n2_; have GW102 := n3_; have GE102 := n4_; have NB101_102 := n5_; have NB102_101 := n6_; clear n0_ n1_ n2_ n3_ n4_ n5_ n6_; clear hb hbox hg; have hnb13 := NB101_102.out; have hnc13 := NB102_101.out; have hcz14_0 : w12.cell? ⟨gb101, 0, none⟩ = some (.int .i64 a0_0) := (blk_cell BK101.out 0).trans rfl; have hcz14_1 : w12.cell? ⟨gb101, 1, none⟩ = some (.int .i64 a0_1) := (blk_cell BK101.out 1).trans rfl; have hcz14_2 : w12.cell? ⟨gb101, 2, none⟩ = some (.int .i64 a0_2) := (blk_cell BK101.out 2).trans rfl; have hfz14_0 := blk_frozen BK101.out 0; have hfz14_1 := blk_frozen BK101.out 1; have hfz14_2 := blk_frozen BK101.out 2; have hcz15_0 : w12.cell? ⟨gb102, 0, none⟩ = some (.int .i64 a1_0) := (blk_cell BK102.out 0).trans rfl; have hcz15_1 : w12.cell? ⟨gb102, 1, none⟩ = some (.int .i64 a1_1) := (blk_cell BK102.out 1).trans rfl; have hcz15_2 : w12.cell? ⟨gb102, 2, none⟩ = some (.int .i64 a1_2) := (blk_cell BK102.out 2).trans rfl; have hfz15_0 := blk_frozen BK102.out 0; have hfz15_1 := blk_frozen BK102.out 1; have hfz15_2 := blk_frozen BK102.out 2))
    go_ret
    exact ⟨by first | rfl | (simp [errW_none, errW_some] <;> rfl) | (simp [*, errW_none, errW_some] <;> rfl), by repeat (first | (with_reducible first | exact HB.out | apply below_alloc | apply pw_below_drewN | apply below_drew1 | refine below_set ?_ GE101.out | refine below_set ?_ GE102.out) | exact HB.out)⟩
  ·rw [if_neg c4] at H
   have c4b0 : (a0_1 == a1_1) = false := beq_eq_false_iff_ne.mpr c4
   have c4b1 : (a0_1 != a1_1) = true := bne_iff_ne.mpr c4
   obtain rfl := Option.some.inj H
   go_enter Tryd.func27, Tryd.ntmps27
   go_wp2_with (first | ((with_reducible refine gate_dst (N := 2) rfl ?_); refine box_event ?hg (N := 2) ?hd (cs := #[.int .i64 a0_0, .int .i64 a0_1, .int .i64 a0_2]) (t := 36) ?hr ?_; (case hd => rfl); (case hg => rfl); (case hr => first | (go_simp; done) | (go_simp; rfl)); intro gb101 hg w16 hbox hb; have n0_ := Aside0.mk (below_step (by repeat (first | (with_reducible first | exact HB.out | apply below_alloc | apply pw_below_drewN | apply below_drew1) | exact HB.out)) hb); have n1_ := Aside0.mk (hbox); have n2_ := Aside0.mk ((by rw [hg]; exact (below_size (by repeat (first | (with_reducible first | exact HB.out | apply below_alloc | apply pw_below_drewN | apply below_drew1) | exact HB.out))) : w.heap.size ≤ gb101)); have n3_ := Aside0.mk ((by rw [hg]; exact (below_size (by repeat (first | (with_reducible first | exact HB.out | apply below_alloc | apply pw_below_drewN | apply below_drew1) | exact HB.out))) : w.heap.size ≤ gb101)); clear HB; have HB := n0_; have BK101 := n1_; have GW101 := n2_; have GE101 := n3_; clear n0_ n1_ n2_ n3_; clear hb hbox hg) | ((with_reducible refine gate_dst (N := 3) rfl ?_); refine box_event ?hg (N := 3) ?hd (cs := #[.int .i64 a1_0, .int .i64 a1_1, .int .i64 a1_2]) (t := 36) ?hr ?_; (case hd => rfl); (case hg => rfl); (case hr => first | (go_simp; done) | (go_simp; rfl)); intro gb102 hg w17 hbox hb; have n0_ := Aside0.mk (blk_below (g := gb101) (o := .cells #[.int .i64 a0_0, .int .i64 a0_1, .int .i64 a0_2] 36 (0, 0)) (by (with_reducible repeat (first | refine blk_drewN ?_ _ | refine blk_drew ?_ | refine blk_alloc ?_ _)); exact BK101.out) hb); have n1_ := Aside0.mk (below_step (by repeat (first | (with_reducible first | exact HB.out | apply below_alloc | apply pw_below_drewN | apply below_drew1 | refine below_set ?_ GE101.out) | exact HB.out)) hb); have n2_ := Aside0.mk (hbox); have n3_ := Aside0.mk ((by rw [hg]; exact (below_size (by repeat (first | (with_reducible first | exact HB.out | apply below_alloc | apply pw_below_drewN | apply below_drew1 | refine below_set ?_ GE101.out) | exact HB.out))) : w.heap.size ≤ gb102)); have n4_ := Aside0.mk ((by rw [hg]; exact (below_size (by repeat (first | (with_reducible first | exact HB.out | apply below_alloc | apply pw_below_drewN | apply below_drew1 | refine below_set ?_ GE101.out) | exact HB.out))) : w.heap.size ≤ gb102)); have n5_ := Aside0.mk ((by rw [hg]; exact Nat.ne_of_lt (blk_lt (g := gb101) (o := .cells #[.int .i64 a0_0, .int .i64 a0_1, .int .i64 a0_2] 36 (0, 0)) (by (with_reducible repeat (first | refine blk_drewN ?_ _ | refine blk_drew ?_ | refine blk_alloc ?_ _)); exact BK101.out)) : gb101 ≠ gb102)); have n6_ := Aside0.mk ((by rw [hg]; exact Nat.ne_of_gt (blk_lt (g := gb101) (o := .cells #[.int .i64 a0_0, .int .i64 a0_1, .int .i64 a0_2] 36 (0, 0)) (by (with_reducible repeat (first | refine blk_drewN ?_ _ | refine blk_drew ?_ | refine blk_alloc ?_ _)); exact BK101.out)) : gb102 ≠ gb101)); clear BK101; clear HB; have BK101 := n0_; have HB := n1_; have BK102 := n2_; have GW102 := n3_; have GE102 := n4_; have NB101_102 := n5_; have NB102_101 := n6_; clear n0_ n1_ n2_ n3_ n4_ n5_ n6_; clear hb hbox hg; have hnb18 := NB101_102.out; have hnc18 := NB102_101.out; have hcz19_0 : w17.cell? ⟨gb101, 0, none⟩ = some (.int .i64 a0_0) := (blk_cell BK101.out 0).trans rfl; have hcz19_1 : w17.cell? ⟨gb101, 1, none⟩ = some (.int .i64 a0_1) := (blk_cell BK101.out 1).trans rfl; have hcz19_2 : w17.cell? ⟨gb101, 2, none⟩ = some (.int .i64 a0_2) := (blk_cell BK101.out 2).trans rfl; have hfz19_0 := blk_frozen BK101.out 0; have hfz19_1 := blk_frozen BK101.out 1; have hfz19_2 := blk_frozen BK101.out 2; have hcz20_0 : w17.cell? ⟨gb102, 0, none⟩ = some (.int .i64 a1_0) := (blk_cell BK102.out 0).trans rfl; have hcz20_1 : w17.cell? ⟨gb102, 1, none⟩ = some (.int .i64 a1_1) := (blk_cell BK102.out 1).trans rfl; have hcz20_2 : w17.cell? ⟨gb102, 2, none⟩ = some (.int .i64 a1_2) := (blk_cell BK102.out 2).trans rfl; have hfz20_0 := blk_frozen BK102.out 0; have hfz20_1 := blk_frozen BK102.out 1; have hfz20_2 := blk_frozen BK102.out 2))
   go_ret
   exact ⟨by first | rfl | (simp [errW_none, errW_some] <;> rfl) | (simp [*, errW_none, errW_some] <;> rfl), by repeat (first | (with_reducible first | exact HB.out | apply below_alloc | apply pw_below_drewN | apply below_drew1 | refine below_set ?_ GE101.out | refine below_set ?_ GE102.out) | exact HB.out)⟩
 ·rw [if_neg c3] at H
  have c3b0 : (a0_0 == a1_0) = false := beq_eq_false_iff_ne.mpr c3
  have c3b1 : (a0_0 != a1_0) = true := bne_iff_ne.mpr c3
  obtain rfl := Option.some.inj H
  go_enter Tryd.func27, Tryd.ntmps27
  go_wp2_with (first | ((with_reducible refine gate_dst (N := 2) rfl ?_); refine box_event ?hg (N := 2) ?hd (cs := #[.int .i64 a0_0, .int .i64 a0_1, .int .i64 a0_2]) (t := 36) ?hr ?_; (case hd => rfl); (case hg => rfl); (case hr => first | (go_simp; done) | (go_simp; rfl)); intro gb101 hg w21 hbox hb; have n0_ := Aside0.mk (below_step (by repeat (first | (with_reducible first | exact HB.out | apply below_alloc | apply pw_below_drewN | apply below_drew1) | exact HB.out)) hb); have n1_ := Aside0.mk (hbox); have n2_ := Aside0.mk ((by rw [hg]; exact (below_size (by repeat (first | (with_reducible first | exact HB.out | apply below_alloc | apply pw_below_drewN | apply below_drew1) | exact HB.out))) : w.heap.size ≤ gb101)); have n3_ := Aside0.mk ((by rw [hg]; exact (below_size (by repeat (first | (with_reducible first | exact HB.out | apply below_alloc | apply pw_below_drewN | apply below_drew1) | exact HB.out))) : w.heap.size ≤ gb101)); clear HB; have HB := n0_; have BK101 := n1_; have GW101 := n2_; have GE101 := n3_; clear n0_ n1_ n2_ n3_; clear hb hbox hg) | ((with_reducible refine gate_dst (N := 3) rfl ?_); refine box_event ?hg (N := 3) ?hd (cs := #[.int .i64 a1_0, .int .i64 a1_1, .int .i64 a1_2]) (t := 36) ?hr ?_; (case hd => rfl); (case hg => rfl); (case hr => first | (go_simp; done) | (go_simp; rfl)); intro gb102 hg w22 hbox hb; have n0_ := Aside0.mk (blk_below (g := gb101) (o := .cells #[.int .i64 a0_0, .int .i64 a0_1, .int .i64 a0_2] 36 (0, 0)) (by (with_reducible repeat (first | refine blk_drewN ?_ _ | refine blk_drew ?_ | refine blk_alloc ?_ _)); exact BK101.out) hb); have n1_ := Aside0.mk (below_step (by repeat (first | (with_reducible first | exact HB.out | apply below_alloc | apply pw_below_drewN | apply below_drew1 | refine below_set ?_ GE101.out) | exact HB.out)) hb); have n2_ := Aside0.mk (hbox); have n3_ := Aside0.mk ((by rw [hg]; exact (below_size (by repeat (first | (with_reducible first | exact HB.out | apply below_alloc | apply pw_below_drewN | apply below_drew1 | refine below_set ?_ GE101.out) | exact HB.out))) : w.heap.size ≤ gb102)); have n4_ := Aside0.mk ((by rw [hg]; exact (below_size (by repeat (first | (with_reducible first | exact HB.out | apply below_alloc | apply pw_below_drewN | apply below_drew1 | refine below_set ?_ GE101.out) | exact HB.out))) : w.heap.size ≤ gb102)); have n5_ := Aside0.mk ((by rw [hg]; exact Nat.ne_of_lt (blk_lt (g := gb101) (o := .cells #[.int .i64 a0_0, .int .i64 a0_1, .int .i64 a0_2] 36 (0, 0)) (by (with_reducible repeat (first | refine blk_drewN ?_ _ | refine blk_drew ?_ | refine blk_alloc ?_ _)); exact BK101.out)) : gb101 ≠ gb102)); have n6_ := Aside0.mk ((by rw [hg]; exact Nat.ne_of_gt (blk_lt (g := gb101) (o := .cells #[.int .i64 a0_0, .int .i64 a0_1, .int .i64 a0_2] 36 (0, 0)) (by (with_reducible repeat (first | refine blk_drewN ?_ _ | refine blk_drew ?_ | refine blk_alloc ?_ _)); exact BK101.out)) : gb102 ≠ gb101)); clear BK101; clear HB; have BK101 := n0_; have HB := n1_; have BK102 := n2_; have GW102 := n3_; have GE102 := n4_; have NB101_102 := n5_; have NB102_101 := n6_; clear n0_ n1_ n2_ n3_ n4_ n5_ n6_; clear hb hbox hg; have hnb23 := NB101_102.out; have hnc23 := NB102_101.out; have hcz24_0 : w22.cell? ⟨gb101, 0, none⟩ = some (.int .i64 a0_0) := (blk_cell BK101.out 0).trans rfl; have hcz24_1 : w22.cell? ⟨gb101, 1, none⟩ = some (.int .i64 a0_1) := (blk_cell BK101.out 1).trans rfl; have hcz24_2 : w22.cell? ⟨gb101, 2, none⟩ = some (.int .i64 a0_2) := (blk_cell BK101.out 2).trans rfl; have hfz24_0 := blk_frozen BK101.out 0; have hfz24_1 := blk_frozen BK101.out 1; have hfz24_2 := blk_frozen BK101.out 2; have hcz25_0 : w22.cell? ⟨gb102, 0, none⟩ = some (.int .i64 a1_0) := (blk_cell BK102.out 0).trans rfl; have hcz25_1 : w22.cell? ⟨gb102, 1, none⟩ = some (.int .i64 a1_1) := (blk_cell BK102.out 1).trans rfl; have hcz25_2 : w22.cell? ⟨gb102, 2, none⟩ = some (.int .i64 a1_2) := (blk_cell BK102.out 2).trans rfl; have hfz25_0 := blk_frozen BK102.out 0; have hfz25_1 := blk_frozen BK102.out 1; have hfz25_2 := blk_frozen BK102.out 2))
  go_ret
  exact ⟨by first | rfl | (simp [errW_none, errW_some] <;> rfl) | (simp [*, errW_none, errW_some] <;> rfl), by repeat (first | (with_reducible first | exact HB.out | apply below_alloc | apply pw_below_drewN | apply below_drew1 | refine below_set ?_ GE101.out | refine below_set ?_ GE102.out) | exact HB.out)⟩
end Go.Proofs.YtecpobpcimehlaaDoor.P

