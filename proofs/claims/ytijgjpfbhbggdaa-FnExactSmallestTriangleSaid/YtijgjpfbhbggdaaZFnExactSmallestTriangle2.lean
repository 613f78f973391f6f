/- A part of the proof of FnExactSmallestTriangle: printed contracts and plain laws, joined by a program of this session. -/
import Derived.Test.YtijgjpfbhbggdaaZFnExactSmallestTriangle1
import Derived.Test.YtijgjpfbhbggdaaRows
import Derived.Test.YtijgjpfbhbggdaaProg
import Derived.Below
import Derived.Deep.Draws
import Derived.Deep.AppendLies
import Derived.Maps.AppendAt
import Derived.OwnWalk
import Derived.Laws.BytesArg
import Derived.Laws.MakeOwn
import Derived.Laws.OwnMore
import Derived.Deep.OwnRows
import Derived.Tactics
import Derived.Lib.ConvBytes
import Derived.Laws.Slices
import Derived.WalkKit
import Derived.KernelRfl
import Derived.RowKit3
import Derived.Deep.LoopGhost
import Derived.Deep.QuietTactic
import Derived.BigQuiet
import Derived.WideLaws
import Derived.Deep.DeepCutAuto
import Derived.Deep.CutBlock
import Derived.Deep.RegionHeld3
import Derived.Laws.Rows
import Derived.Lib.AppendStr
import Derived.ArgAppend
import Derived.Laws.IdiomCopy
import Derived.OrdersHeld
import Derived.Laws.BitsLemmas
import Derived.RowKit
import Derived.Shelf.Abstract
import Derived.Test.YtijgjpfbhbggdaaWWords
import Derived.Test.YtijgjpfbhbggdaaWLast
import Derived.Test.YtijgjpfbhbggdaaWTab
import Derived.Test.YtijgjpfbhbggdaaWQPut
import Derived.Test.YtijgjpfbhbggdaaWApart
import Derived.Test.YtijgjpfbhbggdaaWArr
import Derived.Test.YtijgjpfbhbggdaaWZeros
import Derived.Test.YtijgjpfbhbggdaaWFoot
import Derived.Test.YtijgjpfbhbggdaaWKept
import Derived.Test.YtijgjpfbhbggdaaWShare
import Derived.Test.YtijgjpfbhbggdaaWN
import Derived.Test.YtijgjpfbhbggdaaWEqStruct
import Derived.Test.YtijgjpfbhbggdaaWRepsOne
import Derived.Test.YtijgjpfbhbggdaaWGuard
import Derived.Test.YtijgjpfbhbggdaaWNEv
import Derived.Test.YtijgjpfbhbggdaaWMore
import Derived.Shelf.Sort.Plain
import Derived.Shelf.Slices.In.SortNone
import Derived.Deep.Slices
import Derived.ChangeOld
import Derived.Carry
import Derived.ProofKit
import Derived.OpenShut
import Derived.ShutString
import Derived.SizedLaws
namespace Go.Proofs.Ytijgjpfbhbggdaa.P
open Go.RowKit Go.Proofs.YtijgjpfbhbggdaaW.PrintWords Go.Proofs.YtijgjpfbhbggdaaW.PrintLast Go.Proofs.YtijgjpfbhbggdaaW.PrintMore
attribute [local go_sem] max2_int min2_int max_two min_two max_three min_three max_four min_four   -- for this text's walks alone
set_option linter.unusedVariables false
set_option linter.unusedSimpArgs false

/-! ### impl_triangles: function 61 -/
def impl_triangles.l0 : Nat → List (S25) → List Int → List (S65) → Int → Int → Option (List Int)
 | 0, _, _, _, _, _ => none
 | k + 1, x0, x3, x9, x10, x11 => if x11 < x10 then (if 0 ≤ x11 then (if x11 < (x9.length : Int) then (if 0 ≤ ((rd_T65 x9 x11).f0) then (if ((rd_T65 x9 x11).f0) < (x0.length : Int) then (if 0 ≤ ((rd_T65 x9 x11).f1) then (if ((rd_T65 x9 x11).f1) < (x0.length : Int) then (if 0 ≤ ((rd_T65 x9 x11).f2) then (if ((rd_T65 x9 x11).f2) < (x0.length : Int) then ((impl_area.f ((rd_T25 x0 ((rd_T65 x9 x11).f0)).f0) ((rd_T25 x0 ((rd_T65 x9 x11).f0)).f1) ((rd_T25 x0 ((rd_T65 x9 x11).f1)).f0) ((rd_T25 x0 ((rd_T65 x9 x11).f1)).f1) ((rd_T25 x0 ((rd_T65 x9 x11).f2)).f0) ((rd_T25 x0 ((rd_T65 x9 x11).f2)).f1)).bind fun t109 => (if x3.length < 17592186044416 then (impl_triangles.l0 k x0 (x3 ++ [mx t109 (wrap64 (-t109))]) x9 x10 (wrap64 (x11 + 1))) else (none))) else (none)) else (none)) else (none)) else (none)) else (none)) else (none)) else (none)) else (none)) else (some x3)
def impl_triangles.f (k : Nat) (l0 : List (S25)) : Option (List Int) := (impl_triplesOf.f k (l0.length : Int)).bind fun t101 => (impl_triangles.l0 k l0 ([] : List Int) t101 (t101.length : Int) 0)
theorem impl_triangles.mono_l : ∀ k, (∀ y0 y1 y2 y3 y4, LeO (impl_triangles.l0 k y0 y1 y2 y3 y4) (impl_triangles.l0 (k + 1) y0 y1 y2 y3 y4))
 | 0 => fun _ _ _ _ _ r h => by simp [impl_triangles.l0] at h
 | k + 1 => by
  have ih0 := impl_triangles.mono_l k
  ·intro y0 y1 y2 y3 y4
   unfold impl_triangles.l0
   repeat' first
   | (with_reducible exact ih0 _ _ _ _ _)
   | (with_reducible exact impl_triplesOf.mono _ _)
   | (with_reducible exact LeO.refl _)
   | (with_reducible exact LeO.none _)
   | (with_reducible refine LeO.ite ?_ ?_)
   | (with_reducible refine LeO.bind ?_ (fun _ => ?_))
   | exact ih0 _ _ _ _ _
   | exact impl_triplesOf.mono _ _
   | exact LeO.none _
   | refine LeO.ite ?_ ?_
   | refine LeO.bind ?_ (fun _ => ?_)
theorem impl_triangles.mono : ∀ a0 k, LeO (impl_triangles.f k a0) (impl_triangles.f (k + 1) a0) := by
 intro a0 k
 have ih0 := impl_triangles.mono_l k
 unfold impl_triangles.f
 repeat' first
   | (with_reducible exact ih0 _ _ _ _ _)
   | (with_reducible exact impl_triplesOf.mono _ _)
   | (with_reducible exact LeO.refl _)
   | (with_reducible exact LeO.none _)
   | (with_reducible refine LeO.ite ?_ ?_)
   | (with_reducible refine LeO.bind ?_ (fun _ => ?_))
   | exact ih0 _ _ _ _ _
   | exact impl_triplesOf.mono _ _
   | exact LeO.none _
   | refine LeO.ite ?_ ?_
   | refine LeO.bind ?_ (fun _ => ?_)
def impl_triangles.T5 : Bool × List (List Nat × List Nat) := (true, [([], []), ([], []), ([1], [1]), ([0, 2], [0, 2]), ([3], [3]), ([], []), ([], []), ([6], [6]), ([5, 7], [5, 7]), ([8], [8]), ([], []), ([], []), ([11], [11]), ([10, 12], [10, 12]), ([13], [13]), ([4, 9, 14], [4, 9, 14]), ([15, 15, 0, 1, 2, 3, 4, 5, 6, 7, 8, 9, 10, 11, 12, 13, 14, 15], [15])])
def impl_triangles.B5 : List Nat := [0, 0, 2, 7, 15, 0, 0, 64, 224, 480, 0, 0, 2048, 7168, 15360, 32767, 65535]
theorem impl_triangles.tab5 : rtab .any (opsOf Try.f61 5) = impl_triangles.T5 := by kernel_rfl
theorem impl_triangles.bits5 : waitsOk impl_triangles.T5.2 impl_triangles.B5 = true := by kernel_rfl
set_option maxHeartbeats 8000000 in
set_option maxRecDepth 100000 in
theorem impl_triangles.calls (k : Nat) (A0 : Option Addr) (c0 : Nat) (l0 : List (S25)) (r : List Int) (w : World) (hr0 : Kd.C k25 w A0 l0.length l0) (hc0 : l0.length ≤ c0) (h : impl_triangles.f k l0 = some r) :
  Calls Try.prog 61 #[.slice A0 l0.length c0] w fun e w' => ∃ v0_ : Value, e = .returned (v0_) ∧ Kd.R (Kd.int .i64) 3 w' w.heap.size (fun _ => True) v0_ r ∧ Below w.heap.size w w' := by
 have hu65 := Try.underlying65
 have hu25 := Try.underlying25
 have HR0 := Aside0.mk hr0
 have HC0 := Aside0.mk hc0
 clear hr0 hc0
 have HB := Aside0.mk (Below.refl w.heap.size w)
 have H : ((impl_triplesOf.f k (l0.length : Int)).bind fun t101 => (impl_triangles.l0 k l0 ([] : List Int) t101 (t101.length : Int) 0)) = some r := h
 clear h
 replace H := Option.bind_eq_some_iff.mp H
 obtain ⟨t101, A20, H⟩ := H
 replace H : (impl_triangles.l0 k l0 ([] : List Int) t101 (t101.length : Int) 0) = some r := H
 have A2 := Aside0.mk A20
 clear A20
 have H' := Aside0.mk H
 clear H
 go_enter Try.func61, Try.ntmps61
 go_wp2_with (first | ((with_reducible refine gate_callee (f := 62) rfl ?_); refine goesL_ (some 9) rfl rfl Try.func62 (by kernel_rfl) rfl #[.int .i64 (l0.length : Int)] rfl (by (try simp only [List.map_toArray, List.map_cons, List.map_nil]); first | done | rfl | (simp only [List.length_drop, List.length_take]; rfl)) ?_; (with_reducible refine (impl_triplesOf.calls k (l0.length : Int) t101 _ A2.out).mono ?_); rintro e w3 ⟨v102, rfl, ho0, hb⟩; refine ⟨_, rfl, ?_⟩; have n0_ := Aside0.mk (Kd.R_lower ho0 (below_size (by repeat (first | (with_reducible first | exact HB.out | apply below_alloc | apply pw_below_drewN | apply below_drew1) | exact HB.out)))); have n1_ := Aside0.mk (below_step (by repeat (first | (with_reducible first | exact HB.out | apply below_alloc | apply pw_below_drewN | apply below_drew1) | exact HB.out)) hb); clear HB; have HO103 := n0_; have HB := n1_; clear n0_ n1_; (try clear hb); (try clear hb2); (try clear hk); (try clear hi); (try clear ho0); obtain ⟨Ao4, co4, eo4⟩ := Kd.R_slice HO103.out; subst eo4))
 go_loopg [3, 11] k (fun kq v3 v11 w' => ∃ (x3_1 : List Int) (x11_1 : Int), v11 = .int .i64 x11_1 ∧ Aside0 (impl_triangles.l0 kq l0 x3_1 t101 (t101.length : Int) x11_1 = some r) ∧ Aside0 (kq ≤ k) ∧ Aside0 (Kd.R (Kd.int .i64) 3 w' w.heap.size (fun _ => True) v3 x3_1) ∧ Aside0 (Kd.R k65 65 w' w.heap.size (fun _ => True) (.slice Ao4 t101.length co4) t101) ∧ Aside0 (Below w.heap.size w w'))
 case atStart => exact ⟨(([] : List Int)), (0), (by first | rfl | (simp; done) | (simp [*]; done)), H', ⟨Nat.le_refl _⟩, ⟨by first | exact Kd.R_nil _ _ _ _ _ | exact Kd.N_nil _ _ _ _ _ | exact Kd.V_nil _ _ _ _ _ | exact Kd.Q_nil _ _ _ _ _ | exact Kd.S_nil _ _ _ _ _⟩, ⟨by (with_reducible repeat (first | apply Kd.R_alloc | apply Kd.R_drewN | apply Kd.R_drew)); exact HO103.out⟩, ⟨by repeat (first | (with_reducible first | exact HB.out | apply below_alloc | apply pw_below_drewN | apply below_drew1) | exact HB.out)⟩⟩
 case round =>
  clear H'
  try clear p2
  obtain ⟨x3_1, x11_1, rfl, HA, HK1, HO_3, HO_9, HB⟩ := hrel
  cases gk with
  | zero => exact absurd HA.out (by simp [impl_triangles.l0])
  | succ k1 =>
   have H := HA.out
   clear HA
   simp only [impl_triangles.l0] at H
   by_cases c5 : x11_1 < (t101.length : Int)
   ·rw [if_pos c5] at H
    have c5b0 : decide (x11_1 < (t101.length : Int)) = true := decide_eq_true c5
    clear c5
    by_cases c6 : 0 ≤ x11_1
    ·rw [if_pos c6] at H
     have c6b0 : decide (0 ≤ x11_1) = true := decide_eq_true c6
     clear c6
     by_cases c7 : x11_1 < (t101.length : Int)
     ·rw [if_pos c7] at H
      have c7b0 : decide (x11_1 < (t101.length : Int)) = true := decide_eq_true c7
      clear c7
      by_cases c8 : 0 ≤ ((rd_T65 t101 x11_1).f0)
      ·rw [if_pos c8] at H
       have c8b0 : decide (0 ≤ ((rd_T65 t101 x11_1).f0)) = true := decide_eq_true c8
       clear c8
       by_cases c9 : ((rd_T65 t101 x11_1).f0) < (l0.length : Int)
       ·rw [if_pos c9] at H
        have c9b0 : decide (((rd_T65 t101 x11_1).f0) < (l0.length : Int)) = true := decide_eq_true c9
        clear c9
        by_cases c10 : 0 ≤ ((rd_T65 t101 x11_1).f1)
        ·rw [if_pos c10] at H
         have c10b0 : decide (0 ≤ ((rd_T65 t101 x11_1).f1)) = true := decide_eq_true c10
         clear c10
         by_cases c11 : ((rd_T65 t101 x11_1).f1) < (l0.length : Int)
         ·rw [if_pos c11] at H
          have c11b0 : decide (((rd_T65 t101 x11_1).f1) < (l0.length : Int)) = true := decide_eq_true c11
          clear c11
          by_cases c12 : 0 ≤ ((rd_T65 t101 x11_1).f2)
          ·rw [if_pos c12] at H
           have c12b0 : decide (0 ≤ ((rd_T65 t101 x11_1).f2)) = true := decide_eq_true c12
           clear c12
           by_cases c13 : ((rd_T65 t101 x11_1).f2) < (l0.length : Int)
           ·rw [if_pos c13] at H
            have c13b0 : decide (((rd_T65 t101 x11_1).f2) < (l0.length : Int)) = true := decide_eq_true c13
            clear c13
            replace H := Option.bind_eq_some_iff.mp H
            obtain ⟨t109, A140, H⟩ := H
            replace H : (if x3_1.length < 17592186044416 then (impl_triangles.l0 k1 l0 (x3_1 ++ [mx t109 (wrap64 (-t109))]) t101 (t101.length : Int) (wrap64 (x11_1 + 1))) else (none)) = some r := H
            have A14 := Aside0.mk A140
            clear A140
            obtain ⟨ji15, hji15⟩ : ∃ j_ : Int, (mx t109 (wrap64 (-t109))) = j_ := ⟨_, rfl⟩
            replace H : (if x3_1.length < 17592186044416 then (impl_triangles.l0 k1 l0 (x3_1 ++ [ji15]) t101 (t101.length : Int) (wrap64 (x11_1 + 1))) else (none)) = some r := by first | (rw [hji15] at H; exact H) | (simp only [hji15] at H ⊢; exact H)
            (try rw [hji15] at A14)
            have hji15_ : (if t109 < (wrap64 (-t109)) then (wrap64 (-t109)) else t109) = ji15 := hji15
            by_cases c16 : x3_1.length < 17592186044416
            ·rw [if_pos c16] at H
             have LMc16 := Aside0.mk c16
             clear c16
             obtain ⟨y110, hy110⟩ : ∃ y_ : List Int, y_ = (x3_1 ++ [ji15]) := ⟨_, rfl⟩
             replace H : (impl_triangles.l0 k1 l0 y110 t101 (t101.length : Int) (wrap64 (x11_1 + 1))) = some r := by first | (rw [hy110]; with_reducible exact H) | (have H2_ := (Option.bind_some _ _).symm.trans H; rw [hy110]; with_reducible exact H2_) | (have H2_ := (Option.bind_some _ _).symm.trans H; with_reducible exact H2_) | with_reducible exact H | (rw [hy110]; exact H) | exact H
             have Ny110 := Aside0.mk hy110
             clear hy110
             have H' := Aside0.mk H
             clear H
             have p104 : 0 ≤ (x11_1 : Int) := of_decide_eq_true (by first | (with_reducible assumption) | assumption)
             have q104 : x11_1 < (t101.length : Int) := of_decide_eq_true (by first | (with_reducible assumption) | assumption)
             obtain ⟨ad104, e104, hx104_0, hx104_1, hx104_2⟩ := at_T65 (Kd.R_reads' HO_9.out).2.2 x11_1 p104 q104
             cases e104
             replace p104 := eq_true p104
             replace q104 := eq_true q104
             try go_wp2_with (first | ((with_reducible refine gate_dst (N := 5) rfl ?_); refine box_event ?hg (N := 5) ?hd (cs := #[.int .i64 0, .int .i64 0, .int .i64 0]) (t := 65) ?hr ?_; (case hd => rfl); (case hg => rfl); (case hr => first | (go_simp; done) | (go_simp; rfl)); intro gb105 hg w17 hbox hb; have n0_ := Aside0.mk (Kd.R_below (by (with_reducible repeat (first | apply Kd.R_alloc | apply Kd.R_drewN | apply Kd.R_drew)); exact HO_3.out) hb); have n1_ := Aside0.mk (Kd.R_below (Kd.R_elderB (by (with_reducible repeat (first | apply Kd.R_alloc | apply Kd.R_drewN | apply Kd.R_drew)); exact HO_9.out) gb105 (Nat.le_of_eq hg.symm)) hb); have n2_ := Aside0.mk (below_step (by repeat (first | (with_reducible first | exact HB.out | apply below_alloc | apply pw_below_drewN | apply below_drew1) | exact HB.out)) hb); have n3_ := Aside0.mk (hbox); have n4_ := Aside0.mk ((by rw [hg]; exact (below_size (by repeat (first | (with_reducible first | exact HB.out | apply below_alloc | apply pw_below_drewN | apply below_drew1) | exact HB.out))) : w.heap.size ≤ gb105)); have n5_ := Aside0.mk ((by rw [hg]; exact (below_size (by repeat (first | (with_reducible first | exact HB.out | apply below_alloc | apply pw_below_drewN | apply below_drew1) | exact HB.out))) : w.heap.size ≤ gb105)); clear HO_3; clear HO_9; clear HB; have HO_3 := n0_; have HO_9 := n1_; have HB := n2_; have BK105 := n3_; have GW105 := n4_; have GE105 := n5_; clear n0_ n1_ n2_ n3_ n4_ n5_; clear hb hbox hg; have hcz18_0 : w17.cell? ⟨gb105, 0, none⟩ = some (.int .i64 0) := (blk_cell BK105.out 0).trans rfl; have hcz18_1 : w17.cell? ⟨gb105, 1, none⟩ = some (.int .i64 0) := (blk_cell BK105.out 1).trans rfl; have hcz18_2 : w17.cell? ⟨gb105, 2, none⟩ = some (.int .i64 0) := (blk_cell BK105.out 2).trans rfl; have hfz18_0 := blk_frozen BK105.out 0; have hfz18_1 := blk_frozen BK105.out 1; have hfz18_2 := blk_frozen BK105.out 2))
             have n0_ : Aside0 (Kd.R (Kd.int .i64) 3 (((w17.setCell ⟨gb105, 0, none⟩ (.int .i64 ((rd_T65 t101 x11_1).f0))).setCell ⟨gb105, 1, none⟩ (.int .i64 ((rd_T65 t101 x11_1).f1))).setCell ⟨gb105, 2, none⟩ (.int .i64 ((rd_T65 t101 x11_1).f2))) w.heap.size (fun _ => True) u3 x3_1) := ⟨by (with_reducible repeat (first | apply Kd.R_alloc | apply Kd.R_drewN | apply Kd.R_drew)); exact Kd.R_mono (Kd.R_far (p := ⟨gb105, 2, none⟩) (Kd.R_far (p := ⟨gb105, 1, none⟩) (Kd.R_far (p := ⟨gb105, 0, none⟩) (Kd.R_types HO_3.out BK105.out (by decide)) (fun _ hk => hk.2) (.int .i64 ((rd_T65 t101 x11_1).f0))) (fun _ hk => hk.2) (.int .i64 ((rd_T65 t101 x11_1).f1))) (fun _ hk => hk.2) (.int .i64 ((rd_T65 t101 x11_1).f2))) (fun _ hk => trivial)⟩
             have n1_ : Aside0 (Kd.R k65 65 (((w17.setCell ⟨gb105, 0, none⟩ (.int .i64 ((rd_T65 t101 x11_1).f0))).setCell ⟨gb105, 1, none⟩ (.int .i64 ((rd_T65 t101 x11_1).f1))).setCell ⟨gb105, 2, none⟩ (.int .i64 ((rd_T65 t101 x11_1).f2))) w.heap.size (fun k_ => k_ ≠ gb105) (.slice (some ad104) t101.length co4) t101) := ⟨by (with_reducible repeat (first | apply Kd.R_alloc | apply Kd.R_drewN | apply Kd.R_drew)); exact Kd.R_mono (Kd.R_far (p := ⟨gb105, 2, none⟩) (Kd.R_far (p := ⟨gb105, 1, none⟩) (Kd.R_far (p := ⟨gb105, 0, none⟩) (Kd.R_mono HO_9.out (fun k_ hk => (⟨hk, hk.2⟩ : _ ∧ k_ ≠ gb105))) (fun _ hk => hk.2) (.int .i64 ((rd_T65 t101 x11_1).f0))) (fun _ hk => hk.2) (.int .i64 ((rd_T65 t101 x11_1).f1))) (fun _ hk => hk.2) (.int .i64 ((rd_T65 t101 x11_1).f2))) (fun _ hk => hk.1.2)⟩
             have n2_ : Aside0 ((((w17.setCell ⟨gb105, 0, none⟩ (.int .i64 ((rd_T65 t101 x11_1).f0))).setCell ⟨gb105, 1, none⟩ (.int .i64 ((rd_T65 t101 x11_1).f1))).setCell ⟨gb105, 2, none⟩ (.int .i64 ((rd_T65 t101 x11_1).f2))).heap[gb105]? = some (.cells #[.int .i64 ((rd_T65 t101 x11_1).f0), .int .i64 ((rd_T65 t101 x11_1).f1), .int .i64 ((rd_T65 t101 x11_1).f2)] 65 (0, 0))) := ⟨by (with_reducible repeat (first | refine blk_drewN ?_ _ | refine blk_drew ?_ | refine blk_alloc ?_ _)); refine blk_put (cs := #[.int .i64 ((rd_T65 t101 x11_1).f0), .int .i64 ((rd_T65 t101 x11_1).f1), .int .i64 0]) ?_ 2 _ rfl; (with_reducible repeat (first | refine blk_drewN ?_ _ | refine blk_drew ?_ | refine blk_alloc ?_ _)); refine blk_put (cs := #[.int .i64 ((rd_T65 t101 x11_1).f0), .int .i64 0, .int .i64 0]) ?_ 1 _ rfl; (with_reducible repeat (first | refine blk_drewN ?_ _ | refine blk_drew ?_ | refine blk_alloc ?_ _)); refine blk_put (cs := #[.int .i64 0, .int .i64 0, .int .i64 0]) ?_ 0 _ rfl; (with_reducible repeat (first | refine blk_drewN ?_ _ | refine blk_drew ?_ | refine blk_alloc ?_ _)); exact BK105.out⟩
             have n3_ : Aside0 (Below w.heap.size w (((w17.setCell ⟨gb105, 0, none⟩ (.int .i64 ((rd_T65 t101 x11_1).f0))).setCell ⟨gb105, 1, none⟩ (.int .i64 ((rd_T65 t101 x11_1).f1))).setCell ⟨gb105, 2, none⟩ (.int .i64 ((rd_T65 t101 x11_1).f2)))) := ⟨by repeat (first | (with_reducible first | exact HB.out | apply below_alloc | apply pw_below_drewN | apply below_drew1 | refine below_set ?_ GE105.out) | exact HB.out)⟩
             (try clear HO_3)
             (try clear HO_9)
             (try clear BK105)
             (try clear HB)
             generalize (((w17.setCell ⟨gb105, 0, none⟩ (.int .i64 ((rd_T65 t101 x11_1).f0))).setCell ⟨gb105, 1, none⟩ (.int .i64 ((rd_T65 t101 x11_1).f1))).setCell ⟨gb105, 2, none⟩ (.int .i64 ((rd_T65 t101 x11_1).f2))) = w19 at n0_ n1_ n2_ n3_ ⊢
             have HO_3 := n0_
             have HO_9 := n1_
             have BK105 := n2_
             have HB := n3_
             clear n0_ n1_ n2_ n3_
             have n0_ := Aside0.mk (Kd.R_drew HO_3.out)
             have n1_ := Aside0.mk (Kd.R_drew HO_9.out)
             have n2_ := Aside0.mk (blk_drew BK105.out)
             have n3_ := Aside0.mk (below_drew1 HB.out)
             clear HO_3
             clear HO_9
             clear BK105
             clear HB
             have HO_3 := n0_
             have HO_9 := n1_
             have BK105 := n2_
             have HB := n3_
             clear n0_ n1_ n2_ n3_
             have p106 : 0 ≤ (((rd_T65 t101 x11_1).f0) : Int) := of_decide_eq_true (by first | (with_reducible assumption) | assumption)
             have q106 : ((rd_T65 t101 x11_1).f0) < (l0.length : Int) := of_decide_eq_true (by first | (with_reducible assumption) | assumption)
             obtain ⟨ad106, e106, hx106_0, hx106_1⟩ := at_T25 HR0.out ((rd_T65 t101 x11_1).f0) p106 q106
             have hw106_1 := hx106_1
             have hw106_0 := hx106_0
             cases e106
             replace hx106_0 := (HB.out.cell (World.block_lt_of_cell? w _ hx106_0)).trans hx106_0
             replace hx106_1 := (HB.out.cell (World.block_lt_of_cell? w _ hx106_1)).trans hx106_1
             replace p106 := eq_true p106
             replace q106 := eq_true q106
             have p107 : 0 ≤ (((rd_T65 t101 x11_1).f1) : Int) := of_decide_eq_true (by first | (with_reducible assumption) | assumption)
             have q107 : ((rd_T65 t101 x11_1).f1) < (l0.length : Int) := of_decide_eq_true (by first | (with_reducible assumption) | assumption)
             obtain ⟨ad107, e107, hx107_0, hx107_1⟩ := at_T25 HR0.out ((rd_T65 t101 x11_1).f1) p107 q107
             have hw107_1 := hx107_1
             have hw107_0 := hx107_0
             obtain rfl : ad106 = ad107 := (by injection e107)
             replace hx107_0 := (HB.out.cell (World.block_lt_of_cell? w _ hx107_0)).trans hx107_0
             replace hx107_1 := (HB.out.cell (World.block_lt_of_cell? w _ hx107_1)).trans hx107_1
             replace p107 := eq_true p107
             replace q107 := eq_true q107
             have p108 : 0 ≤ (((rd_T65 t101 x11_1).f2) : Int) := of_decide_eq_true (by first | (with_reducible assumption) | assumption)
             have q108 : ((rd_T65 t101 x11_1).f2) < (l0.length : Int) := of_decide_eq_true (by first | (with_reducible assumption) | assumption)
             obtain ⟨ad108, e108, hx108_0, hx108_1⟩ := at_T25 HR0.out ((rd_T65 t101 x11_1).f2) p108 q108
             have hw108_1 := hx108_1
             have hw108_0 := hx108_0
             obtain rfl : ad106 = ad108 := (by injection e108)
             replace hx108_0 := (HB.out.cell (World.block_lt_of_cell? w _ hx108_0)).trans hx108_0
             replace hx108_1 := (HB.out.cell (World.block_lt_of_cell? w _ hx108_1)).trans hx108_1
             replace p108 := eq_true p108
             replace q108 := eq_true q108
             refine start_ (n := 17) (S := fun w' => w'.cell? ⟨gb105, 0, none⟩ = some (.int .i64 ((rd_T65 t101 x11_1).f0)) ∧ w'.cell? ⟨gb105, 1, none⟩ = some (.int .i64 ((rd_T65 t101 x11_1).f1)) ∧ w'.cell? ⟨gb105, 2, none⟩ = some (.int .i64 ((rd_T65 t101 x11_1).f2)) ∧ w'.cell? (ad106.add ((((rd_T65 t101 x11_1).f0)).toNat * 2)) = some (.int .i64 ((rd_T25 l0 ((rd_T65 t101 x11_1).f0)).f0)) ∧ w'.cell? ⟨(ad106.add ((((rd_T65 t101 x11_1).f0)).toNat * 2)).block, (ad106.add ((((rd_T65 t101 x11_1).f0)).toNat * 2)).off + 1, none⟩ = some (.int .i64 ((rd_T25 l0 ((rd_T65 t101 x11_1).f0)).f1)) ∧ w'.cell? (ad106.add ((((rd_T65 t101 x11_1).f1)).toNat * 2)) = some (.int .i64 ((rd_T25 l0 ((rd_T65 t101 x11_1).f1)).f0)) ∧ w'.cell? ⟨(ad106.add ((((rd_T65 t101 x11_1).f1)).toNat * 2)).block, (ad106.add ((((rd_T65 t101 x11_1).f1)).toNat * 2)).off + 1, none⟩ = some (.int .i64 ((rd_T25 l0 ((rd_T65 t101 x11_1).f1)).f1)) ∧ w'.cell? (ad106.add ((((rd_T65 t101 x11_1).f2)).toNat * 2)) = some (.int .i64 ((rd_T25 l0 ((rd_T65 t101 x11_1).f2)).f0)) ∧ w'.cell? ⟨(ad106.add ((((rd_T65 t101 x11_1).f2)).toNat * 2)).block, (ad106.add ((((rd_T65 t101 x11_1).f2)).toNat * 2)).off + 1, none⟩ = some (.int .i64 ((rd_T25 l0 ((rd_T65 t101 x11_1).f2)).f1))) (ds := []) (bm 17 0) (by kernel_rfl) rfl rfl ⟨(blk_cell BK105.out 0).trans rfl, (blk_cell BK105.out 1).trans rfl, (blk_cell BK105.out 2).trans rfl, ((HB.out.cell (World.block_lt_of_cell? w _ hw106_0)).trans hw106_0), ((HB.out.cell (World.block_lt_of_cell? w _ hw106_1)).trans hw106_1), ((HB.out.cell (World.block_lt_of_cell? w _ hw107_0)).trans hw107_0), ((HB.out.cell (World.block_lt_of_cell? w _ hw107_1)).trans hw107_1), ((HB.out.cell (World.block_lt_of_cell? w _ hw108_0)).trans hw108_0), ((HB.out.cell (World.block_lt_of_cell? w _ hw108_1)).trans hw108_1)⟩ (fun hHeld => ?_); refine with_tabW impl_triangles.tab5 impl_triangles.bits5 (fun HT_ HW_ => ?_)
             generalize w19.drew = w20 at HO_3 HO_9 BK105 HB hx106_0 hx106_1 hx107_0 hx107_1 hx108_0 hx108_1 hHeld ⊢
             refine plan_ ((0, 0, 15, 1) :: (0, 1, 16, 3) :: (0, 5, 20, 35) :: (0, 6, 21, 99) :: (0, 10, 25, 1123) :: (0, 11, 26, 3171) :: (2, 2, 17, 3175) :: (0, 3, 18, 3183) :: (2, 4, 19, 3199) :: (2, 7, 22, 3327) :: (0, 8, 23, 3583) :: (2, 9, 24, 4095) :: (2, 12, 27, 8191) :: (0, 13, 28, 16383) :: (2, 14, 29, 32767) :: []) ?_
             iterate 15 (first | (refine planV_ ?_ ?_ rfl rfl (any_of HT_.out (by kernel_rfl)) (fun _ _ _ h => h) (Or.inl ⟨by rfl, ?_⟩) ?_ ?_; rotate_left 2; (· intro w'; go_simp; with_reducible rfl); (· simp only [Act.put, List.setIfInBounds_toArray, List.set_cons_zero, List.set_cons_succ, i64_w, i32_w]; rfl)) | (refine planT_ ?_ ?_ rfl rfl (take_ofW HT_.out HW_.out (by kernel_rfl)) (fun _ _ _ h => h) (Or.inl ⟨by rfl, ?_⟩) hHeld ?_ ?_; rotate_left 2; (· rintro w' ⟨s0, s1, s2, s3, s4, s5, s6, s7, s8⟩; go_simp; with_reducible rfl); (· simp only [Act.put, List.setIfInBounds_toArray, List.set_cons_zero, List.set_cons_succ, i64_w, i32_w]; rfl)))
             refine planEnd_ ?_
             refine one_ (i := 15) (N := some 30) (bm 17 65535) rfl rfl (one_of HT_.out (by kernel_rfl)) (by decide) (fun K hK => ?_)
             refine goes_ Try.func114 (by kernel_rfl) rfl #[.agg #[.int .i64 ((rd_T25 l0 ((rd_T65 t101 x11_1).f0)).f0), .int .i64 ((rd_T25 l0 ((rd_T65 t101 x11_1).f0)).f1)], .agg #[.int .i64 ((rd_T25 l0 ((rd_T65 t101 x11_1).f1)).f0), .int .i64 ((rd_T25 l0 ((rd_T65 t101 x11_1).f1)).f1)], .agg #[.int .i64 ((rd_T25 l0 ((rd_T65 t101 x11_1).f2)).f0), .int .i64 ((rd_T25 l0 ((rd_T65 t101 x11_1).f2)).f1)]] (by rfl) rfl rfl (by (try simp only [List.map_toArray, List.map_cons, List.map_nil]); first | done | rfl | (simp only [List.length_drop, List.length_take]; rfl)) ?_
             with_reducible refine (impl_area.calls ((rd_T25 l0 ((rd_T65 t101 x11_1).f0)).f0) ((rd_T25 l0 ((rd_T65 t101 x11_1).f0)).f1) ((rd_T25 l0 ((rd_T65 t101 x11_1).f1)).f0) ((rd_T25 l0 ((rd_T65 t101 x11_1).f1)).f1) ((rd_T25 l0 ((rd_T65 t101 x11_1).f2)).f0) ((rd_T25 l0 ((rd_T65 t101 x11_1).f2)).f1) t109 _ A14.out).mono ?_
             rintro e w21 ⟨rfl, hb⟩
             refine ⟨_, rfl, ?_⟩
             have n0_ := Aside0.mk (Kd.R_below (by (with_reducible repeat (first | apply Kd.R_alloc | apply Kd.R_drewN | apply Kd.R_drew)); exact HO_3.out) hb)
             have n1_ := Aside0.mk (Kd.R_below (by (with_reducible repeat (first | apply Kd.R_alloc | apply Kd.R_drewN | apply Kd.R_drew)); exact HO_9.out) hb)
             have n2_ := Aside0.mk (blk_below (g := gb105) (o := .cells #[.int .i64 ((rd_T65 t101 x11_1).f0), .int .i64 ((rd_T65 t101 x11_1).f1), .int .i64 ((rd_T65 t101 x11_1).f2)] 65 (0, 0)) (by (with_reducible repeat (first | refine blk_drewN ?_ _ | refine blk_drew ?_ | refine blk_alloc ?_ _)); exact BK105.out) hb)
             have n3_ := Aside0.mk (below_step (by repeat (first | (with_reducible first | exact HB.out | apply below_alloc | apply pw_below_drewN | apply below_drew1 | refine below_set ?_ GE105.out) | exact HB.out)) hb)
             clear HO_3
             clear HO_9
             clear BK105
             clear HB
             have HO_3 := n0_
             have HO_9 := n1_
             have BK105 := n2_
             have HB := n3_
             clear n0_ n1_ n2_ n3_
             (try clear hb)
             (try clear hb2)
             (try clear hk)
             (try clear hi)
             refine hK.out _ _ ⟨(blk_cell BK105.out 0).trans rfl, (blk_cell BK105.out 1).trans rfl, (blk_cell BK105.out 2).trans rfl, ((HB.out.cell (World.block_lt_of_cell? w _ hw106_0)).trans hw106_0), ((HB.out.cell (World.block_lt_of_cell? w _ hw106_1)).trans hw106_1), ((HB.out.cell (World.block_lt_of_cell? w _ hw107_0)).trans hw107_0), ((HB.out.cell (World.block_lt_of_cell? w _ hw107_1)).trans hw107_1), ((HB.out.cell (World.block_lt_of_cell? w _ hw108_0)).trans hw108_0), ((HB.out.cell (World.block_lt_of_cell? w _ hw108_1)).trans hw108_1)⟩ (fun hHeld => ?_)
             clear hK K
             refine norm_ (a' := ?_) ?_ ?_
             rotate_left
             ·show Act.put _ (some 30) _ = _
              simp only [Act.put, List.setIfInBounds_toArray, List.set_cons_zero, List.set_cons_succ, i64_w, i32_w]
              rfl
             refine plan_ ((0, 16, 6, 131071) :: []) ?_
             iterate 1 (first | (refine planV_ ?_ ?_ rfl rfl (any_of HT_.out (by kernel_rfl)) (fun _ _ _ h => h) (Or.inl ⟨by rfl, ?_⟩) ?_ ?_; rotate_left 2; (· intro w'; go_simp; with_reducible rfl); (· simp only [Act.put, List.setIfInBounds_toArray, List.set_cons_zero, List.set_cons_succ, i64_w, i32_w]; rfl)))
             refine planEnd_ ?_
             refine done_ (done_of HT_.out (by kernel_rfl)) ?_
             try go_wp2_with (first | ((with_reducible refine gate_builtin (b := .append) (xs := #[.tmp 31, .tmp 36]) rfl ?_); at_builtin; refine Kd.R_append (Kd.int .i64) (w0 := w) w.heap.size rfl (.tmp 31) (.tmp 36) 33 3 (.int .i64 0) 8 rfl Try.underlying33 info3 rfl (by decide) (by omega) u3 x3_1 ji15 [.int .i64 ji15] (fun _ => True) (fun _ => False) rfl rfl ?aP (fun _ hk => hk.elim) ?aF ?aO ?aB ?aS ?aL ?_; (case aP => exact rfl); (case aB => exact (by repeat (first | (with_reducible first | exact HB.out | apply below_alloc | apply pw_below_drewN | apply below_drew1 | refine below_set ?_ GE105.out) | exact HB.out))); (case aF => exact (fun _ _ => trivial)); (case aO => exact (by (with_reducible repeat (first | apply Kd.R_alloc | apply Kd.R_drewN | apply Kd.R_drew)); exact HO_3.out)); (case aS => exact (below_size (by repeat (first | (with_reducible first | exact HB.out | apply below_alloc | apply pw_below_drewN | apply below_drew1 | refine below_set ?_ GE105.out) | exact HB.out)))); (case aL => have := LMc16.out; omega); intro v111 w22 ho hb hg hat; rw [← Ny110.out] at ho; have n0_ := Aside0.mk (Kd.R_over' (by (with_reducible repeat (first | apply Kd.R_alloc | apply Kd.R_drewN | apply Kd.R_drew)); exact HO_9.out) (Kd.R_typed (by (with_reducible repeat (first | apply Kd.R_alloc | apply Kd.R_drewN | apply Kd.R_drew)); exact HO_3.out)) (by decide) hg); have n1_ := Aside0.mk (blk_grown (g := gb105) (o := .cells #[.int .i64 ((rd_T65 t101 x11_1).f0), .int .i64 ((rd_T65 t101 x11_1).f1), .int .i64 ((rd_T65 t101 x11_1).f2)] 65 (0, 0)) (by (with_reducible repeat (first | refine blk_drewN ?_ _ | refine blk_drew ?_ | refine blk_alloc ?_ _)); exact BK105.out) hg (Kd.R_ne HO_3.out BK105.out (by decide))); have n2_ := Aside0.mk (hb); have n3_ := Aside0.mk (ho); clear HO_9; clear BK105; clear HB; clear HO_3; have HO_9 := n0_; have BK105 := n1_; have HB := n2_; have HO112 := n3_; clear n0_ n1_ n2_ n3_; clear ho hb hg hat))
             go_roundg k1
             case measure => have := HK1.out; omega
             case rel => exact ⟨(y110), (wrap64 (x11_1 + 1)), (by first | rfl | (simp; done) | (simp [*]; done)), H', ⟨by have := HK1.out; omega⟩, ⟨by (with_reducible repeat (first | apply Kd.R_alloc | apply Kd.R_drewN | apply Kd.R_drew)); exact HO112.out⟩, ⟨by (with_reducible repeat (first | apply Kd.R_alloc | apply Kd.R_drewN | apply Kd.R_drew)); exact Kd.R_mono HO_9.out (fun _ hk => trivial)⟩, ⟨by repeat (first | (with_reducible first | exact HB.out | apply below_alloc | apply pw_below_drewN | apply below_drew1 | refine below_set ?_ GE105.out) | exact HB.out)⟩⟩
            ·rw [if_neg c16] at H
             exact absurd H (by simp)
           ·rw [if_neg c13] at H
            exact absurd H (by simp)
          ·rw [if_neg c12] at H
           exact absurd H (by simp)
         ·rw [if_neg c11] at H
          exact absurd H (by simp)
        ·rw [if_neg c10] at H
         exact absurd H (by simp)
       ·rw [if_neg c9] at H
        exact absurd H (by simp)
      ·rw [if_neg c8] at H
       exact absurd H (by simp)
     ·rw [if_neg c7] at H
      exact absurd H (by simp)
    ·rw [if_neg c6] at H
     exact absurd H (by simp)
   ·rw [if_neg c5] at H
    have c5b0 : decide (x11_1 < (t101.length : Int)) = false := decide_eq_false c5
    clear c5
    obtain rfl := Option.some.inj H
    go_wp2
    go_ret
    exact ⟨_, by first | rfl | (simp [errW_none, errW_some] <;> rfl) | (simp [*, errW_none, errW_some] <;> rfl), by (with_reducible repeat (first | apply Kd.R_alloc | apply Kd.R_drewN | apply Kd.R_drew)); exact HO_3.out, by repeat (first | (with_reducible first | exact HB.out | apply below_alloc | apply pw_below_drewN | apply below_drew1) | exact HB.out)⟩

end Go.Proofs.Ytijgjpfbhbggdaa.P

namespace Go.Proofs.Ytijgjpfbhbggdaa.P
open Go.RowKit Go.Proofs.YtijgjpfbhbggdaaW.PrintWords Go.Proofs.YtijgjpfbhbggdaaW.PrintLast Go.Proofs.YtijgjpfbhbggdaaW.PrintMore
attribute [local go_sem] max2_int min2_int max_two min_two max_three min_three max_four min_four   -- for this text's walks alone
set_option linter.unusedVariables false
set_option linter.unusedSimpArgs false

/-! ### slices_Index_int_int: function 63 -/
def slices_Index_int_int.l0 : Nat → List Int → Int → Int → Int → Option (Int)
 | 0, _, _, _, _ => none
 | k + 1, x0, x1, x7, x8 => if x8 < x7 then (if 0 ≤ x8 then (if x8 < (x0.length : Int) then (if x1 = (rd x0 x8) then (some x8) else (slices_Index_int_int.l0 k x0 x1 x7 (wrap64 (x8 + 1)))) else (none)) else (none)) else (some (-1))
def slices_Index_int_int.f (k : Nat) (l0 : List Int) (a1 : Int) : Option (Int) := slices_Index_int_int.l0 k l0 a1 (l0.length : Int) 0
theorem slices_Index_int_int.mono_l : ∀ k, (∀ y0 y1 y2 y3, LeO (slices_Index_int_int.l0 k y0 y1 y2 y3) (slices_Index_int_int.l0 (k + 1) y0 y1 y2 y3))
 | 0 => fun _ _ _ _ r h => by simp [slices_Index_int_int.l0] at h
 | k + 1 => by
  have ih0 := slices_Index_int_int.mono_l k
  ·intro y0 y1 y2 y3
   unfold slices_Index_int_int.l0
   repeat' first
   | (with_reducible exact ih0 _ _ _ _)
   | (with_reducible exact LeO.refl _)
   | (with_reducible exact LeO.none _)
   | (with_reducible refine LeO.ite ?_ ?_)
   | (with_reducible refine LeO.bind ?_ (fun _ => ?_))
   | exact ih0 _ _ _ _
   | exact LeO.none _
   | refine LeO.ite ?_ ?_
   | refine LeO.bind ?_ (fun _ => ?_)
theorem slices_Index_int_int.mono : ∀ a0 a1 k, LeO (slices_Index_int_int.f k a0 a1) (slices_Index_int_int.f (k + 1) a0 a1) := by
 intro a0 a1 k
 have ih0 := slices_Index_int_int.mono_l k
 unfold slices_Index_int_int.f
 repeat' first
   | (with_reducible exact ih0 _ _ _ _)
   | (with_reducible exact LeO.refl _)
   | (with_reducible exact LeO.none _)
   | (with_reducible refine LeO.ite ?_ ?_)
   | (with_reducible refine LeO.bind ?_ (fun _ => ?_))
   | exact ih0 _ _ _ _
   | exact LeO.none _
   | refine LeO.ite ?_ ?_
   | refine LeO.bind ?_ (fun _ => ?_)
set_option maxHeartbeats 8000000 in
set_option maxRecDepth 100000 in
theorem slices_Index_int_int.calls (k : Nat) (A0 : Option Addr) (c0 : Nat) (l0 : List Int) (a1 : Int) (r : Int) (w : World) (hr0 : Kd.C (Kd.int .i64) w A0 l0.length l0) (hc0 : l0.length ≤ c0) (h : slices_Index_int_int.f k l0 a1 = some r) :
  Calls Try.prog 63 #[.slice A0 l0.length c0, .int .i64 a1] w fun e w' => e = .returned (.int .i64 r) ∧ Drawn0 w w' := by
 have HR0 := Aside0.mk hr0
 have HC0 := Aside0.mk hc0
 clear hr0 hc0
 have H : (slices_Index_int_int.l0 k l0 a1 (l0.length : Int) 0) = some r := h
 clear h
 have H' := Aside0.mk H
 clear H
 go_enter Try.func63, Try.ntmps63
 go_wp2
 go_loopg [8] k (fun kq v8 w' => ∃ (x8_1 : Int), v8 = .int .i64 x8_1 ∧ Aside0 (slices_Index_int_int.l0 kq l0 a1 (l0.length : Int) x8_1 = some r) ∧ Aside0 (kq ≤ k) ∧ Drawn0 w w')
 case atStart => exact ⟨(0), (by first | rfl | (simp; done) | (simp [*]; done)), H', ⟨Nat.le_refl _⟩, by repeat (first | exact Drawn0.refl _ | apply Drawn0.step)⟩
 case round =>
  clear H'
  try clear p2
  obtain ⟨x8_1, rfl, HA, HK1, ⟨m1, rfl⟩⟩ := hrel
  cases gk with
  | zero => exact absurd HA.out (by simp [slices_Index_int_int.l0])
  | succ k1 =>
   have H := HA.out
   clear HA
   simp only [slices_Index_int_int.l0] at H
   by_cases c3 : x8_1 < (l0.length : Int)
   ·rw [if_pos c3] at H
    have c3b0 : decide (x8_1 < (l0.length : Int)) = true := decide_eq_true c3
    clear c3
    by_cases c4 : 0 ≤ x8_1
    ·rw [if_pos c4] at H
     have c4b0 : decide (0 ≤ x8_1) = true := decide_eq_true c4
     clear c4
     by_cases c5 : x8_1 < (l0.length : Int)
     ·rw [if_pos c5] at H
      have c5b0 : decide (x8_1 < (l0.length : Int)) = true := decide_eq_true c5
      clear c5
      by_cases c6 : a1 = (rd l0 x8_1)
      ·rw [if_pos c6] at H
       have c6b0 : (a1 == (rd l0 x8_1)) = true := beq_iff_eq.mpr c6
       have c6b1 : (a1 != (rd l0 x8_1)) = false := bne_eq_false_iff_eq.mpr c6
       clear c6
       obtain rfl := Option.some.inj H
       have p101 : 0 ≤ (x8_1 : Int) := of_decide_eq_true (by first | (with_reducible assumption) | assumption)
       have q101 : x8_1 < (l0.length : Int) := of_decide_eq_true (by first | (with_reducible assumption) | assumption)
       obtain ⟨ad101, e101, hx101_0⟩ := Kd.at_int HR0.out x8_1 p101 q101
       cases e101
       replace p101 := eq_true p101
       replace q101 := eq_true q101
       go_wp2
       go_ret
       exact ⟨by first | rfl | (simp; done) | (simp [*]; done), by repeat (first | exact Drawn0.refl _ | apply Drawn0.step)⟩
      ·rw [if_neg c6] at H
       have c6b0 : (a1 == (rd l0 x8_1)) = false := beq_eq_false_iff_ne.mpr c6
       have c6b1 : (a1 != (rd l0 x8_1)) = true := bne_iff_ne.mpr c6
       have H' := Aside0.mk H
       clear H
       have p101 : 0 ≤ (x8_1 : Int) := of_decide_eq_true (by first | (with_reducible assumption) | assumption)
       have q101 : x8_1 < (l0.length : Int) := of_decide_eq_true (by first | (with_reducible assumption) | assumption)
       obtain ⟨ad101, e101, hx101_0⟩ := Kd.at_int HR0.out x8_1 p101 q101
       cases e101
       replace p101 := eq_true p101
       replace q101 := eq_true q101
       go_wp2
       go_roundg k1
       case measure => have := HK1.out; omega
       case rel => exact ⟨(wrap64 (x8_1 + 1)), (by first | rfl | (simp; done) | (simp [*]; done)), H', ⟨by have := HK1.out; omega⟩, by repeat (first | exact Drawn0.refl _ | apply Drawn0.step)⟩
     ·rw [if_neg c5] at H
      exact absurd H (by simp)
    ·rw [if_neg c4] at H
     exact absurd H (by simp)
   ·rw [if_neg c3] at H
    have c3b0 : decide (x8_1 < (l0.length : Int)) = false := decide_eq_false c3
    clear c3
    obtain rfl := Option.some.inj H
    go_wp2
    go_ret
    exact ⟨by first | rfl | (simp; done) | (simp [*]; done), by repeat (first | exact Drawn0.refl _ | apply Drawn0.step)⟩

end Go.Proofs.Ytijgjpfbhbggdaa.P

namespace Go.Proofs.Ytijgjpfbhbggdaa.P
open Go.RowKit Go.Proofs.YtijgjpfbhbggdaaW.PrintWords Go.Proofs.YtijgjpfbhbggdaaW.PrintLast Go.Proofs.YtijgjpfbhbggdaaW.PrintMore
attribute [local go_sem] max2_int min2_int max_two min_two max_three min_three max_four min_four   -- for this text's walks alone
set_option linter.unusedVariables false
set_option linter.unusedSimpArgs false

/-! ### slices_Min_int_int: function 64 -/
def slices_Min_int_int.f (l0 : List Int) : Option Int := match l0 with | [] => none | x :: t => some (t.foldl mn x)
theorem mn_take (l : List Int) (x : Int) (i : Nat) (hi : i < l.length) : (l.take (i + 1)).foldl mn x = mn ((l.take i).foldl mn x) (rd l i) := by
 rw [List.take_succ_eq_append_getElem hi, List.foldl_append]
 simp [rd, List.getD_eq_getElem?_getD, List.getElem?_eq_getElem hi]
set_option maxHeartbeats 1000000 in
set_option maxRecDepth 100000 in
theorem slices_Min_int_int.calls (A0 : Option Addr) (c0 : Nat) (l0 : List Int) (r : Int) (w : World) (hr0 : Kd.C (Kd.int .i64) w A0 l0.length l0) (hc0 : l0.length ≤ c0) (h : slices_Min_int_int.f l0 = some r) :
  Calls Try.prog 64 #[.slice A0 l0.length c0] w fun e w' => e = .returned (.int .i64 r) ∧ Drawn0 w w' := by
 obtain ⟨x, t, hl, hr⟩ : ∃ x t, l0 = x :: t ∧ t.foldl mn x = r := by
  cases l0 with
  | nil => simp [slices_Min_int_int.f] at h
  | cons x t => exact ⟨x, t, rfl, Option.some.inj h⟩
 have HR := Aside0.mk hr0
 have HLEN := Aside0.mk (show l0.length = t.length + 1 by rw [hl]; rfl)
 have HMAX := Aside0.mk (show l0.length ≤ 9223372036854775807 from hr0.2.1)
 have HX := Aside0.mk (show rd l0 0 = x by rw [hl]; rfl)
 have HT := Aside0.mk (show ∀ i : Nat, rd l0 ((i : Int) + 1) = rd t i by
  intro i
  rw [hl]
  unfold rd
  rw [show ((i : Int) + 1).toNat = i + 1 by omega, show ((i : Int)).toNat = i by omega, List.getD_cons_succ])
 have HF := Aside0.mk hr
 clear hr0 h hl hr
 have c1 : decide ((l0.length : Int) < 1) = false := decide_eq_false (by have := HLEN.out; omega)
 have q0 : ((0 : Int) < (l0.length : Int)) = True := eq_true (by have := HLEN.out; omega)
 have q1 : (0 < l0.length) = True := eq_true (by have := HLEN.out; omega)
 obtain ⟨ad, rfl, hx0⟩ := Kd.at_int HR.out 0 (Int.le_refl 0) (by have := HLEN.out; omega)
 rw [HX.out, show ad.add (Int.toNat 0) = ad by simp [Addr.add]] at hx0
 go_enter Try.func64, Try.ntmps64
 go_wp2
 go_loopg [3, 4] l0.length (fun gg v3 v4 w' => ∃ z : Int, Aside0 (1 ≤ z ∧ z ≤ (l0.length : Int) ∧ l0.length - z.toNat ≤ gg) ∧ v4 = .int .i64 z ∧ v3 = .int .i64 ((t.take (z - 1).toNat).foldl mn x) ∧ Drawn0 w w')
 case atStart => exact ⟨1, ⟨by have := HLEN.out; omega⟩, rfl, rfl, Drawn0.refl _⟩
 case round =>
  obtain ⟨z, HZ, rfl, rfl, ⟨m, rfl⟩⟩ := hrel
  by_cases hlt : z < (l0.length : Int)
  ·have c2 : decide (z < (l0.length : Int)) = true := decide_eq_true hlt
   have p3 : (0 ≤ z) = True := eq_true (by have := HZ.out; omega)
   have q3 : (z < (l0.length : Int)) = True := eq_true hlt
   obtain ⟨ad', e, hx1⟩ := Kd.at_int HR.out z (by have := HZ.out; omega) hlt
   cases e
   have hz : rd l0 z = rd t ((z - 1).toNat : Nat) := by
    have := HT.out (z - 1).toNat
    rw [show (((z - 1).toNat : Nat) : Int) + 1 = z by have := HZ.out; omega] at this
    exact this
   rw [hz] at hx1
   have HM := Aside0.mk (mn_take t x (z - 1).toNat (by have := HZ.out; have := HLEN.out; omega)).symm
   have HW := Aside0.mk (show wrap64 (z + 1) = z + 1 by have := HZ.out; have := HMAX.out; unfold wrap64; omega)
   have HL2 := Aside0.mk hlt
   clear hx0 hz hlt
   obtain ⟨m0, hm0⟩ : ∃ m0, (t.take (z - 1).toNat).foldl mn x = m0 := ⟨_, rfl⟩
   obtain ⟨e0, he0⟩ : ∃ e0, rd t ((z - 1).toNat : Nat) = e0 := ⟨_, rfl⟩
   rw [he0] at hx1
   rw [hm0]
   have HM := Aside0.mk (show mn m0 e0 = (t.take ((z - 1).toNat + 1)).foldl mn x by rw [← hm0, ← he0]; exact HM.out)
   clear hm0 he0
   go_wp2
   ·go_roundg (l0.length - (z + 1).toNat)
    case measure => have := HZ.out; have := HL2.out; omega
    case rel => exact ⟨wrap64 (z + 1), ⟨by rw [HW.out]; have := HZ.out; have := HL2.out; omega⟩, by first | rfl | (simp; done), by rw [HW.out, show (z + 1 - 1).toNat = (z - 1).toNat + 1 by have := HZ.out; omega, ← HM.out]; unfold mn; rw [if_pos (by assumption)], by repeat (first | exact Drawn0.refl _ | apply Drawn0.step)⟩
   ·go_roundg (l0.length - (z + 1).toNat)
    case measure => have := HZ.out; have := HL2.out; omega
    case rel => exact ⟨wrap64 (z + 1), ⟨by rw [HW.out]; have := HZ.out; have := HL2.out; omega⟩, by first | rfl | (simp; done), by rw [HW.out, show (z + 1 - 1).toNat = (z - 1).toNat + 1 by have := HZ.out; omega, ← HM.out]; unfold mn; rw [if_neg (by omega)], by repeat (first | exact Drawn0.refl _ | apply Drawn0.step)⟩
  ·have c2 : decide (z < (l0.length : Int)) = false := decide_eq_false hlt
   have hti : t.take (z - 1).toNat = t := List.take_of_length_le (by have := HZ.out; have := HLEN.out; omega)
   rw [hti, HF.out]
   clear hlt
   go_wp2
   go_ret
   exact ⟨rfl, by repeat (first | exact Drawn0.refl _ | apply Drawn0.step)⟩

end Go.Proofs.Ytijgjpfbhbggdaa.P

namespace Go.Proofs.Ytijgjpfbhbggdaa.P
open Go.RowKit Go.Proofs.YtijgjpfbhbggdaaW.PrintWords Go.Proofs.YtijgjpfbhbggdaaW.PrintLast Go.Proofs.YtijgjpfbhbggdaaW.PrintMore
attribute [local go_sem] max2_int min2_int max_two min_two max_three min_three max_four min_four   -- for this text's walks alone
set_option linter.unusedVariables false
set_option linter.unusedSimpArgs false

/-! ### impl_SmallestTriangle: function 24 -/
def impl_SmallestTriangle.f (k : Nat) (l0 : List (S25)) : Option (List Int) := (impl_ArePoints.f k l0).bind fun t101 => (if t101 = true then ((impl_triangles.f k l0).bind fun t102 => ((impl_triplesOf.f k (l0.length : Int)).bind fun t105 => ((slices_Min_int_int.f t102).bind fun t108 => ((slices_Index_int_int.f k t102 t108).bind fun t109 => (if 0 ≤ t109 then (if t109 < (t105.length : Int) then (some (([(rd_T65 t105 t109).f0, (rd_T65 t105 t109).f1, (rd_T65 t105 t109).f2] : List Int))) else (none)) else (none)))))) else (some ([] : List Int)))
theorem impl_SmallestTriangle.mono : ∀ a0 k, LeO (impl_SmallestTriangle.f k a0) (impl_SmallestTriangle.f (k + 1) a0) := by
 intro a0 k
 unfold impl_SmallestTriangle.f
 repeat' first
   | (with_reducible exact impl_ArePoints.mono _ _)
   | (with_reducible exact impl_triangles.mono _ _)
   | (with_reducible exact impl_triplesOf.mono _ _)
   | (with_reducible exact slices_Index_int_int.mono _ _ _)
   | (with_reducible exact LeO.refl _)
   | (with_reducible exact LeO.none _)
   | (with_reducible refine LeO.ite ?_ ?_)
   | (with_reducible refine LeO.bind ?_ (fun _ => ?_))
   | exact impl_ArePoints.mono _ _
   | exact impl_triangles.mono _ _
   | exact impl_triplesOf.mono _ _
   | exact slices_Index_int_int.mono _ _ _
   | exact LeO.none _
   | refine LeO.ite ?_ ?_
   | refine LeO.bind ?_ (fun _ => ?_)
set_option maxHeartbeats 8000000 in
set_option maxRecDepth 100000 in
theorem impl_SmallestTriangle.calls (k : Nat) (A0 : Option Addr) (c0 : Nat) (l0 : List (S25)) (r : List Int) (w : World) (hr0 : Kd.C k25 w A0 l0.length l0) (hc0 : l0.length ≤ c0) (h : impl_SmallestTriangle.f k l0 = some r) :
  Calls Try.prog 24 #[.slice A0 l0.length c0] w fun e w' => ∃ v0_ : Value, e = .returned (v0_) ∧ Kd.R (Kd.int .i64) 3 w' w.heap.size (fun _ => True) v0_ r ∧ Below w.heap.size w w' := by
 have hu65 := Try.underlying65
 have HR0 := Aside0.mk hr0
 have HC0 := Aside0.mk hc0
 clear hr0 hc0
 have HB := Aside0.mk (Below.refl w.heap.size w)
 have H : ((impl_ArePoints.f k l0).bind fun t101 => (if t101 = true then ((impl_triangles.f k l0).bind fun t102 => ((impl_triplesOf.f k (l0.length : Int)).bind fun t105 => ((slices_Min_int_int.f t102).bind fun t108 => ((slices_Index_int_int.f k t102 t108).bind fun t109 => (if 0 ≤ t109 then (if t109 < (t105.length : Int) then (some (([(rd_T65 t105 t109).f0, (rd_T65 t105 t109).f1, (rd_T65 t105 t109).f2] : List Int))) else (none)) else (none)))))) else (some ([] : List Int)))) = some r := h
 clear h
 replace H := Option.bind_eq_some_iff.mp H
 obtain ⟨t101, A20, H⟩ := H
 replace H : (if t101 = true then ((impl_triangles.f k l0).bind fun t102 => ((impl_triplesOf.f k (l0.length : Int)).bind fun t105 => ((slices_Min_int_int.f t102).bind fun t108 => ((slices_Index_int_int.f k t102 t108).bind fun t109 => (if 0 ≤ t109 then (if t109 < (t105.length : Int) then (some (([(rd_T65 t105 t109).f0, (rd_T65 t105 t109).f1, (rd_T65 t105 t109).f2] : List Int))) else (none)) else (none)))))) else (some ([] : List Int))) = some r := H
 have A2 := Aside0.mk A20
 clear A20
 by_cases c3 : t101 = true
 ·subst c3
  have H1 : ((impl_triangles.f k l0).bind fun t102 => ((impl_triplesOf.f k (l0.length : Int)).bind fun t105 => ((slices_Min_int_int.f t102).bind fun t108 => ((slices_Index_int_int.f k t102 t108).bind fun t109 => (if 0 ≤ t109 then (if t109 < (t105.length : Int) then (some (([(rd_T65 t105 t109).f0, (rd_T65 t105 t109).f1, (rd_T65 t105 t109).f2] : List Int))) else (none)) else (none)))))) = some r := by rw [if_pos rfl] at H; exact H
  clear H
  have H := H1
  clear H1
  replace H := Option.bind_eq_some_iff.mp H
  obtain ⟨t102, A40, H⟩ := H
  replace H : ((impl_triplesOf.f k (l0.length : Int)).bind fun t105 => ((slices_Min_int_int.f t102).bind fun t108 => ((slices_Index_int_int.f k t102 t108).bind fun t109 => (if 0 ≤ t109 then (if t109 < (t105.length : Int) then (some (([(rd_T65 t105 t109).f0, (rd_T65 t105 t109).f1, (rd_T65 t105 t109).f2] : List Int))) else (none)) else (none))))) = some r := H
  have A4 := Aside0.mk A40
  clear A40
  replace H := Option.bind_eq_some_iff.mp H
  obtain ⟨t105, A50, H⟩ := H
  replace H : ((slices_Min_int_int.f t102).bind fun t108 => ((slices_Index_int_int.f k t102 t108).bind fun t109 => (if 0 ≤ t109 then (if t109 < (t105.length : Int) then (some (([(rd_T65 t105 t109).f0, (rd_T65 t105 t109).f1, (rd_T65 t105 t109).f2] : List Int))) else (none)) else (none)))) = some r := H
  have A5 := Aside0.mk A50
  clear A50
  replace H := Option.bind_eq_some_iff.mp H
  obtain ⟨t108, A60, H⟩ := H
  replace H : ((slices_Index_int_int.f k t102 t108).bind fun t109 => (if 0 ≤ t109 then (if t109 < (t105.length : Int) then (some (([(rd_T65 t105 t109).f0, (rd_T65 t105 t109).f1, (rd_T65 t105 t109).f2] : List Int))) else (none)) else (none))) = some r := H
  have A6 := Aside0.mk A60
  clear A60
  replace H := Option.bind_eq_some_iff.mp H
  obtain ⟨t109, A70, H⟩ := H
  replace H : (if 0 ≤ t109 then (if t109 < (t105.length : Int) then (some (([(rd_T65 t105 t109).f0, (rd_T65 t105 t109).f1, (rd_T65 t105 t109).f2] : List Int))) else (none)) else (none)) = some r := H
  have A7 := Aside0.mk A70
  clear A70
  by_cases c8 : 0 ≤ t109
  ·rw [if_pos c8] at H
   have c8b0 : decide (0 ≤ t109) = true := decide_eq_true c8
   clear c8
   by_cases c9 : t109 < (t105.length : Int)
   ·rw [if_pos c9] at H
    have c9b0 : decide (t109 < (t105.length : Int)) = true := decide_eq_true c9
    clear c9
    obtain ⟨y112, hy112⟩ : ∃ y_ : List Int, y_ = (([(rd_T65 t105 t109).f0, (rd_T65 t105 t109).f1, (rd_T65 t105 t109).f2] : List Int)) := ⟨_, rfl⟩
    replace H : (some y112) = some r := by first | (rw [hy112]; with_reducible exact H) | (have H2_ := (Option.bind_some _ _).symm.trans H; rw [hy112]; with_reducible exact H2_) | (have H2_ := (Option.bind_some _ _).symm.trans H; with_reducible exact H2_) | with_reducible exact H | (rw [hy112]; exact H) | exact H
    have Ny112 := Aside0.mk hy112
    clear hy112
    obtain rfl := Option.some.inj H
    go_enter Try.func24, Try.ntmps24
    go_wp2_with (first | ((with_reducible refine gate_callee (f := 56) rfl ?_); refine goesL_ (some 6) rfl rfl Try.func56 (by kernel_rfl) rfl #[.slice A0 l0.length c0] rfl (by (try simp only [List.map_toArray, List.map_cons, List.map_nil]); first | done | rfl | (simp only [List.length_drop, List.length_take]; rfl)) ?_; (with_reducible refine (impl_ArePoints.calls k _ _ l0 true _ ?side1 ?side2 A2.out).mono ?_); (case side1 => repeat (first | exact HR0.out | (with_reducible refine Kd.C_alloc ?_ _) | (with_reducible refine Kd.C_drewN ?_ _) | (with_reducible refine Kd.C_drew ?_))); (case side2 => exact HC0.out); rintro e w10 ⟨rfl, hb⟩; refine ⟨_, rfl, ?_⟩; have n0_ := Aside0.mk (below_step (by repeat (first | (with_reducible first | exact HB.out | apply below_alloc | apply pw_below_drewN | apply below_drew1) | exact HB.out)) hb); clear HB; have HB := n0_; clear n0_; (try clear hb); (try clear hb2); (try clear hk); (try clear hi)) | ((with_reducible refine gate_callee (f := 61) rfl ?_); refine goesL_ (some 9) rfl rfl Try.func61 (by kernel_rfl) rfl #[.slice A0 l0.length c0] rfl (by (try simp only [List.map_toArray, List.map_cons, List.map_nil]); first | done | rfl | (simp only [List.length_drop, List.length_take]; rfl)) ?_; (with_reducible refine (impl_triangles.calls k _ _ l0 t102 _ ?side1 ?side2 A4.out).mono ?_); (case side1 => repeat (first | exact (Kd.C_below HR0.out HB.out) | (with_reducible refine Kd.C_alloc ?_ _) | (with_reducible refine Kd.C_drewN ?_ _) | (with_reducible refine Kd.C_drew ?_))); (case side2 => exact HC0.out); rintro e w11 ⟨v103, rfl, ho0, hb⟩; refine ⟨_, rfl, ?_⟩; have n0_ := Aside0.mk (Kd.R_lower ho0 (below_size (by repeat (first | (with_reducible first | exact HB.out | apply below_alloc | apply pw_below_drewN | apply below_drew1) | exact HB.out)))); have n1_ := Aside0.mk (below_step (by repeat (first | (with_reducible first | exact HB.out | apply below_alloc | apply pw_below_drewN | apply below_drew1) | exact HB.out)) hb); clear HB; have HO104 := n0_; have HB := n1_; clear n0_ n1_; (try clear hb); (try clear hb2); (try clear hk); (try clear hi); (try clear ho0)) | ((with_reducible refine gate_callee (f := 62) rfl ?_); refine goesL_ (some 12) rfl rfl Try.func62 (by kernel_rfl) rfl #[.int .i64 (l0.length : Int)] rfl (by (try simp only [List.map_toArray, List.map_cons, List.map_nil]); first | done | rfl | (simp only [List.length_drop, List.length_take]; rfl)) ?_; (with_reducible refine (impl_triplesOf.calls k (l0.length : Int) t105 _ A5.out).mono ?_); rintro e w12 ⟨v106, rfl, ho0, hb⟩; refine ⟨_, rfl, ?_⟩; have n0_ := Aside0.mk (Kd.R_below (by (with_reducible repeat (first | apply Kd.R_alloc | apply Kd.R_drewN | apply Kd.R_drew)); exact HO104.out) hb); have n1_ := Aside0.mk (Kd.R_lower ho0 (below_size (by repeat (first | (with_reducible first | exact HB.out | apply below_alloc | apply pw_below_drewN | apply below_drew1) | exact HB.out)))); have n2_ := Aside0.mk (below_step (by repeat (first | (with_reducible first | exact HB.out | apply below_alloc | apply pw_below_drewN | apply below_drew1) | exact HB.out)) hb); clear HO104; clear HB; have HO104 := n0_; have HO107 := n1_; have HB := n2_; clear n0_ n1_ n2_; (try clear hb); (try clear hb2); (try clear hk); (try clear hi); (try clear ho0); obtain ⟨Ao13, co13, eo13⟩ := Kd.R_slice HO104.out; subst eo13) | ((with_reducible refine gate_callee (f := 64) rfl ?_); refine goesL_ (some 15) rfl rfl Try.func64 (by kernel_rfl) rfl #[.slice Ao13 t102.length co13] rfl (by (try simp only [List.map_toArray, List.map_cons, List.map_nil]); first | done | rfl | (simp only [List.length_drop, List.length_take]; rfl)) ?_; (with_reducible refine (slices_Min_int_int.calls _ _ t102 t108 _ ?side1 ?side2 A6.out).mono ?_); (case side1 => repeat (first | exact (Kd.R_reads' HO104.out).2.2 | (with_reducible refine Kd.C_alloc ?_ _) | (with_reducible refine Kd.C_drewN ?_ _) | (with_reducible refine Kd.C_drew ?_))); (case side2 => exact (Kd.R_reads' HO104.out).2.1); rintro e w' ⟨rfl, ⟨nd, rfl⟩⟩; refine ⟨_, rfl, ?_⟩; (try (rw [drewN_self w12]; generalize hq_ : World.drewN w12 _ = w12; have n0_ : Aside0 (Kd.R (Kd.int .i64) 3 w12 w.heap.size (fun _ => True) (.slice Ao13 t102.length co13) t102) := ⟨by rw [← hq_]; exact (by (with_reducible repeat (first | apply Kd.R_alloc | apply Kd.R_drewN | apply Kd.R_drew)); exact HO104.out)⟩; have n1_ : Aside0 (Kd.R k65 65 w12 w.heap.size (fun _ => True) v106 t105) := ⟨by rw [← hq_]; exact (by (with_reducible repeat (first | apply Kd.R_alloc | apply Kd.R_drewN | apply Kd.R_drew)); exact HO107.out)⟩; have n2_ : Aside0 (Below w.heap.size w w12) := ⟨by rw [← hq_]; exact (by repeat (first | (with_reducible first | exact HB.out | apply below_alloc | apply pw_below_drewN | apply below_drew1) | exact HB.out))⟩; clear HO104 HO107 HB hq_; have HO104 := n0_; have HO107 := n1_; have HB := n2_; clear n0_ n1_ n2_))) | ((with_reducible refine gate_callee (f := 63) rfl ?_); refine goesL_ (some 16) rfl rfl Try.func63 (by kernel_rfl) rfl #[.slice Ao13 t102.length co13, .int .i64 t108] rfl (by (try simp only [List.map_toArray, List.map_cons, List.map_nil]); first | done | rfl | (simp only [List.length_drop, List.length_take]; rfl)) ?_; (with_reducible refine (slices_Index_int_int.calls k _ _ t102 t108 t109 _ ?side1 ?side2 A7.out).mono ?_); (case side1 => repeat (first | exact (Kd.R_reads' HO104.out).2.2 | (with_reducible refine Kd.C_alloc ?_ _) | (with_reducible refine Kd.C_drewN ?_ _) | (with_reducible refine Kd.C_drew ?_))); (case side2 => exact (Kd.R_reads' HO104.out).2.1); rintro e w' ⟨rfl, ⟨nd, rfl⟩⟩; refine ⟨_, rfl, ?_⟩; (try (rw [drewN_self w12]; generalize hq_ : World.drewN w12 _ = w12; have n0_ : Aside0 (Kd.R (Kd.int .i64) 3 w12 w.heap.size (fun _ => True) (.slice Ao13 t102.length co13) t102) := ⟨by rw [← hq_]; exact (by (with_reducible repeat (first | apply Kd.R_alloc | apply Kd.R_drewN | apply Kd.R_drew)); exact HO104.out)⟩; have n1_ : Aside0 (Kd.R k65 65 w12 w.heap.size (fun _ => True) v106 t105) := ⟨by rw [← hq_]; exact (by (with_reducible repeat (first | apply Kd.R_alloc | apply Kd.R_drewN | apply Kd.R_drew)); exact HO107.out)⟩; have n2_ : Aside0 (Below w.heap.size w w12) := ⟨by rw [← hq_]; exact (by repeat (first | (with_reducible first | exact HB.out | apply below_alloc | apply pw_below_drewN | apply below_drew1) | exact HB.out))⟩; clear HO104 HO107 HB hq_; have HO104 := n0_; have HO107 := n1_; have HB := n2_; clear n0_ n1_ n2_)); obtain ⟨Ao14, co14, eo14⟩ := Kd.R_slice HO107.out; subst eo14; have p110 : 0 ≤ (t109 : Int) := of_decide_eq_true (by first | (with_reducible assumption) | assumption); have q110 : t109 < (t105.length : Int) := of_decide_eq_true (by first | (with_reducible assumption) | assumption); obtain ⟨ad110, e110, hx110_0, hx110_1, hx110_2⟩ := at_T65 (Kd.R_reads' HO107.out).2.2 t109 p110 q110; cases e110; replace p110 := eq_true p110; replace q110 := eq_true q110) | ((with_reducible refine gate_dst (N := 4) rfl ?_); refine box_event ?hg (N := 4) ?hd (cs := #[.int .i64 0, .int .i64 0, .int .i64 0]) (t := 65) ?hr ?_; (case hd => rfl); (case hg => rfl); (case hr => first | (go_simp; done) | (go_simp; rfl)); intro gb111 hg w15 hbox hb; have n0_ := Aside0.mk (Kd.R_below (by (with_reducible repeat (first | apply Kd.R_alloc | apply Kd.R_drewN | apply Kd.R_drew)); exact HO104.out) hb); have n1_ := Aside0.mk (Kd.R_below (Kd.R_elderB (by (with_reducible repeat (first | apply Kd.R_alloc | apply Kd.R_drewN | apply Kd.R_drew)); exact HO107.out) gb111 (Nat.le_of_eq hg.symm)) hb); have n2_ := Aside0.mk (below_step (by repeat (first | (with_reducible first | exact HB.out | apply below_alloc | apply pw_below_drewN | apply below_drew1) | exact HB.out)) hb); have n3_ := Aside0.mk (hbox); have n4_ := Aside0.mk ((by rw [hg]; exact (below_size (by repeat (first | (with_reducible first | exact HB.out | apply below_alloc | apply pw_below_drewN | apply below_drew1) | exact HB.out))) : w.heap.size ≤ gb111)); have n5_ := Aside0.mk ((by rw [hg]; exact (below_size (by repeat (first | (with_reducible first | exact HB.out | apply below_alloc | apply pw_below_drewN | apply below_drew1) | exact HB.out))) : w.heap.size ≤ gb111)); clear HO104; clear HO107; clear HB; have HO104 := n0_; have HO107 := n1_; have HB := n2_; have BK111 := n3_; have GW111 := n4_; have GE111 := n5_; clear n0_ n1_ n2_ n3_ n4_ n5_; clear hb hbox hg; have hcz16_0 : w15.cell? ⟨gb111, 0, none⟩ = some (.int .i64 0) := (blk_cell BK111.out 0).trans rfl; have hcz16_1 : w15.cell? ⟨gb111, 1, none⟩ = some (.int .i64 0) := (blk_cell BK111.out 1).trans rfl; have hcz16_2 : w15.cell? ⟨gb111, 2, none⟩ = some (.int .i64 0) := (blk_cell BK111.out 2).trans rfl; have hfz16_0 := blk_frozen BK111.out 0; have hfz16_1 := blk_frozen BK111.out 1; have hfz16_2 := blk_frozen BK111.out 2) | ((with_reducible refine gate_dst (N := 25) rfl ?_); refine Kd.R_lit (Kd.int .i64) _ 3 ?hg (N := 25) ?hd (xs := ([(rd_T65 t105 t109).f0, (rd_T65 t105 t109).f1, (rd_T65 t105 t109).f2] : List Int)) (inner := [.int .i64 ((rd_T65 t105 t109).f0), .int .i64 ((rd_T65 t105 t109).f1), .int .i64 ((rd_T65 t105 t109).f2)]) (ok := fun _ => True) (okp := fun _ => True) ?hr ?hp (fun _ hk => hk) trivial (Below.refl _ _) (Nat.le_refl _) (by simp) ?_; (case hd => rfl); (case hg => rfl); (case hr => first | (go_simp; done) | (go_simp; rfl)); (case hp => exact (Reps.one (show Kd.M (Kd.int .i64) _ _ _ ((rd_T65 t105 t109).f0) [.int .i64 ((rd_T65 t105 t109).f0)] from rfl) (Reps.one (show Kd.M (Kd.int .i64) _ _ _ ((rd_T65 t105 t109).f1) [.int .i64 ((rd_T65 t105 t109).f1)] from rfl) (Reps.one (show Kd.M (Kd.int .i64) _ _ _ ((rd_T65 t105 t109).f2) [.int .i64 ((rd_T65 t105 t109).f2)] from rfl) (Reps.none _ _))))); intro v113 w17 ho18 hb hg_ hnew_; clear hg_ hnew_; (first | rw [← Ny112.out] at ho18 | (simp only [Int.reduceToNat] at ho18; rw [← Ny112.out] at ho18)); have n0_ := Aside0.mk (Kd.R_elder' (by (with_reducible repeat (first | apply Kd.R_alloc | apply Kd.R_drewN | apply Kd.R_drew)); exact (Kd.R_mono (Kd.R_far (p := ⟨gb111, 2, none⟩) (Kd.R_far (p := ⟨gb111, 1, none⟩) (Kd.R_far (p := ⟨gb111, 0, none⟩) (Kd.R_types HO104.out BK111.out (by decide)) (fun _ hk => hk.2) (.int .i64 ((rd_T65 t105 t109).f0))) (fun _ hk => hk.2) (.int .i64 ((rd_T65 t105 t109).f1))) (fun _ hk => hk.2) (.int .i64 ((rd_T65 t105 t109).f2))) (fun _ h_ => h_.1))) (Kd.R_base ho18) hb); have n1_ := Aside0.mk (Kd.R_below (by (with_reducible repeat (first | apply Kd.R_alloc | apply Kd.R_drewN | apply Kd.R_drew)); exact (Kd.R_mono (Kd.R_far (p := ⟨gb111, 2, none⟩) (Kd.R_far (p := ⟨gb111, 1, none⟩) (Kd.R_far (p := ⟨gb111, 0, none⟩) (Kd.R_mono HO107.out (fun k_ hk => (⟨hk, hk.2⟩ : _ ∧ k_ ≠ gb111))) (fun _ hk => hk.2) (.int .i64 ((rd_T65 t105 t109).f0))) (fun _ hk => hk.2) (.int .i64 ((rd_T65 t105 t109).f1))) (fun _ hk => hk.2) (.int .i64 ((rd_T65 t105 t109).f2))) (fun _ h_ => h_.1))) hb); have n2_ := Aside0.mk (Kd.R_lower (Kd.R_new' ho18 (Kd.R_lt (by (with_reducible repeat (first | apply Kd.R_alloc | apply Kd.R_drewN | apply Kd.R_drew)); exact (Kd.R_mono (Kd.R_far (p := ⟨gb111, 2, none⟩) (Kd.R_far (p := ⟨gb111, 1, none⟩) (Kd.R_far (p := ⟨gb111, 0, none⟩) (Kd.R_types HO104.out BK111.out (by decide)) (fun _ hk => hk.2) (.int .i64 ((rd_T65 t105 t109).f0))) (fun _ hk => hk.2) (.int .i64 ((rd_T65 t105 t109).f1))) (fun _ hk => hk.2) (.int .i64 ((rd_T65 t105 t109).f2))) (fun _ h_ => h_.1))))) (below_size (by repeat (first | (with_reducible first | exact HB.out | apply below_alloc | apply pw_below_drewN | apply below_drew1 | refine below_set ?_ GE111.out) | exact HB.out)))); have n3_ := Aside0.mk (blk_below (g := gb111) (o := .cells #[.int .i64 ((rd_T65 t105 t109).f0), .int .i64 ((rd_T65 t105 t109).f1), .int .i64 ((rd_T65 t105 t109).f2)] 65 (0, 0)) (by (with_reducible repeat (first | refine blk_drewN ?_ _ | refine blk_drew ?_ | refine blk_alloc ?_ _)); refine blk_put (cs := #[.int .i64 ((rd_T65 t105 t109).f0), .int .i64 ((rd_T65 t105 t109).f1), .int .i64 0]) ?_ 2 _ rfl; (with_reducible repeat (first | refine blk_drewN ?_ _ | refine blk_drew ?_ | refine blk_alloc ?_ _)); refine blk_put (cs := #[.int .i64 ((rd_T65 t105 t109).f0), .int .i64 0, .int .i64 0]) ?_ 1 _ rfl; (with_reducible repeat (first | refine blk_drewN ?_ _ | refine blk_drew ?_ | refine blk_alloc ?_ _)); refine blk_put (cs := #[.int .i64 0, .int .i64 0, .int .i64 0]) ?_ 0 _ rfl; (with_reducible repeat (first | refine blk_drewN ?_ _ | refine blk_drew ?_ | refine blk_alloc ?_ _)); exact BK111.out) hb); have n4_ := Aside0.mk (below_step (by repeat (first | (with_reducible first | exact HB.out | apply below_alloc | apply pw_below_drewN | apply below_drew1 | refine below_set ?_ GE111.out) | exact HB.out)) hb); clear HO104; clear HO107; clear BK111; clear HB; have HO104 := n0_; have HO107 := n1_; have HO114 := n2_; have BK111 := n3_; have HB := n4_; clear n0_ n1_ n2_ n3_ n4_; clear hb ho18))
    go_ret
    exact ⟨_, by first | rfl | (simp [errW_none, errW_some] <;> rfl) | (simp [*, errW_none, errW_some] <;> rfl), by (with_reducible repeat (first | apply Kd.R_alloc | apply Kd.R_drewN | apply Kd.R_drew)); exact Kd.R_mono HO114.out (fun _ hk => trivial), by repeat (first | (with_reducible first | exact HB.out | apply below_alloc | apply pw_below_drewN | apply below_drew1 | refine below_set ?_ GE111.out) | exact HB.out)⟩
   ·rw [if_neg c9] at H
    exact absurd H (by simp)
  ·rw [if_neg c8] at H
   exact absurd H (by simp)
 ·replace c3 := Bool.eq_false_iff.mpr c3
  subst c3
  have H1 : (some ([] : List Int)) = some r := by rw [if_neg (show ¬ (false = true) by decide)] at H; exact H
  clear H
  have H := H1
  clear H1
  obtain rfl := Option.some.inj H
  go_enter Try.func24, Try.ntmps24
  go_wp2_with (first | ((with_reducible refine gate_callee (f := 56) rfl ?_); refine goesL_ (some 6) rfl rfl Try.func56 (by kernel_rfl) rfl #[.slice A0 l0.length c0] rfl (by (try simp only [List.map_toArray, List.map_cons, List.map_nil]); first | done | rfl | (simp only [List.length_drop, List.length_take]; rfl)) ?_; (with_reducible refine (impl_ArePoints.calls k _ _ l0 false _ ?side1 ?side2 A2.out).mono ?_); (case side1 => repeat (first | exact HR0.out | (with_reducible refine Kd.C_alloc ?_ _) | (with_reducible refine Kd.C_drewN ?_ _) | (with_reducible refine Kd.C_drew ?_))); (case side2 => exact HC0.out); rintro e w19 ⟨rfl, hb⟩; refine ⟨_, rfl, ?_⟩; have n0_ := Aside0.mk (below_step (by repeat (first | (with_reducible first | exact HB.out | apply below_alloc | apply pw_below_drewN | apply below_drew1) | exact HB.out)) hb); clear HB; have HB := n0_; clear n0_; (try clear hb); (try clear hb2); (try clear hk); (try clear hi)))
  go_ret
  exact ⟨_, by first | rfl | (simp [errW_none, errW_some] <;> rfl) | (simp [*, errW_none, errW_some] <;> rfl), by first | exact Kd.R_nil _ _ _ _ _ | exact Kd.N_nil _ _ _ _ _ | exact Kd.V_nil _ _ _ _ _ | exact Kd.Q_nil _ _ _ _ _ | exact Kd.S_nil _ _ _ _ _, by repeat (first | (with_reducible first | exact HB.out | apply below_alloc | apply pw_below_drewN | apply below_drew1) | exact HB.out)⟩

end Go.Proofs.Ytijgjpfbhbggdaa.P

namespace Go.Proofs.Ytijgjpfbhbggdaa.P
open Go.RowKit Go.Proofs.YtijgjpfbhbggdaaW.PrintWords Go.Proofs.YtijgjpfbhbggdaaW.PrintLast Go.Proofs.YtijgjpfbhbggdaaW.PrintMore
attribute [local go_sem] max2_int min2_int max_two min_two max_three min_three max_four min_four   -- for this text's walks alone
set_option linter.unusedVariables false
set_option linter.unusedSimpArgs false

/-! ### laws_eqIntS: function 25 -/
def laws_eqIntS.l0 : Nat → List Int → List Int → Int → Option (Bool)
 | 0, _, _, _ => none
 | k + 1, x0, x1, x5 => if x5 < (x0.length : Int) then (if 0 ≤ x5 then (if x5 < (x1.length : Int) then (if (rd x0 x5) = (rd x1 x5) then (laws_eqIntS.l0 k x0 x1 (wrap64 (x5 + 1))) else (some false)) else (none)) else (none)) else (some true)
def laws_eqIntS.f (k : Nat) (l0 : List Int) (l1 : List Int) : Option (Bool) := if (l0.length : Int) = (l1.length : Int) then (laws_eqIntS.l0 k l0 l1 0) else (some false)
theorem laws_eqIntS.mono_l : ∀ k, (∀ y0 y1 y2, LeO (laws_eqIntS.l0 k y0 y1 y2) (laws_eqIntS.l0 (k + 1) y0 y1 y2))
 | 0 => fun _ _ _ r h => by simp [laws_eqIntS.l0] at h
 | k + 1 => by
  have ih0 := laws_eqIntS.mono_l k
  ·intro y0 y1 y2
   unfold laws_eqIntS.l0
   repeat' first
   | (with_reducible exact ih0 _ _ _)
   | (with_reducible exact LeO.refl _)
   | (with_reducible exact LeO.none _)
   | (with_reducible refine LeO.ite ?_ ?_)
   | (with_reducible refine LeO.bind ?_ (fun _ => ?_))
   | exact ih0 _ _ _
   | exact LeO.none _
   | refine LeO.ite ?_ ?_
   | refine LeO.bind ?_ (fun _ => ?_)
theorem laws_eqIntS.mono : ∀ a0 a1 k, LeO (laws_eqIntS.f k a0 a1) (laws_eqIntS.f (k + 1) a0 a1) := by
 intro a0 a1 k
 have ih0 := laws_eqIntS.mono_l k
 unfold laws_eqIntS.f
 repeat' first
   | (with_reducible exact ih0 _ _ _)
   | (with_reducible exact LeO.refl _)
   | (with_reducible exact LeO.none _)
   | (with_reducible refine LeO.ite ?_ ?_)
   | (with_reducible refine LeO.bind ?_ (fun _ => ?_))
   | exact ih0 _ _ _
   | exact LeO.none _
   | refine LeO.ite ?_ ?_
   | refine LeO.bind ?_ (fun _ => ?_)
set_option maxHeartbeats 8000000 in
set_option maxRecDepth 100000 in
theorem laws_eqIntS.calls (k : Nat) (A0 : Option Addr) (c0 : Nat) (l0 : List Int) (A1 : Option Addr) (c1 : Nat) (l1 : List Int) (r : Bool) (w : World) (hr0 : Kd.C (Kd.int .i64) w A0 l0.length l0) (hc0 : l0.length ≤ c0) (hr1 : Kd.C (Kd.int .i64) w A1 l1.length l1) (hc1 : l1.length ≤ c1) (h : laws_eqIntS.f k l0 l1 = some r) :
  Calls Try.prog 25 #[.slice A0 l0.length c0, .slice A1 l1.length c1] w fun e w' => e = .returned (.bool r) ∧ Drawn0 w w' := by
 have HR0 := Aside0.mk hr0
 have HC0 := Aside0.mk hc0
 clear hr0 hc0
 have HR1 := Aside0.mk hr1
 have HC1 := Aside0.mk hc1
 clear hr1 hc1
 have H : (if (l0.length : Int) = (l1.length : Int) then (laws_eqIntS.l0 k l0 l1 0) else (some false)) = some r := h
 clear h
 by_cases c3 : (l0.length : Int) = (l1.length : Int)
 ·rw [if_pos c3] at H
  have c3b0 : ((l0.length : Int) == (l1.length : Int)) = true := beq_iff_eq.mpr c3
  have c3b1 : ((l0.length : Int) != (l1.length : Int)) = false := bne_eq_false_iff_eq.mpr c3
  have c3b2 : (l0.length == l1.length) = true := by first | simpa using c3 | (simp at c3 ⊢; omega)
  clear c3
  have H' := Aside0.mk H
  clear H
  go_enter Try.func25, Try.ntmps25
  go_wp2
  repeat (go_quiet (fail); try go_wp2)
  go_loopg [5] k (fun kq v5 w' => ∃ (x5_1 : Int), v5 = .int .i64 x5_1 ∧ Aside0 (laws_eqIntS.l0 kq l0 l1 x5_1 = some r) ∧ Aside0 (kq ≤ k) ∧ Drawn0 w w')
  case atStart => exact ⟨(0), (by first | rfl | (simp; done) | (simp [*]; done)), H', ⟨Nat.le_refl _⟩, by repeat (first | exact Drawn0.refl _ | apply Drawn0.step)⟩
  case round =>
   clear H'
   try clear c1
   try clear c2
   try clear p2
   try clear c3
   try clear c3b0
   try clear c3b1
   try clear c3b2
   obtain ⟨x5_1, rfl, HA, HK1, ⟨m1, rfl⟩⟩ := hrel
   cases gk with
   | zero => exact absurd HA.out (by simp [laws_eqIntS.l0])
   | succ k1 =>
    have H := HA.out
    clear HA
    simp only [laws_eqIntS.l0] at H
    by_cases c4 : x5_1 < (l0.length : Int)
    ·rw [if_pos c4] at H
     have c4b0 : decide (x5_1 < (l0.length : Int)) = true := decide_eq_true c4
     clear c4
     by_cases c5 : 0 ≤ x5_1
     ·rw [if_pos c5] at H
      have c5b0 : decide (0 ≤ x5_1) = true := decide_eq_true c5
      clear c5
      by_cases c6 : x5_1 < (l1.length : Int)
      ·rw [if_pos c6] at H
       have c6b0 : decide (x5_1 < (l1.length : Int)) = true := decide_eq_true c6
       clear c6
       by_cases c7 : (rd l0 x5_1) = (rd l1 x5_1)
       ·rw [if_pos c7] at H
        have c7b0 : ((rd l0 x5_1) == (rd l1 x5_1)) = true := beq_iff_eq.mpr c7
        have c7b1 : ((rd l0 x5_1) != (rd l1 x5_1)) = false := bne_eq_false_iff_eq.mpr c7
        clear c7
        have H' := Aside0.mk H
        clear H
        have p101 : 0 ≤ (x5_1 : Int) := of_decide_eq_true (by first | (with_reducible assumption) | assumption)
        have q101 : x5_1 < (l0.length : Int) := of_decide_eq_true (by first | (with_reducible assumption) | assumption)
        obtain ⟨ad101, e101, hx101_0⟩ := Kd.at_int HR0.out x5_1 p101 q101
        cases e101
        replace p101 := eq_true p101
        replace q101 := eq_true q101
        have p102 : 0 ≤ (x5_1 : Int) := of_decide_eq_true (by first | (with_reducible assumption) | assumption)
        have q102 : x5_1 < (l1.length : Int) := of_decide_eq_true (by first | (with_reducible assumption) | assumption)
        obtain ⟨ad102, e102, hx102_0⟩ := Kd.at_int HR1.out x5_1 p102 q102
        cases e102
        replace p102 := eq_true p102
        replace q102 := eq_true q102
        go_wp2
        repeat (go_quiet (fail); try go_wp2)
        go_roundg k1
        case measure => have := HK1.out; omega
        case rel => exact ⟨(wrap64 (x5_1 + 1)), (by first | rfl | (simp; done) | (simp [*]; done)), H', ⟨by have := HK1.out; omega⟩, by repeat (first | exact Drawn0.refl _ | apply Drawn0.step)⟩
       ·rw [if_neg c7] at H
        have c7b0 : ((rd l0 x5_1) == (rd l1 x5_1)) = false := beq_eq_false_iff_ne.mpr c7
        have c7b1 : ((rd l0 x5_1) != (rd l1 x5_1)) = true := bne_iff_ne.mpr c7
        obtain rfl := Option.some.inj H
        have p101 : 0 ≤ (x5_1 : Int) := of_decide_eq_true (by first | (with_reducible assumption) | assumption)
        have q101 : x5_1 < (l0.length : Int) := of_decide_eq_true (by first | (with_reducible assumption) | assumption)
        obtain ⟨ad101, e101, hx101_0⟩ := Kd.at_int HR0.out x5_1 p101 q101
        cases e101
        replace p101 := eq_true p101
        replace q101 := eq_true q101
        have p102 : 0 ≤ (x5_1 : Int) := of_decide_eq_true (by first | (with_reducible assumption) | assumption)
        have q102 : x5_1 < (l1.length : Int) := of_decide_eq_true (by first | (with_reducible assumption) | assumption)
        obtain ⟨ad102, e102, hx102_0⟩ := Kd.at_int HR1.out x5_1 p102 q102
        cases e102
        replace p102 := eq_true p102
        replace q102 := eq_true q102
        go_wp2
        repeat (go_quiet (fail); try go_wp2)
        go_ret
        exact ⟨by first | rfl | (simp; done) | (simp [*]; done), by repeat (first | exact Drawn0.refl _ | apply Drawn0.step)⟩
      ·rw [if_neg c6] at H
       exact absurd H (by simp)
     ·rw [if_neg c5] at H
      exact absurd H (by simp)
    ·rw [if_neg c4] at H
     have c4b0 : decide (x5_1 < (l0.length : Int)) = false := decide_eq_false c4
     clear c4
     obtain rfl := Option.some.inj H
     go_wp2
     repeat (go_quiet (fail); try go_wp2)
     go_ret
     exact ⟨by first | rfl | (simp; done) | (simp [*]; done), by repeat (first | exact Drawn0.refl _ | apply Drawn0.step)⟩
 ·rw [if_neg c3] at H
  have c3b0 : ((l0.length : Int) == (l1.length : Int)) = false := beq_eq_false_iff_ne.mpr c3
  have c3b1 : ((l0.length : Int) != (l1.length : Int)) = true := bne_iff_ne.mpr c3
  have c3b2 : (l0.length == l1.length) = false := by first | simpa using c3 | (simp at c3 ⊢; omega)
  obtain rfl := Option.some.inj H
  go_enter Try.func25, Try.ntmps25
  go_wp2
  repeat (go_quiet (fail); try go_wp2)
  go_ret
  exact ⟨by first | rfl | (simp; done) | (simp [*]; done), by repeat (first | exact Drawn0.refl _ | apply Drawn0.step)⟩

end Go.Proofs.Ytijgjpfbhbggdaa.P

namespace Go.Proofs.Ytijgjpfbhbggdaa.P
open Go.RowKit Go.Proofs.YtijgjpfbhbggdaaW.PrintWords Go.Proofs.YtijgjpfbhbggdaaW.PrintLast Go.Proofs.YtijgjpfbhbggdaaW.PrintMore
attribute [local go_sem] max2_int min2_int max_two min_two max_three min_three max_four min_four   -- for this text's walks alone
set_option linter.unusedVariables false
set_option linter.unusedSimpArgs false

/-! ### laws_markPointS: function 26 -/
def laws_markPointS.l0 : Nat → List (S25) → Int → Int → Option (Int × (List (S25)))
 | 0, _, _, _ => none
 | k + 1, x0, x1, x5 => if x5 < (x0.length : Int) then (if 0 ≤ x5 then ((some (x0.set (x5 : Int).toNat (⟨x1, (rd_T25 x0 x5).f1⟩ : S25) : List (S25))).bind fun y101 => (laws_markPointS.l0 k (y101.set (x5 : Int).toNat (⟨(rd_T25 y101 x5).f0, wrap64 (x1 + 1)⟩ : S25)) (wrap64 ((wrap64 (x1 + 1)) + 1)) (wrap64 (x5 + 1)))) else (none)) else (some (x1, x0))
def laws_markPointS.f (k : Nat) (l0 : List (S25)) (a1 : Int) : Option (Int × (List (S25))) := laws_markPointS.l0 k l0 a1 0
theorem laws_markPointS.mono_l : ∀ k, (∀ y0 y1 y2, LeO (laws_markPointS.l0 k y0 y1 y2) (laws_markPointS.l0 (k + 1) y0 y1 y2))
 | 0 => fun _ _ _ r h => by simp [laws_markPointS.l0] at h
 | k + 1 => by
  have ih0 := laws_markPointS.mono_l k
  ·intro y0 y1 y2
   unfold laws_markPointS.l0
   repeat' first
   | (with_reducible exact ih0 _ _ _)
   | (with_reducible exact LeO.refl _)
   | (with_reducible exact LeO.none _)
   | (with_reducible refine LeO.ite ?_ ?_)
   | (with_reducible refine LeO.bind ?_ (fun _ => ?_))
   | exact ih0 _ _ _
   | exact LeO.none _
   | refine LeO.ite ?_ ?_
   | refine LeO.bind ?_ (fun _ => ?_)
theorem laws_markPointS.mono : ∀ a0 a1 k, LeO (laws_markPointS.f k a0 a1) (laws_markPointS.f (k + 1) a0 a1) := by
 intro a0 a1 k
 have ih0 := laws_markPointS.mono_l k
 unfold laws_markPointS.f
 repeat' first
   | (with_reducible exact ih0 _ _ _)
   | (with_reducible exact LeO.refl _)
   | (with_reducible exact LeO.none _)
   | (with_reducible refine LeO.ite ?_ ?_)
   | (with_reducible refine LeO.bind ?_ (fun _ => ?_))
   | exact ih0 _ _ _
   | exact LeO.none _
   | refine LeO.ite ?_ ?_
   | refine LeO.bind ?_ (fun _ => ?_)
set_option maxHeartbeats 8000000 in
set_option maxRecDepth 100000 in
theorem laws_markPointS.calls (k : Nat) (P0_ : Nat → Prop) (u9000_ : Value) (l0 : List (S25)) (a1 : Int) (r1 : Int) (r2 : List (S25)) (w0 w : World) (hB : Below w0.heap.size w0 w) (ho0 : Kd.R k25 25 w w0.heap.size P0_ u9000_ l0) (h : laws_markPointS.f k l0 a1 = some (r1, r2)) :
  Calls Try.prog 26 #[u9000_, .int .i64 a1] w fun e w' => e = .returned (.int .i64 r1) ∧ Kd.R k25 25 w' w0.heap.size (fun k_ => (P0_ k_ ∨ w.heap.size ≤ k_)) u9000_ r2 ∧ Below w0.heap.size w0 w' ∧ Kept w w' (fun k_ => P0_ k_) := by
 have HO0 := Aside0.mk (show Kd.R k25 25 w w0.heap.size (fun k_ => (P0_ k_ ∨ w.heap.size ≤ k_)) u9000_ l0 from Kd.R_mono ho0 (fun k_ hk => (.inl hk)))
 have HK := Aside0.mk (Kept.refl w (fun k_ => P0_ k_))
 have HW0 := Aside0.mk hB.size
 have HB := Aside0.mk hB
 clear hB
 have H : (laws_markPointS.l0 k l0 a1 0) = some (r1, r2) := h
 clear h
 have H' := Aside0.mk H
 clear H
 go_enter Try.func26, Try.ntmps26
 go_wp2
 go_loopg [1, 5] k (fun kq v1 v5 w' => ∃ (x0_1 : List (S25)) (x1_1 : Int) (x5_1 : Int), v1 = .int .i64 x1_1 ∧ v5 = .int .i64 x5_1 ∧ Aside0 (laws_markPointS.l0 kq x0_1 x1_1 x5_1 = some (r1, r2)) ∧ Aside0 (kq ≤ k) ∧ Aside0 (Kd.R k25 25 w' w0.heap.size (fun k_ => (P0_ k_ ∨ w.heap.size ≤ k_)) u9000_ x0_1) ∧ Aside0 (Kept w w' (fun k_ => P0_ k_)) ∧ Aside0 (Below w0.heap.size w0 w'))
 case atStart => exact ⟨(l0), (a1), (0), (by first | rfl | (simp; done) | (simp [*]; done)), (by first | rfl | (simp; done) | (simp [*]; done)), H', ⟨Nat.le_refl _⟩, ⟨by (with_reducible repeat (first | apply Kd.R_alloc | apply Kd.R_drewN | apply Kd.R_drew)); exact HO0.out⟩, ⟨by repeat (first | (with_reducible first | exact HK.out | apply Kept.alloc | apply Kept.drewN | apply Kept.drew) | exact HK.out)⟩, ⟨by repeat (first | (with_reducible first | exact HB.out | apply below_alloc | apply pw_below_drewN | apply below_drew1) | exact HB.out)⟩⟩
 case round =>
  clear H'
  try clear c2
  try clear p2
  obtain ⟨x0_1, x1_1, x5_1, rfl, rfl, HA, HK1, HO_0, HK, HB⟩ := hrel
  cases gk with
  | zero => exact absurd HA.out (by simp [laws_markPointS.l0])
  | succ k1 =>
   have H := HA.out
   clear HA
   simp only [laws_markPointS.l0] at H
   by_cases c3 : x5_1 < (x0_1.length : Int)
   ·rw [if_pos c3] at H
    have c3b0 : decide (x5_1 < (x0_1.length : Int)) = true := decide_eq_true c3
    clear c3
    by_cases c4 : 0 ≤ x5_1
    ·rw [if_pos c4] at H
     have c4b0 : decide (0 ≤ x5_1) = true := decide_eq_true c4
     clear c4
     obtain ⟨y101, hy101⟩ : ∃ y_ : List (S25), y_ = (x0_1.set (x5_1 : Int).toNat (⟨x1_1, (rd_T25 x0_1 x5_1).f1⟩ : S25)) := ⟨_, rfl⟩
     replace H : (laws_markPointS.l0 k1 (y101.set (x5_1 : Int).toNat (⟨(rd_T25 y101 x5_1).f0, wrap64 (x1_1 + 1)⟩ : S25)) (wrap64 ((wrap64 (x1_1 + 1)) + 1)) (wrap64 (x5_1 + 1))) = some (r1, r2) := by first | (rw [hy101]; with_reducible exact H) | (have H2_ := (Option.bind_some _ _).symm.trans H; rw [hy101]; with_reducible exact H2_) | (have H2_ := (Option.bind_some _ _).symm.trans H; with_reducible exact H2_) | with_reducible exact H | (rw [hy101]; exact H) | exact H
     have Ny101 := Aside0.mk hy101
     clear hy101
     obtain ⟨y102, hy102⟩ : ∃ y_ : List (S25), y_ = (y101.set (x5_1 : Int).toNat (⟨(rd_T25 y101 x5_1).f0, wrap64 (x1_1 + 1)⟩ : S25)) := ⟨_, rfl⟩
     replace H : (laws_markPointS.l0 k1 y102 (wrap64 ((wrap64 (x1_1 + 1)) + 1)) (wrap64 (x5_1 + 1))) = some (r1, r2) := by first | (rw [hy102]; with_reducible exact H) | (have H2_ := (Option.bind_some _ _).symm.trans H; rw [hy102]; with_reducible exact H2_) | (have H2_ := (Option.bind_some _ _).symm.trans H; with_reducible exact H2_) | with_reducible exact H | (rw [hy102]; exact H) | exact H
     have Ny102 := Aside0.mk hy102
     clear hy102
     have H' := Aside0.mk H
     clear H
     obtain ⟨Ao7, co7, eo7⟩ := Kd.R_slice HO_0.out
     subst eo7
     have p5 : 0 ≤ (x5_1 : Int) := of_decide_eq_true (by first | (with_reducible assumption) | assumption)
     have q5 : (x5_1 : Int) < ((x0_1.length : Int) : Int) := of_decide_eq_true (by first | (with_reducible assumption) | assumption)
     obtain ⟨go5, co5, eo5, gb5, gl5, cl5, HG5⟩ := Kd.R_form HO_0.out (by omega)
     (first | cases eo5 | (injection eo5 with ea_ en_ ec_; (first | subst ea_ | (injection ea_ with ea_; subst ea_)); subst ec_; clear en_))
     have GB5 := Aside0.mk gb5
     have GG5 := Aside0.mk HG5
     clear gb5 gl5 HG5
     have HMgo5 := Aside0.mk (show (P0_ go5 ∨ w.heap.size ≤ go5) from (HO_0.out.1 _ rfl))
     obtain ⟨ce5, hcl5, hM5, hcc5, hfr5⟩ := Kd.R_elem HO_0.out z25 (x5_1 : Int) p5 q5
     obtain rfl := k25_openM hM5
     have hx5_0 : wr.cell? ⟨go5, (x5_1 : Int).toNat * 2, none⟩ = some (.int .i64 ((rd_T25 x0_1 x5_1).f0)) := hcc5 0 _ rfl
     have hx5_1 : wr.cell? ⟨go5, (x5_1 : Int).toNat * 2 + 1, none⟩ = some (.int .i64 ((rd_T25 x0_1 x5_1).f1)) := hcc5 1 _ rfl
     have hf5_0 : wr.frozen? ⟨go5, (x5_1 : Int).toNat * 2, none⟩ = false := hfr5 0
     have hf5_1 : wr.frozen? ⟨go5, (x5_1 : Int).toNat * 2 + 1, none⟩ = false := hfr5 1
     clear hcl5 hcc5 hfr5 hM5
     replace p5 := eq_true p5
     replace q5 := eq_true q5
     have HX8 := Aside0.mk (show Kd.R k25 25 wr w0.heap.size (fun k_ => (P0_ k_ ∨ w.heap.size ≤ k_)) (.slice (some ⟨go5, 0, none⟩) x0_1.length co7) x0_1 from (by (with_reducible repeat (first | apply Kd.R_alloc | apply Kd.R_drewN | apply Kd.R_drew)); exact HO_0.out))
     obtain ⟨ce8, hcl8, hM8, hcc8, hfr8⟩ := Kd.R_elem HX8.out z25 (x5_1 : Int) (of_decide_eq_true (by first | (with_reducible assumption) | assumption)) (by have h_ : (x5_1 : Int) < ((x0_1.length : Int) : Int) := of_decide_eq_true (by first | (with_reducible assumption) | assumption); first | exact h_ | (have e_ := (Kd.R_reads' HO_0.out).1; omega) | simpa using h_)
     obtain rfl := k25_openM hM8
     have HP8 := Kd.R_seg HX8.out (x5_1 : Int) (of_decide_eq_true (by first | (with_reducible assumption) | assumption)) (by have h_ : (x5_1 : Int) < ((x0_1.length : Int) : Int) := of_decide_eq_true (by first | (with_reducible assumption) | assumption); first | exact h_ | (have e_ := (Kd.R_reads' HO_0.out).1; omega) | simpa using h_) (seg := [.int .i64 x1_1]) (j := 0) hcl8 hcc8 (show 1 ≤ 2 from by decide) (x' := (⟨x1_1, (rd_T25 x0_1 x5_1).f1⟩ : S25)) (k25_mkM _ _ _ (⟨x1_1, (rd_T25 x0_1 x5_1).f1⟩ : S25) ) (fun _ hk => hk)
     have hx8_0 := hcc8 0 _ rfl
     (try simp only [show (k25).sz = 2 from rfl, Nat.mul_one, Nat.add_zero] at hx8_0)
     have hf8_0 := hfr8 0
     (try simp only [show (k25).sz = 2 from rfl, Nat.mul_one, Nat.add_zero] at hf8_0)
     clear hcl8 hcc8 hfr8 hM8
     go_wp2_with (first | ((with_reducible refine gate_store (t := 3) (p := 16) rfl ?_); refine store_event (t := 3) (p := 16) (v := ?vo_w9) (w1 := (wr.setCell ⟨go5, (x5_1 : Int).toNat * 2, none⟩ (.int .i64 x1_1))) ?hg ?ho ?hn ?hr ?_; (case ho => rfl); (case hg => rfl); (case hn => rfl); (case hr => first | (go_simp; done) | (go_simp; rfl)); intro w9 hw; have hg : wr.grownBy w9 (some go5) := (by rw [hw]; exact HP8.2); have hp_ : Kd.R k25 25 w9 w0.heap.size (fun k_ => (P0_ k_ ∨ w.heap.size ≤ k_)) (.slice (some ⟨go5, 0, none⟩) x0_1.length co7) y101 := (by rw [hw, Ny101.out]; exact HP8.1); clear HP8; have n0_ := Aside0.mk (hp_); have n1_ := Aside0.mk ((by rw [hw]; exact below_set (HB.out) GB5.out : Below w0.heap.size w0 w9)); have n2_ := Aside0.mk (Kept.of_grown (S := (fun k_ => P0_ k_)) hg (by repeat (first | (with_reducible first | exact HK.out | apply Kept.alloc | apply Kept.drewN | apply Kept.drew) | exact HK.out)) (fun k_ e_ => (HO_0.out.1 k_ e_))); clear HO_0; clear HB; clear HK; have HO_0 := n0_; have HB := n1_; have HK := n2_; clear n0_ n1_ n2_; clear hg hw hp_; have p6 : 0 ≤ (x5_1 : Int) := of_decide_eq_true (by first | (with_reducible assumption) | assumption); have q6 : (x5_1 : Int) < ((x0_1.length : Int) : Int) := of_decide_eq_true (by first | (with_reducible assumption) | assumption); obtain ⟨ce6, hcl6, hM6, hcc6, hfr6⟩ := Kd.R_elem HO_0.out z25 (x5_1 : Int) p6 q6; obtain rfl := k25_openM hM6; have hx6_0 : w9.cell? ⟨go5, (x5_1 : Int).toNat * 2, none⟩ = some (.int .i64 ((rd_T25 y101 x5_1).f0)) := hcc6 0 _ rfl; have hx6_1 : w9.cell? ⟨go5, (x5_1 : Int).toNat * 2 + 1, none⟩ = some (.int .i64 ((rd_T25 y101 x5_1).f1)) := hcc6 1 _ rfl; have hf6_0 : w9.frozen? ⟨go5, (x5_1 : Int).toNat * 2, none⟩ = false := hfr6 0; have hf6_1 : w9.frozen? ⟨go5, (x5_1 : Int).toNat * 2 + 1, none⟩ = false := hfr6 1; clear hcl6 hcc6 hfr6 hM6; replace p6 := eq_true p6; replace q6 := eq_true q6; have HX10 := Aside0.mk (show Kd.R k25 25 w9 w0.heap.size (fun k_ => (P0_ k_ ∨ w.heap.size ≤ k_)) (.slice (some ⟨go5, 0, none⟩) x0_1.length co7) y101 from (by (with_reducible repeat (first | apply Kd.R_alloc | apply Kd.R_drewN | apply Kd.R_drew)); exact HO_0.out)); obtain ⟨ce10, hcl10, hM10, hcc10, hfr10⟩ := Kd.R_elem HX10.out z25 (x5_1 : Int) (of_decide_eq_true (by first | (with_reducible assumption) | assumption)) (by have h_ : (x5_1 : Int) < ((x0_1.length : Int) : Int) := of_decide_eq_true (by first | (with_reducible assumption) | assumption); first | exact h_ | (have e_ := (Kd.R_reads' HO_0.out).1; omega) | simpa using h_); obtain rfl := k25_openM hM10; have HP10 := Kd.R_seg HX10.out (x5_1 : Int) (of_decide_eq_true (by first | (with_reducible assumption) | assumption)) (by have h_ : (x5_1 : Int) < ((x0_1.length : Int) : Int) := of_decide_eq_true (by first | (with_reducible assumption) | assumption); first | exact h_ | (have e_ := (Kd.R_reads' HO_0.out).1; omega) | simpa using h_) (seg := [.int .i64 (wrap64 (x1_1 + 1))]) (j := 1) hcl10 hcc10 (show 2 ≤ 2 from by decide) (x' := (⟨(rd_T25 y101 x5_1).f0, wrap64 (x1_1 + 1)⟩ : S25)) (k25_mkM _ _ _ (⟨(rd_T25 y101 x5_1).f0, wrap64 (x1_1 + 1)⟩ : S25) ) (fun _ hk => hk); have hx10_1 := hcc10 1 _ rfl; (try simp only [show (k25).sz = 2 from rfl, Nat.mul_one, Nat.add_zero] at hx10_1); have hf10_1 := hfr10 1; (try simp only [show (k25).sz = 2 from rfl, Nat.mul_one, Nat.add_zero] at hf10_1); clear hcl10 hcc10 hfr10 hM10) | ((with_reducible refine gate_store (t := 3) (p := 23) rfl ?_); refine store_event (t := 3) (p := 23) (v := ?vo_w11) (w1 := (w9.setCell ⟨go5, (x5_1 : Int).toNat * 2 + 1, none⟩ (.int .i64 (wrap64 (x1_1 + 1))))) ?hg ?ho ?hn ?hr ?_; (case ho => rfl); (case hg => rfl); (case hn => rfl); (case hr => first | (go_simp; done) | (go_simp; rfl)); intro w11 hw; have hg : w9.grownBy w11 (some go5) := (by rw [hw]; exact HP10.2); have hp_ : Kd.R k25 25 w11 w0.heap.size (fun k_ => (P0_ k_ ∨ w.heap.size ≤ k_)) (.slice (some ⟨go5, 0, none⟩) x0_1.length co7) y102 := (by rw [hw, Ny102.out]; exact HP10.1); clear HP10; have n0_ := Aside0.mk (hp_); have n1_ := Aside0.mk ((by rw [hw]; exact below_set (HB.out) GB5.out : Below w0.heap.size w0 w11)); have n2_ := Aside0.mk (Kept.of_grown (S := (fun k_ => P0_ k_)) hg (by repeat (first | (with_reducible first | exact HK.out | apply Kept.alloc | apply Kept.drewN | apply Kept.drew) | exact HK.out)) (fun k_ e_ => (HO_0.out.1 k_ e_))); clear HO_0; clear HB; clear HK; have HO_0 := n0_; have HB := n1_; have HK := n2_; clear n0_ n1_ n2_; clear hg hw hp_))
     go_roundg k1
     case measure => have := HK1.out; omega
     case rel => exact ⟨(y102), (wrap64 ((wrap64 (x1_1 + 1)) + 1)), (wrap64 (x5_1 + 1)), (by first | rfl | (simp; done) | (simp [*]; done)), (by first | rfl | (simp; done) | (simp [*]; done)), H', ⟨by have := HK1.out; omega⟩, ⟨by (with_reducible repeat (first | apply Kd.R_alloc | apply Kd.R_drewN | apply Kd.R_drew)); exact HO_0.out⟩, ⟨by repeat (first | (with_reducible first | exact HK.out | apply Kept.alloc | apply Kept.drewN | apply Kept.drew) | exact HK.out)⟩, ⟨by repeat (first | (with_reducible first | exact HB.out | apply below_alloc | apply pw_below_drewN | apply below_drew1) | exact HB.out)⟩⟩
    ·rw [if_neg c4] at H
     exact absurd H (by simp)
   ·rw [if_neg c3] at H
    have c3b0 : decide (x5_1 < (x0_1.length : Int)) = false := decide_eq_false c3
    clear c3
    simp only [Option.some.injEq, Prod.mk.injEq] at H
    obtain ⟨rfl, rfl⟩ := H
    obtain ⟨Ao12, co12, eo12⟩ := Kd.R_slice HO_0.out
    subst eo12
    go_wp2
    go_ret
    exact ⟨by first | rfl | (simp [errW_none, errW_some] <;> rfl) | (simp [*, errW_none, errW_some] <;> rfl), by (with_reducible repeat (first | apply Kd.R_alloc | apply Kd.R_drewN | apply Kd.R_drew)); exact HO_0.out, by repeat (first | (with_reducible first | exact HB.out | apply below_alloc | apply pw_below_drewN | apply below_drew1) | exact HB.out), by repeat (first | (with_reducible first | exact HK.out | apply Kept.alloc | apply Kept.drewN | apply Kept.drew) | exact HK.out)⟩

end Go.Proofs.Ytijgjpfbhbggdaa.P

namespace Go.Proofs.Ytijgjpfbhbggdaa.P
open Go.RowKit Go.Proofs.YtijgjpfbhbggdaaW.PrintWords Go.Proofs.YtijgjpfbhbggdaaW.PrintLast Go.Proofs.YtijgjpfbhbggdaaW.PrintMore
attribute [local go_sem] max2_int min2_int max_two min_two max_three min_three max_four min_four   -- for this text's walks alone
set_option linter.unusedVariables false
set_option linter.unusedSimpArgs false

/-! ### laws_markIntS: function 27 -/
def laws_markIntS.l0 : Nat → List Int → Int → Int → Option (Int × List Int)
 | 0, _, _, _ => none
 | k + 1, x0, x1, x5 => if x5 < (x0.length : Int) then (if 0 ≤ x5 then (laws_markIntS.l0 k (x0.set (x5 : Int).toNat x1) (wrap64 (x1 + 1)) (wrap64 (x5 + 1))) else (none)) else (some (x1, x0))
def laws_markIntS.f (k : Nat) (l0 : List Int) (a1 : Int) : Option (Int × List Int) := laws_markIntS.l0 k l0 a1 0
theorem laws_markIntS.mono_l : ∀ k, (∀ y0 y1 y2, LeO (laws_markIntS.l0 k y0 y1 y2) (laws_markIntS.l0 (k + 1) y0 y1 y2))
 | 0 => fun _ _ _ r h => by simp [laws_markIntS.l0] at h
 | k + 1 => by
  have ih0 := laws_markIntS.mono_l k
  ·intro y0 y1 y2
   unfold laws_markIntS.l0
   repeat' first
   | (with_reducible exact ih0 _ _ _)
   | (with_reducible exact LeO.refl _)
   | (with_reducible exact LeO.none _)
   | (with_reducible refine LeO.ite ?_ ?_)
   | (with_reducible refine LeO.bind ?_ (fun _ => ?_))
   | exact ih0 _ _ _
   | exact LeO.none _
   | refine LeO.ite ?_ ?_
   | refine LeO.bind ?_ (fun _ => ?_)
theorem laws_markIntS.mono : ∀ a0 a1 k, LeO (laws_markIntS.f k a0 a1) (laws_markIntS.f (k + 1) a0 a1) := by
 intro a0 a1 k
 have ih0 := laws_markIntS.mono_l k
 unfold laws_markIntS.f
 repeat' first
   | (with_reducible exact ih0 _ _ _)
   | (with_reducible exact LeO.refl _)
   | (with_reducible exact LeO.none _)
   | (with_reducible refine LeO.ite ?_ ?_)
   | (with_reducible refine LeO.bind ?_ (fun _ => ?_))
   | exact ih0 _ _ _
   | exact LeO.none _
   | refine LeO.ite ?_ ?_
   | refine LeO.bind ?_ (fun _ => ?_)
set_option maxHeartbeats 8000000 in
set_option maxRecDepth 100000 in
theorem laws_markIntS.calls (k : Nat) (P0_ : Nat → Prop) (u9000_ : Value) (l0 : List Int) (a1 : Int) (r1 : Int) (r2 : List Int) (w0 w : World) (hB : Below w0.heap.size w0 w) (ho0 : Kd.R (Kd.int .i64) 3 w w0.heap.size P0_ u9000_ l0) (h : laws_markIntS.f k l0 a1 = some (r1, r2)) :
  Calls Try.prog 27 #[u9000_, .int .i64 a1] w fun e w' => e = .returned (.int .i64 r1) ∧ Kd.R (Kd.int .i64) 3 w' w0.heap.size (fun k_ => (P0_ k_ ∨ w.heap.size ≤ k_)) u9000_ r2 ∧ Below w0.heap.size w0 w' ∧ Kept w w' (fun k_ => P0_ k_) := by
 have HO0 := Aside0.mk (show Kd.R (Kd.int .i64) 3 w w0.heap.size (fun k_ => (P0_ k_ ∨ w.heap.size ≤ k_)) u9000_ l0 from Kd.R_mono ho0 (fun k_ hk => (.inl hk)))
 have HK := Aside0.mk (Kept.refl w (fun k_ => P0_ k_))
 have HW0 := Aside0.mk hB.size
 have HB := Aside0.mk hB
 clear hB
 have H : (laws_markIntS.l0 k l0 a1 0) = some (r1, r2) := h
 clear h
 have H' := Aside0.mk H
 clear H
 go_enter Try.func27, Try.ntmps27
 go_wp2
 go_loopg [1, 5] k (fun kq v1 v5 w' => ∃ (x0_1 : List Int) (x1_1 : Int) (x5_1 : Int), v1 = .int .i64 x1_1 ∧ v5 = .int .i64 x5_1 ∧ Aside0 (laws_markIntS.l0 kq x0_1 x1_1 x5_1 = some (r1, r2)) ∧ Aside0 (kq ≤ k) ∧ Aside0 (Kd.R (Kd.int .i64) 3 w' w0.heap.size (fun k_ => (P0_ k_ ∨ w.heap.size ≤ k_)) u9000_ x0_1) ∧ Aside0 (Kept w w' (fun k_ => P0_ k_)) ∧ Aside0 (Below w0.heap.size w0 w'))
 case atStart => exact ⟨(l0), (a1), (0), (by first | rfl | (simp; done) | (simp [*]; done)), (by first | rfl | (simp; done) | (simp [*]; done)), H', ⟨Nat.le_refl _⟩, ⟨by (with_reducible repeat (first | apply Kd.R_alloc | apply Kd.R_drewN | apply Kd.R_drew)); exact HO0.out⟩, ⟨by repeat (first | (with_reducible first | exact HK.out | apply Kept.alloc | apply Kept.drewN | apply Kept.drew) | exact HK.out)⟩, ⟨by repeat (first | (with_reducible first | exact HB.out | apply below_alloc | apply pw_below_drewN | apply below_drew1) | exact HB.out)⟩⟩
 case round =>
  clear H'
  try clear c2
  try clear p2
  obtain ⟨x0_1, x1_1, x5_1, rfl, rfl, HA, HK1, HO_0, HK, HB⟩ := hrel
  cases gk with
  | zero => exact absurd HA.out (by simp [laws_markIntS.l0])
  | succ k1 =>
   have H := HA.out
   clear HA
   simp only [laws_markIntS.l0] at H
   by_cases c3 : x5_1 < (x0_1.length : Int)
   ·rw [if_pos c3] at H
    have c3b0 : decide (x5_1 < (x0_1.length : Int)) = true := decide_eq_true c3
    clear c3
    by_cases c4 : 0 ≤ x5_1
    ·rw [if_pos c4] at H
     have c4b0 : decide (0 ≤ x5_1) = true := decide_eq_true c4
     clear c4
     obtain ⟨y101, hy101⟩ : ∃ y_ : List Int, y_ = (x0_1.set (x5_1 : Int).toNat x1_1) := ⟨_, rfl⟩
     replace H : (laws_markIntS.l0 k1 y101 (wrap64 (x1_1 + 1)) (wrap64 (x5_1 + 1))) = some (r1, r2) := by first | (rw [hy101]; with_reducible exact H) | (have H2_ := (Option.bind_some _ _).symm.trans H; rw [hy101]; with_reducible exact H2_) | (have H2_ := (Option.bind_some _ _).symm.trans H; with_reducible exact H2_) | with_reducible exact H | (rw [hy101]; exact H) | exact H
     have Ny101 := Aside0.mk hy101
     clear hy101
     have H' := Aside0.mk H
     clear H
     obtain ⟨Ao6, co6, eo6⟩ := Kd.R_slice HO_0.out
     subst eo6
     have p5 : 0 ≤ (x5_1 : Int) := of_decide_eq_true (by first | (with_reducible assumption) | assumption)
     have q5 : (x5_1 : Int) < ((x0_1.length : Int) : Int) := of_decide_eq_true (by first | (with_reducible assumption) | assumption)
     obtain ⟨go5, co5, eo5, gb5, gl5, cl5, HG5⟩ := Kd.R_form HO_0.out (by omega)
     (first | cases eo5 | (injection eo5 with ea_ en_ ec_; (first | subst ea_ | (injection ea_ with ea_; subst ea_)); subst ec_; clear en_))
     have GB5 := Aside0.mk gb5
     have GG5 := Aside0.mk HG5
     clear gb5 gl5 HG5
     have HMgo5 := Aside0.mk (show (P0_ go5 ∨ w.heap.size ≤ go5) from (HO_0.out.1 _ rfl))
     obtain ⟨hx5_0, hf5_0⟩ := Kd.R_celln 0 HO_0.out (x5_1 : Int) p5 q5
     replace p5 := eq_true p5
     replace q5 := eq_true q5
     have HP7 := Kd.R_putg HO_0.out (x5_1 : Int) x1_1
     go_wp2_with (first | ((with_reducible refine gate_store (t := 3) (p := 15) rfl ?_); refine store_event (t := 3) (p := 15) (v := ?vo_w8) (w1 := (wr.setCell ⟨go5, (x5_1 : Int).toNat, none⟩ (.int .i64 x1_1))) ?hg ?ho ?hn ?hr ?_; (case ho => rfl); (case hg => rfl); (case hn => rfl); (case hr => first | (go_simp; done) | (go_simp; rfl)); intro w8 hw; have hg : wr.grownBy w8 (some go5) := (by rw [hw]; exact HP7.2); have hp_ : Kd.R (Kd.int .i64) 3 w8 w0.heap.size (fun k_ => (P0_ k_ ∨ w.heap.size ≤ k_)) (.slice (some ⟨go5, 0, none⟩) x0_1.length co6) y101 := (by rw [hw, Ny101.out]; exact HP7.1); clear HP7; have n0_ := Aside0.mk (hp_); have n1_ := Aside0.mk ((by rw [hw]; exact below_set (HB.out) GB5.out : Below w0.heap.size w0 w8)); have n2_ := Aside0.mk (Kept.of_grown (S := (fun k_ => P0_ k_)) hg (by repeat (first | (with_reducible first | exact HK.out | apply Kept.alloc | apply Kept.drewN | apply Kept.drew) | exact HK.out)) (fun k_ e_ => (HO_0.out.1 k_ e_))); clear HO_0; clear HB; clear HK; have HO_0 := n0_; have HB := n1_; have HK := n2_; clear n0_ n1_ n2_; clear hg hw hp_))
     go_roundg k1
     case measure => have := HK1.out; omega
     case rel => exact ⟨(y101), (wrap64 (x1_1 + 1)), (wrap64 (x5_1 + 1)), (by first | rfl | (simp; done) | (simp [*]; done)), (by first | rfl | (simp; done) | (simp [*]; done)), H', ⟨by have := HK1.out; omega⟩, ⟨by (with_reducible repeat (first | apply Kd.R_alloc | apply Kd.R_drewN | apply Kd.R_drew)); exact HO_0.out⟩, ⟨by repeat (first | (with_reducible first | exact HK.out | apply Kept.alloc | apply Kept.drewN | apply Kept.drew) | exact HK.out)⟩, ⟨by repeat (first | (with_reducible first | exact HB.out | apply below_alloc | apply pw_below_drewN | apply below_drew1) | exact HB.out)⟩⟩
    ·rw [if_neg c4] at H
     exact absurd H (by simp)
   ·rw [if_neg c3] at H
    have c3b0 : decide (x5_1 < (x0_1.length : Int)) = false := decide_eq_false c3
    clear c3
    simp only [Option.some.injEq, Prod.mk.injEq] at H
    obtain ⟨rfl, rfl⟩ := H
    obtain ⟨Ao9, co9, eo9⟩ := Kd.R_slice HO_0.out
    subst eo9
    go_wp2
    go_ret
    exact ⟨by first | rfl | (simp [errW_none, errW_some] <;> rfl) | (simp [*, errW_none, errW_some] <;> rfl), by (with_reducible repeat (first | apply Kd.R_alloc | apply Kd.R_drewN | apply Kd.R_drew)); exact HO_0.out, by repeat (first | (with_reducible first | exact HB.out | apply below_alloc | apply pw_below_drewN | apply below_drew1) | exact HB.out), by repeat (first | (with_reducible first | exact HK.out | apply Kept.alloc | apply Kept.drewN | apply Kept.drew) | exact HK.out)⟩

end Go.Proofs.Ytijgjpfbhbggdaa.P

namespace Go.Proofs.Ytijgjpfbhbggdaa.P
open Go.RowKit Go.Proofs.YtijgjpfbhbggdaaW.PrintWords Go.Proofs.YtijgjpfbhbggdaaW.PrintLast Go.Proofs.YtijgjpfbhbggdaaW.PrintMore
attribute [local go_sem] max2_int min2_int max_two min_two max_three min_three max_four min_four   -- for this text's walks alone
set_option linter.unusedVariables false
set_option linter.unusedSimpArgs false

/-! ### laws_heldIntS: function 28 -/
def laws_heldIntS.l0 : Nat → List Int → Int → Int → Option (Int)
 | 0, _, _, _ => none
 | k + 1, x0, x1, x5 => if x5 < (x0.length : Int) then (if 0 ≤ x5 then (if (rd x0 x5) = x1 then (laws_heldIntS.l0 k x0 (wrap64 (x1 + 1)) (wrap64 (x5 + 1))) else (some (-1))) else (none)) else (some x1)
def laws_heldIntS.f (k : Nat) (l0 : List Int) (a1 : Int) : Option (Int) := laws_heldIntS.l0 k l0 a1 0
theorem laws_heldIntS.mono_l : ∀ k, (∀ y0 y1 y2, LeO (laws_heldIntS.l0 k y0 y1 y2) (laws_heldIntS.l0 (k + 1) y0 y1 y2))
 | 0 => fun _ _ _ r h => by simp [laws_heldIntS.l0] at h
 | k + 1 => by
  have ih0 := laws_heldIntS.mono_l k
  ·intro y0 y1 y2
   unfold laws_heldIntS.l0
   repeat' first
   | (with_reducible exact ih0 _ _ _)
   | (with_reducible exact LeO.refl _)
   | (with_reducible exact LeO.none _)
   | (with_reducible refine LeO.ite ?_ ?_)
   | (with_reducible refine LeO.bind ?_ (fun _ => ?_))
   | exact ih0 _ _ _
   | exact LeO.none _
   | refine LeO.ite ?_ ?_
   | refine LeO.bind ?_ (fun _ => ?_)
theorem laws_heldIntS.mono : ∀ a0 a1 k, LeO (laws_heldIntS.f k a0 a1) (laws_heldIntS.f (k + 1) a0 a1) := by
 intro a0 a1 k
 have ih0 := laws_heldIntS.mono_l k
 unfold laws_heldIntS.f
 repeat' first
   | (with_reducible exact ih0 _ _ _)
   | (with_reducible exact LeO.refl _)
   | (with_reducible exact LeO.none _)
   | (with_reducible refine LeO.ite ?_ ?_)
   | (with_reducible refine LeO.bind ?_ (fun _ => ?_))
   | exact ih0 _ _ _
   | exact LeO.none _
   | refine LeO.ite ?_ ?_
   | refine LeO.bind ?_ (fun _ => ?_)
set_option maxHeartbeats 8000000 in
set_option maxRecDepth 100000 in
theorem laws_heldIntS.calls (k : Nat) (A0 : Option Addr) (c0 : Nat) (l0 : List Int) (a1 : Int) (r : Int) (w : World) (hr0 : Kd.C (Kd.int .i64) w A0 l0.length l0) (hc0 : l0.length ≤ c0) (h : laws_heldIntS.f k l0 a1 = some r) :
  Calls Try.prog 28 #[.slice A0 l0.length c0, .int .i64 a1] w fun e w' => e = .returned (.int .i64 r) ∧ Drawn0 w w' := by
 have HR0 := Aside0.mk hr0
 have HC0 := Aside0.mk hc0
 clear hr0 hc0
 have H : (laws_heldIntS.l0 k l0 a1 0) = some r := h
 clear h
 have H' := Aside0.mk H
 clear H
 go_enter Try.func28, Try.ntmps28
 go_wp2
 go_loopg [1, 5] k (fun kq v1 v5 w' => ∃ (x1_1 : Int) (x5_1 : Int), v1 = .int .i64 x1_1 ∧ v5 = .int .i64 x5_1 ∧ Aside0 (laws_heldIntS.l0 kq l0 x1_1 x5_1 = some r) ∧ Aside0 (kq ≤ k) ∧ Drawn0 w w')
 case atStart => exact ⟨(a1), (0), (by first | rfl | (simp; done) | (simp [*]; done)), (by first | rfl | (simp; done) | (simp [*]; done)), H', ⟨Nat.le_refl _⟩, by repeat (first | exact Drawn0.refl _ | apply Drawn0.step)⟩
 case round =>
  clear H'
  try clear c2
  try clear p2
  obtain ⟨x1_1, x5_1, rfl, rfl, HA, HK1, ⟨m1, rfl⟩⟩ := hrel
  cases gk with
  | zero => exact absurd HA.out (by simp [laws_heldIntS.l0])
  | succ k1 =>
   have H := HA.out
   clear HA
   simp only [laws_heldIntS.l0] at H
   by_cases c3 : x5_1 < (l0.length : Int)
   ·rw [if_pos c3] at H
    have c3b0 : decide (x5_1 < (l0.length : Int)) = true := decide_eq_true c3
    clear c3
    by_cases c4 : 0 ≤ x5_1
    ·rw [if_pos c4] at H
     have c4b0 : decide (0 ≤ x5_1) = true := decide_eq_true c4
     clear c4
     by_cases c5 : (rd l0 x5_1) = x1_1
     ·rw [if_pos c5] at H
      have c5b0 : ((rd l0 x5_1) == x1_1) = true := beq_iff_eq.mpr c5
      have c5b1 : ((rd l0 x5_1) != x1_1) = false := bne_eq_false_iff_eq.mpr c5
      clear c5
      have H' := Aside0.mk H
      clear H
      have p101 : 0 ≤ (x5_1 : Int) := of_decide_eq_true (by first | (with_reducible assumption) | assumption)
      have q101 : x5_1 < (l0.length : Int) := of_decide_eq_true (by first | (with_reducible assumption) | assumption)
      obtain ⟨ad101, e101, hx101_0⟩ := Kd.at_int HR0.out x5_1 p101 q101
      cases e101
      replace p101 := eq_true p101
      replace q101 := eq_true q101
      go_wp2
      go_roundg k1
      case measure => have := HK1.out; omega
      case rel => exact ⟨(wrap64 (x1_1 + 1)), (wrap64 (x5_1 + 1)), (by first | rfl | (simp; done) | (simp [*]; done)), (by first | rfl | (simp; done) | (simp [*]; done)), H', ⟨by have := HK1.out; omega⟩, by repeat (first | exact Drawn0.refl _ | apply Drawn0.step)⟩
     ·rw [if_neg c5] at H
      have c5b0 : ((rd l0 x5_1) == x1_1) = false := beq_eq_false_iff_ne.mpr c5
      have c5b1 : ((rd l0 x5_1) != x1_1) = true := bne_iff_ne.mpr c5
      obtain rfl := Option.some.inj H
      have p101 : 0 ≤ (x5_1 : Int) := of_decide_eq_true (by first | (with_reducible assumption) | assumption)
      have q101 : x5_1 < (l0.length : Int) := of_decide_eq_true (by first | (with_reducible assumption) | assumption)
      obtain ⟨ad101, e101, hx101_0⟩ := Kd.at_int HR0.out x5_1 p101 q101
      cases e101
      replace p101 := eq_true p101
      replace q101 := eq_true q101
      go_wp2
      go_ret
      exact ⟨by first | rfl | (simp; done) | (simp [*]; done), by repeat (first | exact Drawn0.refl _ | apply Drawn0.step)⟩
    ·rw [if_neg c4] at H
     exact absurd H (by simp)
   ·rw [if_neg c3] at H
    have c3b0 : decide (x5_1 < (l0.length : Int)) = false := decide_eq_false c3
    clear c3
    obtain rfl := Option.some.inj H
    go_wp2
    go_ret
    exact ⟨by first | rfl | (simp; done) | (simp [*]; done), by repeat (first | exact Drawn0.refl _ | apply Drawn0.step)⟩

end Go.Proofs.Ytijgjpfbhbggdaa.P

namespace Go.Proofs.Ytijgjpfbhbggdaa.P
open Go.RowKit Go.Proofs.YtijgjpfbhbggdaaW.PrintWords Go.Proofs.YtijgjpfbhbggdaaW.PrintLast Go.Proofs.YtijgjpfbhbggdaaW.PrintMore
attribute [local go_sem] max2_int min2_int max_two min_two max_three min_three max_four min_four   -- for this text's walks alone
set_option linter.unusedVariables false
set_option linter.unusedSimpArgs false

/-! ### laws_FnExactSmallestTriangle: function 5 -/
def laws_FnExactSmallestTriangle.j0 : Nat → List (S56) → List Int → List Int → Bool → Option (Bool)
 | 0, _, _, _, _ => none
 | k + 1, x0, x4, x6, x42 => if x42 = true then (some false) else ((laws_markIntS.f k x6 1).bind fun bt122 => ((laws_heldIntS.f k bt122.2 1).bind fun t124 => (if t124 < 0 then (some false) else (if t124 = bt122.1 then ((laws_toPointS.f k x0).bind fun t125 => ((impl_SmallestTriangle.f k t125).bind fun t128 => ((laws_eqIntS.f k t128 x4).bind fun t131 => (if t131 = true then ((laws_heldIntS.f k bt122.2 1).bind fun t132 => (if t132 < 0 then (some false) else (if t132 = bt122.1 then (some true) else (some false)))) else (some false))))) else (some false)))))
def laws_FnExactSmallestTriangle.f (k : Nat) (l0 : List (S56)) : Option (Bool) := (laws_szPointS.f l0 1048576).bind fun t101 => (if t101 < 0 then (some true) else ((laws_toPointS.f k l0).bind fun t102 => ((spec_SmallestTriangle.f k t102).bind fun t105 => ((laws_toPointS.f k l0).bind fun t108 => ((impl_SmallestTriangle.f k t108).bind fun t111 => ((laws_eqIntS.f k t111 t105).bind fun t114 => (if t114 = true then ((laws_toPointS.f k l0).bind fun t115 => ((laws_eqPointS.f k t108 t115).bind fun t118 => (if t118 = true then ((laws_markPointS.f k t108 1).bind fun bt119 => (if bt119.1 < 0 then (laws_FnExactSmallestTriangle.j0 k l0 t105 t111 true) else ((laws_eqIntS.f k t111 t105).bind fun t121 => (laws_FnExactSmallestTriangle.j0 k l0 t105 t111 (!t121))))) else (some false)))) else (some false))))))))
theorem laws_FnExactSmallestTriangle.mono_l : ∀ k, (∀ y0 y1 y2 y3, LeO (laws_FnExactSmallestTriangle.j0 k y0 y1 y2 y3) (laws_FnExactSmallestTriangle.j0 (k + 1) y0 y1 y2 y3))
 | 0 => fun _ _ _ _ r h => by simp [laws_FnExactSmallestTriangle.j0] at h
 | k + 1 => by
  have ih0 := laws_FnExactSmallestTriangle.mono_l k
  ·intro y0 y1 y2 y3
   unfold laws_FnExactSmallestTriangle.j0
   repeat' first
   | (with_reducible exact ih0 _ _ _ _)
   | (with_reducible exact impl_SmallestTriangle.mono _ _)
   | (with_reducible exact laws_eqIntS.mono _ _ _)
   | (with_reducible exact laws_eqPointS.mono _ _ _)
   | (with_reducible exact laws_heldIntS.mono _ _ _)
   | (with_reducible exact laws_markIntS.mono _ _ _)
   | (with_reducible exact laws_markPointS.mono _ _ _)
   | (with_reducible exact laws_toPointS.mono _ _)
   | (with_reducible exact spec_SmallestTriangle.mono _ _)
   | (with_reducible exact LeO.refl _)
   | (with_reducible exact LeO.none _)
   | (with_reducible refine LeO.ite ?_ ?_)
   | (with_reducible refine LeO.bind ?_ (fun _ => ?_))
   | exact ih0 _ _ _ _
   | exact impl_SmallestTriangle.mono _ _
   | exact laws_eqIntS.mono _ _ _
   | exact laws_eqPointS.mono _ _ _
   | exact laws_heldIntS.mono _ _ _
   | exact laws_markIntS.mono _ _ _
   | exact laws_markPointS.mono _ _ _
   | exact laws_toPointS.mono _ _
   | exact spec_SmallestTriangle.mono _ _
   | exact LeO.none _
   | refine LeO.ite ?_ ?_
   | refine LeO.bind ?_ (fun _ => ?_)
theorem laws_FnExactSmallestTriangle.mono : ∀ a0 k, LeO (laws_FnExactSmallestTriangle.f k a0) (laws_FnExactSmallestTriangle.f (k + 1) a0) := by
 intro a0 k
 have ih0 := laws_FnExactSmallestTriangle.mono_l k
 unfold laws_FnExactSmallestTriangle.f
 repeat' first
   | (with_reducible exact ih0 _ _ _ _)
   | (with_reducible exact impl_SmallestTriangle.mono _ _)
   | (with_reducible exact laws_eqIntS.mono _ _ _)
   | (with_reducible exact laws_eqPointS.mono _ _ _)
   | (with_reducible exact laws_heldIntS.mono _ _ _)
   | (with_reducible exact laws_markIntS.mono _ _ _)
   | (with_reducible exact laws_markPointS.mono _ _ _)
   | (with_reducible exact laws_toPointS.mono _ _)
   | (with_reducible exact spec_SmallestTriangle.mono _ _)
   | (with_reducible exact LeO.refl _)
   | (with_reducible exact LeO.none _)
   | (with_reducible refine LeO.ite ?_ ?_)
   | (with_reducible refine LeO.bind ?_ (fun _ => ?_))
   | exact ih0 _ _ _ _
   | exact impl_SmallestTriangle.mono _ _
   | exact laws_eqIntS.mono _ _ _
   | exact laws_eqPointS.mono _ _ _
   | exact laws_heldIntS.mono _ _ _
   | exact laws_markIntS.mono _ _ _
   | exact laws_markPointS.mono _ _ _
   | exact laws_toPointS.mono _ _
   | exact spec_SmallestTriangle.mono _ _
   | exact LeO.none _
   | refine LeO.ite ?_ ?_
   | refine LeO.bind ?_ (fun _ => ?_)
set_option maxHeartbeats 8000000 in
set_option maxRecDepth 100000 in
theorem laws_FnExactSmallestTriangle.calls (k : Nat) (A0 : Option Addr) (c0 : Nat) (l0 : List (S56)) (r : Bool) (w : World) (hr0 : Kd.C k56 w A0 l0.length l0) (hc0 : l0.length ≤ c0) (h : laws_FnExactSmallestTriangle.f k l0 = some true) :
  Calls Try.prog 5 #[.slice A0 l0.length c0] w fun e w' => e = .returned (.bool true) ∧ Below w.heap.size w w' := by
 have HR0 := Aside0.mk hr0
 have HC0 := Aside0.mk hc0
 clear hr0 hc0
 have HB := Aside0.mk (Below.refl w.heap.size w)
 have H : ((laws_szPointS.f l0 1048576).bind fun t101 => (if t101 < 0 then (some true) else ((laws_toPointS.f k l0).bind fun t102 => ((spec_SmallestTriangle.f k t102).bind fun t105 => ((laws_toPointS.f k l0).bind fun t108 => ((impl_SmallestTriangle.f k t108).bind fun t111 => ((laws_eqIntS.f k t111 t105).bind fun t114 => (if t114 = true then ((laws_toPointS.f k l0).bind fun t115 => ((laws_eqPointS.f k t108 t115).bind fun t118 => (if t118 = true then ((laws_markPointS.f k t108 1).bind fun bt119 => (if bt119.1 < 0 then (laws_FnExactSmallestTriangle.j0 k l0 t105 t111 true) else ((laws_eqIntS.f k t111 t105).bind fun t121 => (laws_FnExactSmallestTriangle.j0 k l0 t105 t111 (!t121))))) else (some false)))) else (some false))))))))) = some true := h
 clear h
 replace H := Option.bind_eq_some_iff.mp H
 obtain ⟨t101, A20, H⟩ := H
 replace H : (if t101 < 0 then (some true) else ((laws_toPointS.f k l0).bind fun t102 => ((spec_SmallestTriangle.f k t102).bind fun t105 => ((laws_toPointS.f k l0).bind fun t108 => ((impl_SmallestTriangle.f k t108).bind fun t111 => ((laws_eqIntS.f k t111 t105).bind fun t114 => (if t114 = true then ((laws_toPointS.f k l0).bind fun t115 => ((laws_eqPointS.f k t108 t115).bind fun t118 => (if t118 = true then ((laws_markPointS.f k t108 1).bind fun bt119 => (if bt119.1 < 0 then (laws_FnExactSmallestTriangle.j0 k l0 t105 t111 true) else ((laws_eqIntS.f k t111 t105).bind fun t121 => (laws_FnExactSmallestTriangle.j0 k l0 t105 t111 (!t121))))) else (some false)))) else (some false)))))))) = some true := H
 have A2 := Aside0.mk A20
 clear A20
 by_cases c3 : t101 < 0
 ·rw [if_pos c3] at H
  have c3b0 : decide (t101 < 0) = true := decide_eq_true c3
  clear c3
  clear H
  go_enter Try.func5, Try.ntmps5
  go_wp2_with (first | ((with_reducible refine gate_callee (f := 15) rfl ?_); refine goesL_ (some 13) rfl rfl Try.func15 (by kernel_rfl) rfl #[.slice A0 l0.length c0, .int .i64 1048576] rfl (by (try simp only [List.map_toArray, List.map_cons, List.map_nil]); first | done | rfl | (simp only [List.length_drop, List.length_take]; rfl)) ?_; (with_reducible refine (laws_szPointS.calls _ _ l0 1048576 t101 _ ?side1 ?side2 A2.out).mono ?_); (case side1 => repeat (first | exact HR0.out | (with_reducible refine Kd.C_alloc ?_ _) | (with_reducible refine Kd.C_drewN ?_ _) | (with_reducible refine Kd.C_drew ?_))); (case side2 => exact HC0.out); rintro e w' ⟨rfl, ⟨nd, rfl⟩⟩; refine ⟨_, rfl, ?_⟩))
  go_ret
  exact ⟨by first | rfl | (simp [errW_none, errW_some] <;> rfl) | (simp [*, errW_none, errW_some] <;> rfl), by repeat (first | (with_reducible first | exact HB.out | apply below_alloc | apply pw_below_drewN | apply below_drew1) | exact HB.out)⟩
 ·rw [if_neg c3] at H
  have c3b0 : decide (t101 < 0) = false := decide_eq_false c3
  clear c3
  replace H := Option.bind_eq_some_iff.mp H
  obtain ⟨t102, A40, H⟩ := H
  replace H : ((spec_SmallestTriangle.f k t102).bind fun t105 => ((laws_toPointS.f k l0).bind fun t108 => ((impl_SmallestTriangle.f k t108).bind fun t111 => ((laws_eqIntS.f k t111 t105).bind fun t114 => (if t114 = true then ((laws_toPointS.f k l0).bind fun t115 => ((laws_eqPointS.f k t108 t115).bind fun t118 => (if t118 = true then ((laws_markPointS.f k t108 1).bind fun bt119 => (if bt119.1 < 0 then (laws_FnExactSmallestTriangle.j0 k l0 t105 t111 true) else ((laws_eqIntS.f k t111 t105).bind fun t121 => (laws_FnExactSmallestTriangle.j0 k l0 t105 t111 (!t121))))) else (some false)))) else (some false)))))) = some true := H
  have A4 := Aside0.mk A40
  clear A40
  replace H := Option.bind_eq_some_iff.mp H
  obtain ⟨t105, A50, H⟩ := H
  replace H : ((laws_toPointS.f k l0).bind fun t108 => ((impl_SmallestTriangle.f k t108).bind fun t111 => ((laws_eqIntS.f k t111 t105).bind fun t114 => (if t114 = true then ((laws_toPointS.f k l0).bind fun t115 => ((laws_eqPointS.f k t108 t115).bind fun t118 => (if t118 = true then ((laws_markPointS.f k t108 1).bind fun bt119 => (if bt119.1 < 0 then (laws_FnExactSmallestTriangle.j0 k l0 t105 t111 true) else ((laws_eqIntS.f k t111 t105).bind fun t121 => (laws_FnExactSmallestTriangle.j0 k l0 t105 t111 (!t121))))) else (some false)))) else (some false))))) = some true := H
  have A5 := Aside0.mk A50
  clear A50
  replace H := Option.bind_eq_some_iff.mp H
  obtain ⟨t108, A60, H⟩ := H
  replace H : ((impl_SmallestTriangle.f k t108).bind fun t111 => ((laws_eqIntS.f k t111 t105).bind fun t114 => (if t114 = true then ((laws_toPointS.f k l0).bind fun t115 => ((laws_eqPointS.f k t108 t115).bind fun t118 => (if t118 = true then ((laws_markPointS.f k t108 1).bind fun bt119 => (if bt119.1 < 0 then (laws_FnExactSmallestTriangle.j0 k l0 t105 t111 true) else ((laws_eqIntS.f k t111 t105).bind fun t121 => (laws_FnExactSmallestTriangle.j0 k l0 t105 t111 (!t121))))) else (some false)))) else (some false)))) = some true := H
  have A6 := Aside0.mk A60
  clear A60
  replace H := Option.bind_eq_some_iff.mp H
  obtain ⟨t111, A70, H⟩ := H
  replace H : ((laws_eqIntS.f k t111 t105).bind fun t114 => (if t114 = true then ((laws_toPointS.f k l0).bind fun t115 => ((laws_eqPointS.f k t108 t115).bind fun t118 => (if t118 = true then ((laws_markPointS.f k t108 1).bind fun bt119 => (if bt119.1 < 0 then (laws_FnExactSmallestTriangle.j0 k l0 t105 t111 true) else ((laws_eqIntS.f k t111 t105).bind fun t121 => (laws_FnExactSmallestTriangle.j0 k l0 t105 t111 (!t121))))) else (some false)))) else (some false))) = some true := H
  have A7 := Aside0.mk A70
  clear A70
  replace H := Option.bind_eq_some_iff.mp H
  obtain ⟨t114, A80, H⟩ := H
  replace H : (if t114 = true then ((laws_toPointS.f k l0).bind fun t115 => ((laws_eqPointS.f k t108 t115).bind fun t118 => (if t118 = true then ((laws_markPointS.f k t108 1).bind fun bt119 => (if bt119.1 < 0 then (laws_FnExactSmallestTriangle.j0 k l0 t105 t111 true) else ((laws_eqIntS.f k t111 t105).bind fun t121 => (laws_FnExactSmallestTriangle.j0 k l0 t105 t111 (!t121))))) else (some false)))) else (some false)) = some true := H
  have A8 := Aside0.mk A80
  clear A80
  by_cases c9 : t114 = true
  ·subst c9
   have H1 : ((laws_toPointS.f k l0).bind fun t115 => ((laws_eqPointS.f k t108 t115).bind fun t118 => (if t118 = true then ((laws_markPointS.f k t108 1).bind fun bt119 => (if bt119.1 < 0 then (laws_FnExactSmallestTriangle.j0 k l0 t105 t111 true) else ((laws_eqIntS.f k t111 t105).bind fun t121 => (laws_FnExactSmallestTriangle.j0 k l0 t105 t111 (!t121))))) else (some false)))) = some true := by rw [if_pos rfl] at H; exact H
   clear H
   have H := H1
   clear H1
   replace H := Option.bind_eq_some_iff.mp H
   obtain ⟨t115, A100, H⟩ := H
   replace H : ((laws_eqPointS.f k t108 t115).bind fun t118 => (if t118 = true then ((laws_markPointS.f k t108 1).bind fun bt119 => (if bt119.1 < 0 then (laws_FnExactSmallestTriangle.j0 k l0 t105 t111 true) else ((laws_eqIntS.f k t111 t105).bind fun t121 => (laws_FnExactSmallestTriangle.j0 k l0 t105 t111 (!t121))))) else (some false))) = some true := H
   have A10 := Aside0.mk A100
   clear A100
   replace H := Option.bind_eq_some_iff.mp H
   obtain ⟨t118, A110, H⟩ := H
   replace H : (if t118 = true then ((laws_markPointS.f k t108 1).bind fun bt119 => (if bt119.1 < 0 then (laws_FnExactSmallestTriangle.j0 k l0 t105 t111 true) else ((laws_eqIntS.f k t111 t105).bind fun t121 => (laws_FnExactSmallestTriangle.j0 k l0 t105 t111 (!t121))))) else (some false)) = some true := H
   have A11 := Aside0.mk A110
   clear A110
   by_cases c12 : t118 = true
   ·subst c12
    have H1 : ((laws_markPointS.f k t108 1).bind fun bt119 => (if bt119.1 < 0 then (laws_FnExactSmallestTriangle.j0 k l0 t105 t111 true) else ((laws_eqIntS.f k t111 t105).bind fun t121 => (laws_FnExactSmallestTriangle.j0 k l0 t105 t111 (!t121))))) = some true := by rw [if_pos rfl] at H; exact H
    clear H
    have H := H1
    clear H1
    replace H := Option.bind_eq_some_iff.mp H
    obtain ⟨⟨t119, t120⟩, A130, H⟩ := H
    replace H : (if t119 < 0 then (laws_FnExactSmallestTriangle.j0 k l0 t105 t111 true) else ((laws_eqIntS.f k t111 t105).bind fun t121 => (laws_FnExactSmallestTriangle.j0 k l0 t105 t111 (!t121)))) = some true := H
    have A13 := Aside0.mk A130
    clear A130
    have HC14 := Aside0.mk H
    clear H
    go_enter Try.func5, Try.ntmps5
    go_upto_region 14 with (first | ((with_reducible refine gate_callee (f := 15) rfl ?_); refine goesL_ (some 13) rfl rfl Try.func15 (by kernel_rfl) rfl #[.slice A0 l0.length c0, .int .i64 1048576] rfl (by (try simp only [List.map_toArray, List.map_cons, List.map_nil]); first | done | rfl | (simp only [List.length_drop, List.length_take]; rfl)) ?_; (with_reducible refine (laws_szPointS.calls _ _ l0 1048576 t101 _ ?side1 ?side2 A2.out).mono ?_); (case side1 => repeat (first | exact HR0.out | (with_reducible refine Kd.C_alloc ?_ _) | (with_reducible refine Kd.C_drewN ?_ _) | (with_reducible refine Kd.C_drew ?_))); (case side2 => exact HC0.out); rintro e w' ⟨rfl, ⟨nd, rfl⟩⟩; refine ⟨_, rfl, ?_⟩) | ((with_reducible refine gate_callee (f := 17) rfl ?_); refine goesL_ (some 17) rfl rfl Try.func17 (by kernel_rfl) rfl #[.slice A0 l0.length c0] rfl (by (try simp only [List.map_toArray, List.map_cons, List.map_nil]); first | done | rfl | (simp only [List.length_drop, List.length_take]; rfl)) ?_; (with_reducible refine (laws_toPointS.calls k _ _ l0 t102 _ ?side1 ?side2 A4.out).mono ?_); (case side1 => repeat (first | exact HR0.out | (with_reducible refine Kd.C_alloc ?_ _) | (with_reducible refine Kd.C_drewN ?_ _) | (with_reducible refine Kd.C_drew ?_))); (case side2 => exact HC0.out); rintro e w15 ⟨v103, rfl, ho0, hb⟩; refine ⟨_, rfl, ?_⟩; have n0_ := Aside0.mk (Kd.R_lower ho0 (below_size (by repeat (first | (with_reducible first | exact HB.out | apply below_alloc | apply pw_below_drewN | apply below_drew1) | exact HB.out)))); have n1_ := Aside0.mk (below_step (by repeat (first | (with_reducible first | exact HB.out | apply below_alloc | apply pw_below_drewN | apply below_drew1) | exact HB.out)) hb); clear HB; have HO104 := n0_; have HB := n1_; clear n0_ n1_; (try clear hb); (try clear hb2); (try clear hk); (try clear hi); (try clear ho0); obtain ⟨Ao16, co16, eo16⟩ := Kd.R_slice HO104.out; subst eo16) | ((with_reducible refine gate_callee (f := 23) rfl ?_); refine goesL_ (some 18) rfl rfl Try.func23 (by kernel_rfl) rfl #[.slice Ao16 t102.length co16] rfl (by (try simp only [List.map_toArray, List.map_cons, List.map_nil]); first | done | rfl | (simp only [List.length_drop, List.length_take]; rfl)) ?_; (with_reducible refine (spec_SmallestTriangle.calls k _ _ t102 t105 _ ?side1 ?side2 A5.out).mono ?_); (case side1 => repeat (first | exact (Kd.R_reads' HO104.out).2.2 | (with_reducible refine Kd.C_alloc ?_ _) | (with_reducible refine Kd.C_drewN ?_ _) | (with_reducible refine Kd.C_drew ?_))); (case side2 => exact (Kd.R_reads' HO104.out).2.1); rintro e w17 ⟨v106, rfl, ho0, hb⟩; refine ⟨_, rfl, ?_⟩; have n0_ := Aside0.mk (Kd.R_below (by (with_reducible repeat (first | apply Kd.R_alloc | apply Kd.R_drewN | apply Kd.R_drew)); exact HO104.out) hb); have n1_ := Aside0.mk (Kd.R_lower ho0 (below_size (by repeat (first | (with_reducible first | exact HB.out | apply below_alloc | apply pw_below_drewN | apply below_drew1) | exact HB.out)))); have n2_ := Aside0.mk (below_step (by repeat (first | (with_reducible first | exact HB.out | apply below_alloc | apply pw_below_drewN | apply below_drew1) | exact HB.out)) hb); clear HO104; clear HB; have HO104 := n0_; have HO107 := n1_; have HB := n2_; clear n0_ n1_ n2_; (try clear hb); (try clear hb2); (try clear hk); (try clear hi); (try clear ho0)) | ((with_reducible refine gate_callee (f := 17) rfl ?_); refine goesL_ (some 20) rfl rfl Try.func17 (by kernel_rfl) rfl #[.slice A0 l0.length c0] rfl (by (try simp only [List.map_toArray, List.map_cons, List.map_nil]); first | done | rfl | (simp only [List.length_drop, List.length_take]; rfl)) ?_; (with_reducible refine (laws_toPointS.calls k _ _ l0 t108 _ ?side1 ?side2 A6.out).mono ?_); (case side1 => repeat (first | exact (Kd.C_below HR0.out HB.out) | (with_reducible refine Kd.C_alloc ?_ _) | (with_reducible refine Kd.C_drewN ?_ _) | (with_reducible refine Kd.C_drew ?_))); (case side2 => exact HC0.out); rintro e w18 ⟨v109, rfl, ho0, hb⟩; refine ⟨_, rfl, ?_⟩; have n0_ := Aside0.mk (Kd.R_elder' (by (with_reducible repeat (first | apply Kd.R_alloc | apply Kd.R_drewN | apply Kd.R_drew)); exact HO104.out) (Kd.R_base ho0) hb); have n1_ := Aside0.mk (Kd.R_below (by (with_reducible repeat (first | apply Kd.R_alloc | apply Kd.R_drewN | apply Kd.R_drew)); exact HO107.out) hb); have n2_ := Aside0.mk (Kd.R_lower (Kd.R_new' ho0 (Kd.R_lt (by (with_reducible repeat (first | apply Kd.R_alloc | apply Kd.R_drewN | apply Kd.R_drew)); exact HO104.out))) (below_size (by repeat (first | (with_reducible first | exact HB.out | apply below_alloc | apply pw_below_drewN | apply below_drew1) | exact HB.out)))); have n3_ := Aside0.mk (below_step (by repeat (first | (with_reducible first | exact HB.out | apply below_alloc | apply pw_below_drewN | apply below_drew1) | exact HB.out)) hb); clear HO104; clear HO107; clear HB; have HO104 := n0_; have HO107 := n1_; have HO110 := n2_; have HB := n3_; clear n0_ n1_ n2_ n3_; (try clear hb); (try clear hb2); (try clear hk); (try clear hi); (try clear ho0); obtain ⟨Ao19, co19, eo19⟩ := Kd.R_slice HO110.out; subst eo19) | ((with_reducible refine gate_callee (f := 24) rfl ?_); refine goesL_ (some 22) rfl rfl Try.func24 (by kernel_rfl) rfl #[.slice Ao19 t108.length co19] rfl (by (try simp only [List.map_toArray, List.map_cons, List.map_nil]); first | done | rfl | (simp only [List.length_drop, List.length_take]; rfl)) ?_; (with_reducible refine (impl_SmallestTriangle.calls k _ _ t108 t111 _ ?side1 ?side2 A7.out).mono ?_); (case side1 => repeat (first | exact (Kd.R_reads' HO110.out).2.2 | (with_reducible refine Kd.C_alloc ?_ _) | (with_reducible refine Kd.C_drewN ?_ _) | (with_reducible refine Kd.C_drew ?_))); (case side2 => exact (Kd.R_reads' HO110.out).2.1); rintro e w20 ⟨v112, rfl, ho0, hb⟩; refine ⟨_, rfl, ?_⟩; have n0_ := Aside0.mk (Kd.R_below (by (with_reducible repeat (first | apply Kd.R_alloc | apply Kd.R_drewN | apply Kd.R_drew)); exact HO104.out) hb); have n1_ := Aside0.mk (Kd.R_elder' (by (with_reducible repeat (first | apply Kd.R_alloc | apply Kd.R_drewN | apply Kd.R_drew)); exact HO107.out) (Kd.R_base ho0) hb); have n2_ := Aside0.mk (Kd.R_below (by (with_reducible repeat (first | apply Kd.R_alloc | apply Kd.R_drewN | apply Kd.R_drew)); exact HO110.out) hb); have n3_ := Aside0.mk (Kd.R_lower (Kd.R_new' ho0 (Kd.R_lt (by (with_reducible repeat (first | apply Kd.R_alloc | apply Kd.R_drewN | apply Kd.R_drew)); exact HO107.out))) (below_size (by repeat (first | (with_reducible first | exact HB.out | apply below_alloc | apply pw_below_drewN | apply below_drew1) | exact HB.out)))); have n4_ := Aside0.mk (below_step (by repeat (first | (with_reducible first | exact HB.out | apply below_alloc | apply pw_below_drewN | apply below_drew1) | exact HB.out)) hb); clear HO104; clear HO107; clear HO110; clear HB; have HO104 := n0_; have HO107 := n1_; have HO110 := n2_; have HO113 := n3_; have HB := n4_; clear n0_ n1_ n2_ n3_ n4_; (try clear hb); (try clear hb2); (try clear hk); (try clear hi); (try clear ho0); obtain ⟨Ao21, co21, eo21⟩ := Kd.R_slice HO113.out; subst eo21; obtain ⟨Ao22, co22, eo22⟩ := Kd.R_slice HO107.out; subst eo22) | ((with_reducible refine gate_callee (f := 25) rfl ?_); refine goesL_ (some 25) rfl rfl Try.func25 (by kernel_rfl) rfl #[.slice Ao21 t111.length co21, .slice Ao22 t105.length co22] rfl (by (try simp only [List.map_toArray, List.map_cons, List.map_nil]); first | done | rfl | (simp only [List.length_drop, List.length_take]; rfl)) ?_; (with_reducible refine (laws_eqIntS.calls k _ _ t111 _ _ t105 true _ ?side1 ?side2 ?side3 ?side4 A8.out).mono ?_); (case side1 => repeat (first | exact (Kd.R_reads' HO113.out).2.2 | (with_reducible refine Kd.C_alloc ?_ _) | (with_reducible refine Kd.C_drewN ?_ _) | (with_reducible refine Kd.C_drew ?_))); (case side2 => exact (Kd.R_reads' HO113.out).2.1); (case side3 => repeat (first | exact (Kd.R_reads' HO107.out).2.2 | (with_reducible refine Kd.C_alloc ?_ _) | (with_reducible refine Kd.C_drewN ?_ _) | (with_reducible refine Kd.C_drew ?_))); (case side4 => exact (Kd.R_reads' HO107.out).2.1); rintro e w' ⟨rfl, ⟨nd, rfl⟩⟩; refine ⟨_, rfl, ?_⟩) | ((with_reducible refine gate_callee (f := 17) rfl ?_); refine goesL_ (some 29) rfl rfl Try.func17 (by kernel_rfl) rfl #[.slice A0 l0.length c0] rfl (by (try simp only [List.map_toArray, List.map_cons, List.map_nil]); first | done | rfl | (simp only [List.length_drop, List.length_take]; rfl)) ?_; (with_reducible refine (laws_toPointS.calls k _ _ l0 t115 _ ?side1 ?side2 A10.out).mono ?_); (case side1 => repeat (first | exact (Kd.C_below HR0.out (by repeat (first | (with_reducible first | exact HB.out | apply below_alloc | apply pw_below_drewN | apply below_drew1) | exact HB.out))) | (with_reducible refine Kd.C_alloc ?_ _) | (with_reducible refine Kd.C_drewN ?_ _) | (with_reducible refine Kd.C_drew ?_))); (case side2 => exact HC0.out); rintro e w23 ⟨v116, rfl, ho0, hb⟩; refine ⟨_, rfl, ?_⟩; have n0_ := Aside0.mk (Kd.R_elder' (by (with_reducible repeat (first | apply Kd.R_alloc | apply Kd.R_drewN | apply Kd.R_drew)); exact HO104.out) (Kd.R_base ho0) hb); have n1_ := Aside0.mk (Kd.R_below (by (with_reducible repeat (first | apply Kd.R_alloc | apply Kd.R_drewN | apply Kd.R_drew)); exact HO107.out) hb); have n2_ := Aside0.mk (Kd.R_elder' (by (with_reducible repeat (first | apply Kd.R_alloc | apply Kd.R_drewN | apply Kd.R_drew)); exact HO110.out) (Kd.R_base ho0) hb); have n3_ := Aside0.mk (Kd.R_below (by (with_reducible repeat (first | apply Kd.R_alloc | apply Kd.R_drewN | apply Kd.R_drew)); exact HO113.out) hb); have n4_ := Aside0.mk (Kd.R_lower (Kd.R_new' (Kd.R_new' ho0 (Kd.R_lt (by (with_reducible repeat (first | apply Kd.R_alloc | apply Kd.R_drewN | apply Kd.R_drew)); exact HO104.out))) (Kd.R_lt (by (with_reducible repeat (first | apply Kd.R_alloc | apply Kd.R_drewN | apply Kd.R_drew)); exact HO110.out))) (below_size (by repeat (first | (with_reducible first | exact HB.out | apply below_alloc | apply pw_below_drewN | apply below_drew1) | exact HB.out)))); have n5_ := Aside0.mk (below_step (by repeat (first | (with_reducible first | exact HB.out | apply below_alloc | apply pw_below_drewN | apply below_drew1) | exact HB.out)) hb); clear HO104; clear HO107; clear HO110; clear HO113; clear HB; have HO104 := n0_; have HO107 := n1_; have HO110 := n2_; have HO113 := n3_; have HO117 := n4_; have HB := n5_; clear n0_ n1_ n2_ n3_ n4_ n5_; (try clear hb); (try clear hb2); (try clear hk); (try clear hi); (try clear ho0); obtain ⟨Ao24, co24, eo24⟩ := Kd.R_slice HO117.out; subst eo24) | ((with_reducible refine gate_callee (f := 20) rfl ?_); refine goesL_ (some 30) rfl rfl Try.func20 (by kernel_rfl) rfl #[.slice Ao19 t108.length co19, .slice Ao24 t115.length co24] rfl (by (try simp only [List.map_toArray, List.map_cons, List.map_nil]); first | done | rfl | (simp only [List.length_drop, List.length_take]; rfl)) ?_; (with_reducible refine (laws_eqPointS.calls k _ _ t108 _ _ t115 true _ ?side1 ?side2 ?side3 ?side4 A11.out).mono ?_); (case side1 => repeat (first | exact (Kd.R_reads' HO110.out).2.2 | (with_reducible refine Kd.C_alloc ?_ _) | (with_reducible refine Kd.C_drewN ?_ _) | (with_reducible refine Kd.C_drew ?_))); (case side2 => exact (Kd.R_reads' HO110.out).2.1); (case side3 => repeat (first | exact (Kd.R_reads' HO117.out).2.2 | (with_reducible refine Kd.C_alloc ?_ _) | (with_reducible refine Kd.C_drewN ?_ _) | (with_reducible refine Kd.C_drew ?_))); (case side4 => exact (Kd.R_reads' HO117.out).2.1); rintro e w25 ⟨rfl, hb⟩; refine ⟨_, rfl, ?_⟩; have n0_ := Aside0.mk (Kd.R_below (by (with_reducible repeat (first | apply Kd.R_alloc | apply Kd.R_drewN | apply Kd.R_drew)); exact HO104.out) hb); have n1_ := Aside0.mk (Kd.R_below (by (with_reducible repeat (first | apply Kd.R_alloc | apply Kd.R_drewN | apply Kd.R_drew)); exact HO107.out) hb); have n2_ := Aside0.mk (Kd.R_below (by (with_reducible repeat (first | apply Kd.R_alloc | apply Kd.R_drewN | apply Kd.R_drew)); exact HO110.out) hb); have n3_ := Aside0.mk (Kd.R_below (by (with_reducible repeat (first | apply Kd.R_alloc | apply Kd.R_drewN | apply Kd.R_drew)); exact HO113.out) hb); have n4_ := Aside0.mk (Kd.R_below (by (with_reducible repeat (first | apply Kd.R_alloc | apply Kd.R_drewN | apply Kd.R_drew)); exact HO117.out) hb); have n5_ := Aside0.mk (below_step (by repeat (first | (with_reducible first | exact HB.out | apply below_alloc | apply pw_below_drewN | apply below_drew1) | exact HB.out)) hb); clear HO104; clear HO107; clear HO110; clear HO113; clear HO117; clear HB; have HO104 := n0_; have HO107 := n1_; have HO110 := n2_; have HO113 := n3_; have HO117 := n4_; have HB := n5_; clear n0_ n1_ n2_ n3_ n4_ n5_; (try clear hb); (try clear hb2); (try clear hk); (try clear hi)) | ((with_reducible refine gate_callee (f := 26) rfl ?_); refine goesL_ (some 34) rfl rfl Try.func26 (by kernel_rfl) rfl #[.slice Ao19 t108.length co19, .int .i64 1] rfl (by (try simp only [List.map_toArray, List.map_cons, List.map_nil]); first | done | rfl | (simp only [List.length_drop, List.length_take]; rfl)) ?_; (with_reducible refine (laws_markPointS.calls k (fun k_ => some k_ = (.slice Ao19 t108.length co19 : Value).ownBlock) (.slice Ao19 t108.length co19) t108 1 t119 t120 w _ ?side1 ?side2 A13.out).mono ?_); (case side1 => repeat (first | (with_reducible first | exact HB.out | apply below_alloc | apply pw_below_drewN | apply below_drew1) | exact HB.out)); (case side2 => exact Kd.R_tight rfl HO110.out); rintro e w26 ⟨rfl, hy0, hb, hkp⟩; refine ⟨_, rfl, ?_⟩; have n0_ := Aside0.mk (Kd.R_mono (ok' := fun k_ => some k_ ≠ (.slice Ao19 t108.length co19 : Value).ownBlock ∧ some k_ ≠ (.slice Ao24 t115.length co24 : Value).ownBlock) (Kd.R_keptB (HO104.out) hkp (fun k_ hk_ hs_ => (hk_.1.2) hs_)) (fun k_ hk_ => ⟨hk_.1.1.2, hk_.1.2⟩)); have n1_ := Aside0.mk (Kd.R_mono (ok' := fun k_ => some k_ ≠ (.slice Ao21 t111.length co21 : Value).ownBlock) (Kd.R_keptB ((Kd.R_apart' HO107.out (Kd.R_typed HO110.out) (by decide))) hkp (fun k_ hk_ hs_ => (hk_.2) hs_)) (fun k_ hk_ => hk_.1.1.2)); have n2_ := Aside0.mk (Kd.R_reok rfl hy0 (fun k_ e_ => HO110.out.1 k_ e_)); have n3_ := Aside0.mk (Kd.R_mono (ok' := fun k_ => some k_ ≠ (.slice Ao22 t105.length co22 : Value).ownBlock) (Kd.R_keptB ((Kd.R_apart' HO113.out (Kd.R_typed HO110.out) (by decide))) hkp (fun k_ hk_ hs_ => (hk_.2) hs_)) (fun k_ hk_ => hk_.1.1.2)); have n4_ := Aside0.mk (Kd.R_mono (ok' := fun k_ => some k_ ≠ (.slice Ao16 t102.length co16 : Value).ownBlock ∧ some k_ ≠ (.slice Ao19 t108.length co19 : Value).ownBlock) (Kd.R_keptB (HO117.out) hkp (fun k_ hk_ hs_ => (hk_.2) hs_)) (fun k_ hk_ => ⟨hk_.1.1.2, hk_.1.2⟩)); have n5_ := Aside0.mk (hb); clear HO104; clear HO107; clear HO110; clear HO113; clear HO117; clear HB; have HO104 := n0_; have HO107 := n1_; have HO110 := n2_; have HO113 := n3_; have HO117 := n4_; have HB := n5_; clear n0_ n1_ n2_ n3_ n4_ n5_; (try clear hb); (try clear hkp); (try clear hy0)))
    (try simp only [Act.put, List.setIfInBounds_toArray, List.set_cons_zero, List.set_cons_succ])
    go_cut [42] (fun v42 wc => ∃ (kq : Nat) (x42_13 : Bool), v42 = .bool x42_13 ∧ Aside0 (laws_FnExactSmallestTriangle.j0 kq l0 t105 t111 x42_13 = some true) ∧ Aside0 (kq ≤ k) ∧ Aside0 (Kd.R (Kd.int .i64) 3 wc w.heap.size (fun k_ => some k_ ≠ ((.slice Ao21 t111.length co21) : Value).ownBlock) (.slice Ao22 t105.length co22) t105) ∧ Aside0 (Kd.R (Kd.int .i64) 3 wc w.heap.size (fun k_ => some k_ ≠ ((.slice Ao22 t105.length co22) : Value).ownBlock) (.slice Ao21 t111.length co21) t111) ∧ Aside0 (Below w.heap.size w wc))
    case first =>
     have H := HC14.out
     clear HC14
     by_cases c27 : t119 < 0
     ·rw [if_pos c27] at H
      have c27b0 : decide (t119 < 0) = true := decide_eq_true c27
      clear c27
      (first | rw [c27b0] | (simp only [i64_w, i32_w]; rw [c27b0]) | skip)
      have H' := Aside0.mk H
      clear H
      go_wp2
      go_meet
      case rel => exact ⟨_, (true), (by first | rfl | (simp; done) | (simp [*]; done)), H', ⟨by first | omega | exact Nat.le_refl _⟩, ⟨by (with_reducible repeat (first | apply Kd.R_alloc | apply Kd.R_drewN | apply Kd.R_drew)); exact HO107.out⟩, ⟨by (with_reducible repeat (first | apply Kd.R_alloc | apply Kd.R_drewN | apply Kd.R_drew)); exact HO113.out⟩, ⟨by repeat (first | (with_reducible first | exact HB.out | apply below_alloc | apply pw_below_drewN | apply below_drew1) | exact HB.out)⟩⟩
     ·rw [if_neg c27] at H
      have c27b0 : decide (t119 < 0) = false := decide_eq_false c27
      clear c27
      (first | rw [c27b0] | (simp only [i64_w, i32_w]; rw [c27b0]) | skip)
      replace H := Option.bind_eq_some_iff.mp H
      obtain ⟨t121, A280, H⟩ := H
      replace H : (laws_FnExactSmallestTriangle.j0 k l0 t105 t111 (!t121)) = some true := H
      have A28 := Aside0.mk A280
      clear A280
      have H' := Aside0.mk H
      clear H
      go_wp2_with (first | (go_at_call 25; (with_reducible refine (laws_eqIntS.calls k _ _ t111 _ _ t105 t121 _ ?side1 ?side2 ?side3 ?side4 A28.out).mono ?_); (case side1 => repeat (first | exact (Kd.R_reads' HO113.out).2.2 | (with_reducible refine Kd.C_alloc ?_ _) | (with_reducible refine Kd.C_drewN ?_ _) | (with_reducible refine Kd.C_drew ?_))); (case side2 => exact (Kd.R_reads' HO113.out).2.1); (case side3 => repeat (first | exact (Kd.R_reads' HO107.out).2.2 | (with_reducible refine Kd.C_alloc ?_ _) | (with_reducible refine Kd.C_drewN ?_ _) | (with_reducible refine Kd.C_drew ?_))); (case side4 => exact (Kd.R_reads' HO107.out).2.1); rintro e w' ⟨rfl, ⟨nd, rfl⟩⟩))
      go_meet
      case rel => exact ⟨_, (!t121), (by first | rfl | (simp; done) | (simp [*]; done)), H', ⟨by first | omega | exact Nat.le_refl _⟩, ⟨by (with_reducible repeat (first | apply Kd.R_alloc | apply Kd.R_drewN | apply Kd.R_drew)); exact HO107.out⟩, ⟨by (with_reducible repeat (first | apply Kd.R_alloc | apply Kd.R_drewN | apply Kd.R_drew)); exact HO113.out⟩, ⟨by repeat (first | (with_reducible first | exact HB.out | apply below_alloc | apply pw_below_drewN | apply below_drew1) | exact HB.out)⟩⟩
    case rest =>
     clear HC14
     try clear c1
     try clear c2
     try clear p2
     try clear c3
     try clear c3b0
     try clear c5
     try clear c9
     try clear c12
     try clear c15
     try clear c17
     try clear c20
     try clear c23
     try clear c24
     try clear c25
     try clear c26
     try clear c27
     try clear c27b0
     obtain ⟨kq, x42_13, rfl, HA, HJ13, HO_4, HO_6, HB⟩ := hcut
     cases kq with
     | zero => exact absurd HA.out (by simp [laws_FnExactSmallestTriangle.j0])
     | succ kj13 =>
      have H := HA.out
      clear HA
      simp only [laws_FnExactSmallestTriangle.j0] at H
      by_cases c29 : x42_13 = true
      ·subst c29
       have H1 : (some false) = some true := by rw [if_pos rfl] at H; exact H
       clear H
       have H := H1
       clear H1
       exact absurd H (by simp)
      ·replace c29 := Bool.eq_false_iff.mpr c29
       subst c29
       have H1 : ((laws_markIntS.f kj13 t111 1).bind fun bt122 => ((laws_heldIntS.f kj13 bt122.2 1).bind fun t124 => (if t124 < 0 then (some false) else (if t124 = bt122.1 then ((laws_toPointS.f kj13 l0).bind fun t125 => ((impl_SmallestTriangle.f kj13 t125).bind fun t128 => ((laws_eqIntS.f kj13 t128 t105).bind fun t131 => (if t131 = true then ((laws_heldIntS.f kj13 bt122.2 1).bind fun t132 => (if t132 < 0 then (some false) else (if t132 = bt122.1 then (some true) else (some false)))) else (some false))))) else (some false))))) = some true := by rw [if_neg (show ¬ (false = true) by decide)] at H; exact H
       clear H
       have H := H1
       clear H1
       replace H := Option.bind_eq_some_iff.mp H
       obtain ⟨⟨t122, t123⟩, A300, H⟩ := H
       replace H : ((laws_heldIntS.f kj13 t123 1).bind fun t124 => (if t124 < 0 then (some false) else (if t124 = t122 then ((laws_toPointS.f kj13 l0).bind fun t125 => ((impl_SmallestTriangle.f kj13 t125).bind fun t128 => ((laws_eqIntS.f kj13 t128 t105).bind fun t131 => (if t131 = true then ((laws_heldIntS.f kj13 t123 1).bind fun t132 => (if t132 < 0 then (some false) else (if t132 = t122 then (some true) else (some false)))) else (some false))))) else (some false)))) = some true := H
       have A30 := Aside0.mk A300
       clear A300
       replace H := Option.bind_eq_some_iff.mp H
       obtain ⟨t124, A310, H⟩ := H
       replace H : (if t124 < 0 then (some false) else (if t124 = t122 then ((laws_toPointS.f kj13 l0).bind fun t125 => ((impl_SmallestTriangle.f kj13 t125).bind fun t128 => ((laws_eqIntS.f kj13 t128 t105).bind fun t131 => (if t131 = true then ((laws_heldIntS.f kj13 t123 1).bind fun t132 => (if t132 < 0 then (some false) else (if t132 = t122 then (some true) else (some false)))) else (some false))))) else (some false))) = some true := H
       have A31 := Aside0.mk A310
       clear A310
       by_cases c32 : t124 < 0
       ·rw [if_pos c32] at H
        have c32b0 : decide (t124 < 0) = true := decide_eq_true c32
        clear c32
        exact absurd H (by simp)
       ·rw [if_neg c32] at H
        have c32b0 : decide (t124 < 0) = false := decide_eq_false c32
        clear c32
        by_cases c34 : t124 = t122
        ·rw [if_pos c34] at H
         have c34b0 : (t124 == t122) = true := beq_iff_eq.mpr c34
         have c34b1 : (t124 != t122) = false := bne_eq_false_iff_eq.mpr c34
         clear c34
         replace H := Option.bind_eq_some_iff.mp H
         obtain ⟨t125, A350, H⟩ := H
         replace H : ((impl_SmallestTriangle.f kj13 t125).bind fun t128 => ((laws_eqIntS.f kj13 t128 t105).bind fun t131 => (if t131 = true then ((laws_heldIntS.f kj13 t123 1).bind fun t132 => (if t132 < 0 then (some false) else (if t132 = t122 then (some true) else (some false)))) else (some false)))) = some true := H
         have A35 := Aside0.mk A350
         clear A350
         replace H := Option.bind_eq_some_iff.mp H
         obtain ⟨t128, A360, H⟩ := H
         replace H : ((laws_eqIntS.f kj13 t128 t105).bind fun t131 => (if t131 = true then ((laws_heldIntS.f kj13 t123 1).bind fun t132 => (if t132 < 0 then (some false) else (if t132 = t122 then (some true) else (some false)))) else (some false))) = some true := H
         have A36 := Aside0.mk A360
         clear A360
         replace H := Option.bind_eq_some_iff.mp H
         obtain ⟨t131, A370, H⟩ := H
         replace H : (if t131 = true then ((laws_heldIntS.f kj13 t123 1).bind fun t132 => (if t132 < 0 then (some false) else (if t132 = t122 then (some true) else (some false)))) else (some false)) = some true := H
         have A37 := Aside0.mk A370
         clear A370
         by_cases c38 : t131 = true
         ·subst c38
          have H1 : ((laws_heldIntS.f kj13 t123 1).bind fun t132 => (if t132 < 0 then (some false) else (if t132 = t122 then (some true) else (some false)))) = some true := by rw [if_pos rfl] at H; exact H
          clear H
          have H := H1
          clear H1
          replace H := Option.bind_eq_some_iff.mp H
          obtain ⟨t132, A390, H⟩ := H
          replace H : (if t132 < 0 then (some false) else (if t132 = t122 then (some true) else (some false))) = some true := H
          have A39 := Aside0.mk A390
          clear A390
          by_cases c40 : t132 < 0
          ·rw [if_pos c40] at H
           have c40b0 : decide (t132 < 0) = true := decide_eq_true c40
           clear c40
           exact absurd H (by simp)
          ·rw [if_neg c40] at H
           have c40b0 : decide (t132 < 0) = false := decide_eq_false c40
           clear c40
           by_cases c46 : t132 = t122
           ·rw [if_pos c46] at H
            have c46b0 : (t132 == t122) = true := beq_iff_eq.mpr c46
            have c46b1 : (t132 != t122) = false := bne_eq_false_iff_eq.mpr c46
            clear c46
            clear H
            go_wp2_with (first | ((with_reducible refine gate_callee (f := 27) rfl ?_); refine goesL_ (some 45) rfl rfl Try.func27 (by kernel_rfl) rfl #[.slice Ao21 t111.length co21, .int .i64 1] rfl (by (try simp only [List.map_toArray, List.map_cons, List.map_nil]); first | done | rfl | (simp only [List.length_drop, List.length_take]; rfl)) ?_; (with_reducible refine (laws_markIntS.calls kj13 (fun k_ => some k_ = (.slice Ao21 t111.length co21 : Value).ownBlock) (.slice Ao21 t111.length co21) t111 1 t122 t123 w _ ?side1 ?side2 A30.out).mono ?_); (case side1 => repeat (first | (with_reducible first | exact HB.out | apply below_alloc | apply pw_below_drewN | apply below_drew1) | exact HB.out)); (case side2 => exact Kd.R_tight rfl HO_6.out); rintro e w47 ⟨rfl, hy0, hb, hkp⟩; refine ⟨_, rfl, ?_⟩; have n0_ := Aside0.mk (Kd.R_mono (ok' := fun k_ => some k_ ≠ (.slice Ao21 t111.length co21 : Value).ownBlock) (Kd.R_keptB (HO_4.out) hkp (fun k_ hk_ hs_ => (hk_) hs_)) (fun k_ hk_ => hk_.1)); have n1_ := Aside0.mk (Kd.R_reok rfl hy0 (fun k_ e_ => HO_6.out.1 k_ e_)); have n2_ := Aside0.mk (hb); clear HO_4; clear HO_6; clear HB; have HO_4 := n0_; have HO_6 := n1_; have HB := n2_; clear n0_ n1_ n2_; (try clear hb); (try clear hkp); (try clear hy0)) | ((with_reducible refine gate_callee (f := 28) rfl ?_); refine goesL_ (some 48) rfl rfl Try.func28 (by kernel_rfl) rfl #[.slice Ao21 t123.length co21, .int .i64 1] rfl (by (try simp only [List.map_toArray, List.map_cons, List.map_nil]); first | done | (rw [show t123.length = t111.length from (Kd.R_reads' HO_6.out).1.symm] <;> rfl) | rfl | (simp only [List.length_drop, List.length_take]; rfl)) ?_; (with_reducible refine (laws_heldIntS.calls kj13 _ _ t123 1 t124 _ ?side1 ?side2 A31.out).mono ?_); (case side1 => repeat (first | exact (Kd.R_reads' HO_6.out).2.2 | (with_reducible refine Kd.C_alloc ?_ _) | (with_reducible refine Kd.C_drewN ?_ _) | (with_reducible refine Kd.C_drew ?_))); (case side2 => rw [show t123.length = t111.length from (Kd.R_reads' HO_6.out).1.symm]; exact (Kd.R_reads' HO_6.out).2.1); rintro e w' ⟨rfl, ⟨nd, rfl⟩⟩; refine ⟨_, rfl, ?_⟩) | ((with_reducible refine gate_callee (f := 17) rfl ?_); refine goesL_ (some 55) rfl rfl Try.func17 (by kernel_rfl) rfl #[.slice A0 l0.length c0] rfl (by (try simp only [List.map_toArray, List.map_cons, List.map_nil]); first | done | rfl | (simp only [List.length_drop, List.length_take]; rfl)) ?_; (with_reducible refine (laws_toPointS.calls kj13 _ _ l0 t125 _ ?side1 ?side2 A35.out).mono ?_); (case side1 => repeat (first | exact (Kd.C_below HR0.out (by repeat (first | (with_reducible first | exact HB.out | apply below_alloc | apply pw_below_drewN | apply below_drew1) | exact HB.out))) | (with_reducible refine Kd.C_alloc ?_ _) | (with_reducible refine Kd.C_drewN ?_ _) | (with_reducible refine Kd.C_drew ?_))); (case side2 => exact HC0.out); rintro e w48 ⟨v126, rfl, ho0, hb⟩; refine ⟨_, rfl, ?_⟩; have n0_ := Aside0.mk (Kd.R_below (by (with_reducible repeat (first | apply Kd.R_alloc | apply Kd.R_drewN | apply Kd.R_drew)); exact HO_4.out) hb); have n1_ := Aside0.mk (Kd.R_below (by (with_reducible repeat (first | apply Kd.R_alloc | apply Kd.R_drewN | apply Kd.R_drew)); exact HO_6.out) hb); have n2_ := Aside0.mk (Kd.R_lower ho0 (below_size (by repeat (first | (with_reducible first | exact HB.out | apply below_alloc | apply pw_below_drewN | apply below_drew1) | exact HB.out)))); have n3_ := Aside0.mk (below_step (by repeat (first | (with_reducible first | exact HB.out | apply below_alloc | apply pw_below_drewN | apply below_drew1) | exact HB.out)) hb); clear HO_4; clear HO_6; clear HB; have HO_4 := n0_; have HO_6 := n1_; have HO127 := n2_; have HB := n3_; clear n0_ n1_ n2_ n3_; (try clear hb); (try clear hb2); (try clear hk); (try clear hi); (try clear ho0); obtain ⟨Ao49, co49, eo49⟩ := Kd.R_slice HO127.out; subst eo49) | ((with_reducible refine gate_callee (f := 24) rfl ?_); refine goesL_ (some 56) rfl rfl Try.func24 (by kernel_rfl) rfl #[.slice Ao49 t125.length co49] rfl (by (try simp only [List.map_toArray, List.map_cons, List.map_nil]); first | done | rfl | (simp only [List.length_drop, List.length_take]; rfl)) ?_; (with_reducible refine (impl_SmallestTriangle.calls kj13 _ _ t125 t128 _ ?side1 ?side2 A36.out).mono ?_); (case side1 => repeat (first | exact (Kd.R_reads' HO127.out).2.2 | (with_reducible refine Kd.C_alloc ?_ _) | (with_reducible refine Kd.C_drewN ?_ _) | (with_reducible refine Kd.C_drew ?_))); (case side2 => exact (Kd.R_reads' HO127.out).2.1); rintro e w50 ⟨v129, rfl, ho0, hb⟩; refine ⟨_, rfl, ?_⟩; have n0_ := Aside0.mk (Kd.R_elder' (by (with_reducible repeat (first | apply Kd.R_alloc | apply Kd.R_drewN | apply Kd.R_drew)); exact HO_4.out) (Kd.R_base ho0) hb); have n1_ := Aside0.mk (Kd.R_elder' (by (with_reducible repeat (first | apply Kd.R_alloc | apply Kd.R_drewN | apply Kd.R_drew)); exact HO_6.out) (Kd.R_base ho0) hb); have n2_ := Aside0.mk (Kd.R_below (by (with_reducible repeat (first | apply Kd.R_alloc | apply Kd.R_drewN | apply Kd.R_drew)); exact HO127.out) hb); have n3_ := Aside0.mk (Kd.R_lower (Kd.R_new' (Kd.R_new' ho0 (Kd.R_lt (by (with_reducible repeat (first | apply Kd.R_alloc | apply Kd.R_drewN | apply Kd.R_drew)); exact HO_4.out))) (Kd.R_lt (by (with_reducible repeat (first | apply Kd.R_alloc | apply Kd.R_drewN | apply Kd.R_drew)); exact HO_6.out))) (below_size (by repeat (first | (with_reducible first | exact HB.out | apply below_alloc | apply pw_below_drewN | apply below_drew1) | exact HB.out)))); have n4_ := Aside0.mk (below_step (by repeat (first | (with_reducible first | exact HB.out | apply below_alloc | apply pw_below_drewN | apply below_drew1) | exact HB.out)) hb); clear HO_4; clear HO_6; clear HO127; clear HB; have HO_4 := n0_; have HO_6 := n1_; have HO127 := n2_; have HO130 := n3_; have HB := n4_; clear n0_ n1_ n2_ n3_ n4_; (try clear hb); (try clear hb2); (try clear hk); (try clear hi); (try clear ho0); obtain ⟨Ao51, co51, eo51⟩ := Kd.R_slice HO130.out; subst eo51) | ((with_reducible refine gate_callee (f := 25) rfl ?_); refine goesL_ (some 59) rfl rfl Try.func25 (by kernel_rfl) rfl #[.slice Ao51 t128.length co51, .slice Ao22 t105.length co22] rfl (by (try simp only [List.map_toArray, List.map_cons, List.map_nil]); first | done | rfl | (simp only [List.length_drop, List.length_take]; rfl)) ?_; (with_reducible refine (laws_eqIntS.calls kj13 _ _ t128 _ _ t105 true _ ?side1 ?side2 ?side3 ?side4 A37.out).mono ?_); (case side1 => repeat (first | exact (Kd.R_reads' HO130.out).2.2 | (with_reducible refine Kd.C_alloc ?_ _) | (with_reducible refine Kd.C_drewN ?_ _) | (with_reducible refine Kd.C_drew ?_))); (case side2 => exact (Kd.R_reads' HO130.out).2.1); (case side3 => repeat (first | exact (Kd.R_reads' HO_4.out).2.2 | (with_reducible refine Kd.C_alloc ?_ _) | (with_reducible refine Kd.C_drewN ?_ _) | (with_reducible refine Kd.C_drew ?_))); (case side4 => exact (Kd.R_reads' HO_4.out).2.1); rintro e w' ⟨rfl, ⟨nd, rfl⟩⟩; refine ⟨_, rfl, ?_⟩) | ((with_reducible refine gate_callee (f := 28) rfl ?_); refine goesL_ (some 63) rfl rfl Try.func28 (by kernel_rfl) rfl #[.slice Ao21 t123.length co21, .int .i64 1] rfl (by (try simp only [List.map_toArray, List.map_cons, List.map_nil]); first | done | (rw [show t123.length = t111.length from (Kd.R_reads' HO_6.out).1.symm] <;> rfl) | rfl | (simp only [List.length_drop, List.length_take]; rfl)) ?_; (with_reducible refine (laws_heldIntS.calls kj13 _ _ t123 1 t132 _ ?side1 ?side2 A39.out).mono ?_); (case side1 => repeat (first | exact (Kd.R_reads' HO_6.out).2.2 | (with_reducible refine Kd.C_alloc ?_ _) | (with_reducible refine Kd.C_drewN ?_ _) | (with_reducible refine Kd.C_drew ?_))); (case side2 => rw [show t123.length = t111.length from (Kd.R_reads' HO_6.out).1.symm]; exact (Kd.R_reads' HO_6.out).2.1); rintro e w' ⟨rfl, ⟨nd, rfl⟩⟩; refine ⟨_, rfl, ?_⟩))
            go_ret
            exact ⟨by first | rfl | (simp [errW_none, errW_some] <;> rfl) | (simp [*, errW_none, errW_some] <;> rfl), by repeat (first | (with_reducible first | exact HB.out | apply below_alloc | apply pw_below_drewN | apply below_drew1) | exact HB.out)⟩
           ·rw [if_neg c46] at H
            have c46b0 : (t132 == t122) = false := beq_eq_false_iff_ne.mpr c46
            have c46b1 : (t132 != t122) = true := bne_iff_ne.mpr c46
            exact absurd H (by simp)
         ·replace c38 := Bool.eq_false_iff.mpr c38
          subst c38
          have H1 : (some false) = some true := by rw [if_neg (show ¬ (false = true) by decide)] at H; exact H
          clear H
          have H := H1
          clear H1
          exact absurd H (by simp)
        ·rw [if_neg c34] at H
         have c34b0 : (t124 == t122) = false := beq_eq_false_iff_ne.mpr c34
         have c34b1 : (t124 != t122) = true := bne_iff_ne.mpr c34
         exact absurd H (by simp)
   ·replace c12 := Bool.eq_false_iff.mpr c12
    subst c12
    have H1 : (some false) = some true := by rw [if_neg (show ¬ (false = true) by decide)] at H; exact H
    clear H
    have H := H1
    clear H1
    exact absurd H (by simp)
  ·replace c9 := Bool.eq_false_iff.mpr c9
   subst c9
   have H1 : (some false) = some true := by rw [if_neg (show ¬ (false = true) by decide)] at H; exact H
   clear H
   have H := H1
   clear H1
   exact absurd H (by simp)
/-- THE ONE PURE STATEMENT of laws_FnExactSmallestTriangle. -/
def laws_FnExactSmallestTriangle.Pure : Prop := ∀ (x0 : List (S56)), (x0.length ≤ maxLen ∧ ∀ y0 ∈ x0, ((Lit.int .i64 y0.f0).wf = true ∧ (Lit.int .i64 y0.f1).wf = true)) → ∃ k, laws_FnExactSmallestTriangle.f k x0 = some true

end Go.Proofs.Ytijgjpfbhbggdaa.P

namespace Go.Proofs.Ytijgjpfbhbggdaa.Com
open Go.RowKit Go.Proofs.YtijgjpfbhbggdaaW.PrintWords
set_option linter.unusedSimpArgs false
set_option linter.unusedVariables false

theorem w64 {x : Int} (h0 : -9223372036854775808 ≤ x) (h1 : x ≤ 9223372036854775807) : wrap64 x = x := by unfold wrap64; omega
theorem set_take_succ {α : Type} (l : List α) (n : Nat) (v : α) (h : n < l.length) : (l.set n v).take (n + 1) = l.take n ++ [v] := by
  rw [List.take_succ_eq_append_getElem (by simpa using h), List.take_set_of_le (Nat.le_refl n)]; simp
theorem drop_cons {α : Type} (l : List α) (n : Nat) (d : α) (h : n < l.length) : l.drop n = l.getD n d :: l.drop (n + 1) := by
  rw [List.drop_eq_getElem_cons h]; simp [List.getD, List.getElem?_eq_getElem h]
theorem getD_set {α : Type} (l : List α) (n : Nat) (d v : α) (h : n < l.length) : (l.set n v).getD n d = v := by
  simp [List.getD, List.getElem?_set, h]
theorem getD_mem {α : Type} (l : List α) (n : Nat) (d : α) (h : n < l.length) : l.getD n d ∈ l := by
  simp [List.getD, List.getElem?_eq_getElem h]
theorem getD_map {α β : Type} (f : α → β) (l : List α) (n : Nat) (d : α) (e : β) (h : n < l.length) : (l.map f).getD n e = f (l.getD n d) := by
  simp [List.getD, h]
theorem succ_of_lt {d k : Nat} (h : d < k) : ∃ m, k = m + 1 ∧ d ≤ m := ⟨k - 1, by omega, by omega⟩
theorem Ev.iteT {α : Type} {c : Prop} [Decidable c] {g f : Nat → Option α} {r : α} (hc : c) (h : Ev g r) : Ev (fun k => if c then g k else f k) r := by simpa only [if_pos hc] using h
theorem Ev.iteF {α : Type} {c : Prop} [Decidable c] {g f : Nat → Option α} {r : α} (hc : ¬ c) (h : Ev f r) : Ev (fun k => if c then g k else f k) r := by simpa only [if_neg hc] using h
theorem Ev.const {α : Type} {o : Option α} {r : α} (h : o = some r) : Ev (fun _ => o) r := ⟨0, fun _ _ => h⟩
/-- Rounds enough, told by a bound. -/
theorem Ev.from {α : Type} {g : Nat → Option α} {r : α} (K : Nat) (h : ∀ k, K ≤ k → g k = some r) : Ev g r := ⟨K, h⟩
theorem Ev.bind0 {α β : Type} {o : Option α} {f : Nat → α → Option β} {a : α} {r : β} (h : o = some a) (k : Ev (fun n => f n a) r) : Ev (fun n => o.bind (f n)) r := Ev.bind ⟨0, fun _ _ => h⟩ k
end Go.Proofs.Ytijgjpfbhbggdaa.Com

namespace Go.Proofs.Ytijgjpfbhbggdaa.Pure
open Go.RowKit Go.Proofs.Ytijgjpfbhbggdaa.P Go.Proofs.YtijgjpfbhbggdaaW.PrintWords Go.Proofs.YtijgjpfbhbggdaaW.PrintLast
set_option linter.unusedSimpArgs false
set_option linter.unusedVariables false
open Go.Proofs.Ytijgjpfbhbggdaa.Com
def convPoint (x : S56) : S25 := ⟨x.f0, x.f1⟩
theorem toPointS_l0 (l : List S56) (hm : l.length ≤ 1099511627776) (d : Nat) : ∀ (k : Nat) (i : Int) (out : List S25), 0 ≤ i → i + d = l.length → out.length = l.length → d < k →
    laws_toPointS.l0 k l out i = some (out.take i.toNat ++ (l.drop i.toNat).map convPoint) := by
  induction d with
  | zero =>
    intro k i out h0 hi ho hk
    obtain ⟨k, rfl, _⟩ := succ_of_lt hk
    simp only [laws_toPointS.l0]
    rw [if_neg (by omega), List.take_of_length_le (by omega), List.drop_of_length_le (by omega)]; simp
  | succ d ih =>
    intro k i out h0 hi ho hk
    obtain ⟨k, rfl, hk⟩ := succ_of_lt hk
    have hlt : i.toNat < out.length := by omega
    simp only [laws_toPointS.l0]
    rw [if_pos (by omega), if_pos h0]
    simp only [laws_toPoint.f, Option.bind_some]
    rw [if_pos (by omega), w64 (by omega) (by omega), ih k (i + 1) _ (by omega) (by omega) (by simpa using ho) (by omega)]
    rw [show (i + 1).toNat = i.toNat + 1 from by omega, set_take_succ _ _ _ hlt, drop_cons l i.toNat z56 (by omega)]
    simp [convPoint, rd_T56]
theorem toPointS_eq (l : List S56) (hm : l.length ≤ 1048576) : Ev (fun k => laws_toPointS.f k l) (l.map convPoint) := by
  refine ⟨l.length + 1, fun k hk => ?_⟩
  dsimp only
  unfold laws_toPointS.f
  rw [if_pos (by omega), if_pos (by omega), toPointS_l0 l (by omega) l.length k 0 _ (by omega) (by omega) (by simp) (by omega)]
  simp
theorem eqPointS_l0 (a : List S25) (hm : a.length ≤ 1099511627776) (d : Nat) : ∀ (k : Nat) (i : Int), 0 ≤ i → i + d = a.length → d < k → laws_eqPointS.l0 k a a i = some true := by
  induction d with
  | zero =>
    intro k i h0 hi hk
    obtain ⟨k, rfl, _⟩ := succ_of_lt hk
    simp only [laws_eqPointS.l0]
    rw [if_neg (by omega)]
  | succ d ih =>
    intro k i h0 hi hk
    obtain ⟨k, rfl, hk⟩ := succ_of_lt hk
    simp only [laws_eqPointS.l0]
    rw [if_pos (by omega), if_pos h0, if_pos (by omega)]
    simp only [laws_eqPoint.f, if_true, Option.bind_some]
    rw [w64 (by omega) (by omega), ih k (i + 1) (by omega) (by omega) (by omega)]
theorem eqPointS_refl (a : List S25) (hm : a.length ≤ 1099511627776) : Ev (fun k => laws_eqPointS.f k a a) true := by
  refine ⟨a.length + 1, fun k hk => ?_⟩
  dsimp only
  unfold laws_eqPointS.f
  rw [if_pos rfl, eqPointS_l0 a hm a.length k 0 (by omega) (by omega) (by omega)]
end Go.Proofs.Ytijgjpfbhbggdaa.Pure

namespace Go.Proofs.Ytijgjpfbhbggdaa.Pure
open Go.RowKit Go.Proofs.Ytijgjpfbhbggdaa.P Go.Proofs.YtijgjpfbhbggdaaW.PrintWords Go.Proofs.YtijgjpfbhbggdaaW.PrintLast Go.Proofs.Ytijgjpfbhbggdaa.Com
set_option linter.unusedSimpArgs false
set_option linter.unusedVariables false

theorem szPointS_eq (l : List S56) (hm : l.length ≤ maxLen) : laws_szPointS.f l 1048576 = some (if l.length ≤ 1048576 then 1048576 - (l.length : Int) else -1) := by
  unfold maxLen at hm
  unfold laws_szPointS.f
  rw [w64 (by omega) (by omega)]
  by_cases h : l.length ≤ 1048576
  · rw [if_neg (by omega), if_pos h]
  · rw [if_pos (by omega), if_neg h]
end Go.Proofs.Ytijgjpfbhbggdaa.Pure

namespace Go.Proofs.Ytijgjpfbhbggdaa.Com
open Go.RowKit Go.Proofs.YtijgjpfbhbggdaaW.PrintWords
set_option linter.unusedSimpArgs false
set_option linter.unusedVariables false
variable {σ τ ρ υ : Type}
/-- A fold of rounds that hand on to what follows. -/
def foldT (T : σ → τ → (σ → ρ → Prop) → ρ → Prop) (C : σ → ρ → Prop) : List τ → σ → ρ → Prop
  | [], s, r => C s r
  | t :: L, s, r => T s t (foldT T C L) r
def MonoT (T : σ → τ → (σ → ρ → Prop) → ρ → Prop) : Prop := ∀ s t (C D : σ → ρ → Prop) r, (∀ s' r', C s' r' → D s' r') → T s t C r → T s t D r
theorem foldT_mono {T : σ → τ → (σ → ρ → Prop) → ρ → Prop} (hT : MonoT T) {C D : σ → ρ → Prop} (h : ∀ s r, C s r → D s r) (L : List τ) : ∀ s r, foldT T C L s r → foldT T D L s r := by
  induction L with
  | nil => exact h
  | cons t L ih => intro s r; exact hT s t _ _ r ih
/-- A round that goes on with a new state, or ends all with a result. -/
def stepT (step : σ → τ → σ ⊕ ρ) : σ → τ → (σ → ρ → Prop) → ρ → Prop := fun s t C r =>
  match step s t with
  | .inl s' => C s' r
  | .inr r' => r = r'
theorem stepT_mono (step : σ → τ → σ ⊕ ρ) : MonoT (stepT step) := by
  intro s t C D r h hT
  unfold stepT at *
  revert hT
  cases step s t with
  | inl s' => exact fun hT => h _ _ hT
  | inr r' => exact fun hT => hT
/-- A round that is a loop itself. -/
def nestT (T : τ → σ → υ → (σ → ρ → Prop) → ρ → Prop) (L : τ → List υ) : σ → τ → (σ → ρ → Prop) → ρ → Prop := fun s t C r => foldT (T t) C (L t) s r
theorem nestT_mono {T : τ → σ → υ → (σ → ρ → Prop) → ρ → Prop} (hT : ∀ t, MonoT (T t)) (L : τ → List υ) : MonoT (nestT T L) := fun s t C D r h hh => foldT_mono (hT t) h (L t) s r hh
theorem foldT_append (T : σ → τ → (σ → ρ → Prop) → ρ → Prop) (C : σ → ρ → Prop) (A B : List τ) : ∀ s r, foldT T C (A ++ B) s r ↔ foldT T (foldT T C B) A s r := by
  induction A with
  | nil => intro s r; rfl
  | cons t A ih =>
    intro s r
    have e : foldT T C (A ++ B) = foldT T (foldT T C B) A := by funext s r; exact propext (ih s r)
    show T s t (foldT T C (A ++ B)) r ↔ T s t (foldT T (foldT T C B) A) r
    rw [e]
theorem nest_flat (step : σ → υ → σ ⊕ ρ) (L : τ → List υ) (C : σ → ρ → Prop) (J : List τ) : foldT (nestT (fun _ => stepT step) L) C J = foldT (stepT step) C (J.flatMap L) := by
  induction J with
  | nil => rfl
  | cons t J ih =>
    funext s r
    rw [List.flatMap_cons]
    apply propext
    rw [foldT_append]
    show foldT (stepT step) (foldT (nestT (fun _ => stepT step) L) C J) (L t) s r ↔ _
    rw [ih]
def foldX (step : σ → τ → σ ⊕ ρ) (fin : σ → ρ) : List τ → σ → ρ
  | [], s => fin s
  | t :: L, s => match step s t with
    | .inl s' => foldX step fin L s'
    | .inr r => r
theorem foldX_T (step : σ → τ → σ ⊕ ρ) (fin : σ → ρ) {C : σ → ρ → Prop} (hC : ∀ s, C s (fin s)) (L : List τ) : ∀ s, foldT (stepT step) C L s (foldX step fin L s) := by
  induction L with
  | nil => exact hC
  | cons t L ih =>
    intro s
    show stepT step s t _ _
    unfold stepT foldX
    cases h : step s t with
    | inl s' => exact ih s'
    | inr r => rfl
/-- The whole numbers from a on, d of them. -/
def ints (a : Int) : Nat → List Int
  | 0 => []
  | d + 1 => a :: ints (a + 1) d
theorem ints_mem {a x : Int} {d : Nat} (h : x ∈ ints a d) : a ≤ x ∧ x < a + d := by
  induction d generalizing a with
  | zero => simp [ints] at h
  | succ d ih =>
    rcases List.mem_cons.1 h with rfl | h
    · omega
    · have := ih h; omega
/-- A loop that counts from a up to n. -/
theorem rangeLoop {l : Nat → σ → Int → Option ρ} (n : Int) {T : σ → Int → (σ → ρ → Prop) → ρ → Prop} (hT : MonoT T) {C : σ → ρ → Prop} (a0 : Int)
    (hs : ∀ s i, a0 ≤ i → i < n → ∀ r, T s i (fun s' r' => Ev (fun k => l k s' (i + 1)) r') r → Ev (fun k => l k s i) r)
    (he : ∀ s r, C s r → Ev (fun k => l k s n) r) (d : Nat) : ∀ (a : Int), a0 ≤ a → a + d = n → ∀ s r, foldT T C (ints a d) s r → Ev (fun k => l k s a) r := by
  induction d with
  | zero =>
    intro a h0 ha s r h
    obtain rfl : a = n := by omega
    exact he s r h
  | succ d ih =>
    intro a h0 ha s r h
    exact hs s a h0 (by omega) r (hT s a _ _ r (fun s' r' h' => ih (a + 1) (by omega) (by omega) s' r' h') h)
/-- A loop over a list, by its index. -/
theorem listLoop {l : Nat → σ → Int → Option ρ} (L : List τ) (z : τ) {T : σ → τ → (σ → ρ → Prop) → ρ → Prop} (hT : MonoT T) {C : σ → ρ → Prop}
    (hs : ∀ s (i : Int), 0 ≤ i → i < L.length → ∀ r, T s (L.getD i.toNat z) (fun s' r' => Ev (fun k => l k s' (i + 1)) r') r → Ev (fun k => l k s i) r)
    (he : ∀ s r, C s r → Ev (fun k => l k s (L.length : Int)) r) (d : Nat) : ∀ (a : Int), 0 ≤ a → a + d = L.length → ∀ s r, foldT T C (L.drop a.toNat) s r → Ev (fun k => l k s a) r := by
  induction d with
  | zero =>
    intro a h0 ha s r h
    obtain rfl : a = L.length := by omega
    rw [List.drop_of_length_le (by omega)] at h
    exact he s r h
  | succ d ih =>
    intro a h0 ha s r h
    rw [drop_cons L a.toNat z (by omega)] at h
    refine hs s a h0 (by omega) r (hT s _ _ _ r (fun s' r' h' => ih (a + 1) (by omega) (by omega) s' r' ?_) h)
    rw [show (a + 1).toNat = a.toNat + 1 from by omega]
    exact h'
theorem listLoop0 {l : Nat → σ → Int → Option ρ} (L : List τ) (z : τ) {T : σ → τ → (σ → ρ → Prop) → ρ → Prop} (hT : MonoT T) {C : σ → ρ → Prop}
    (hs : ∀ s (i : Int), 0 ≤ i → i < L.length → ∀ r, T s (L.getD i.toNat z) (fun s' r' => Ev (fun k => l k s' (i + 1)) r') r → Ev (fun k => l k s i) r)
    (he : ∀ s r, C s r → Ev (fun k => l k s (L.length : Int)) r) (s : σ) (r : ρ) (h : foldT T C L s r) : Ev (fun k => l k s 0) r :=
  listLoop L z hT hs he L.length 0 (by omega) (by omega) s r (by simpa using h)
/-- Loops that only look: 'all'. -/
theorem foldX_all (p : τ → Bool) (L : List τ) : foldX (σ := Unit) (fun _ t => if p t = true then .inl () else .inr false) (fun _ => true) L () = L.all p := by
  induction L with
  | nil => rfl
  | cons t L ih =>
    simp only [foldX, List.all_cons]
    cases h : p t with
    | true => simp [ih]
    | false => simp
theorem foldT_map (step : σ → τ → σ ⊕ ρ) (f : υ → τ) (C : σ → ρ → Prop) (L : List υ) : foldT (stepT step) C (L.map f) = foldT (stepT fun s u => step s (f u)) C L := by
  induction L with
  | nil => rfl
  | cons t L ih => funext s r; show stepT step s (f t) (foldT (stepT step) C (L.map f)) r = stepT (fun s u => step s (f u)) s t _ r; rw [ih]; rfl
/-- A round that only looks. -/
def allT (p : τ → Bool) : Unit → τ → (Unit → Bool → Prop) → Bool → Prop := fun _ t C r => if p t = true then C () r else r = false
theorem allT_mono (p : τ → Bool) : MonoT (allT p) := by
  intro s t C D r h hT
  unfold allT at *
  cases hp : p t with
  | true => rw [hp] at hT; exact h () r (by simpa using hT)
  | false => rw [hp] at hT; simpa using hT
theorem allT_fold (p : τ → Bool) (C : Unit → Bool → Prop) (L : List τ) : ∀ r, foldT (allT p) C L () r ↔ (if L.all p = true then C () r else r = false) := by
  induction L with
  | nil => intro r; simp [foldT]
  | cons t L ih =>
    intro r
    show (if p t = true then foldT (allT p) C L () r else r = false) ↔ _
    cases hp : p t with
    | true => rw [if_pos rfl, ih]; simp [hp]
    | false => simp [hp]
theorem allT_done (p : τ → Bool) (L : List τ) (C : Unit → Bool → Prop) (hC : C () true) : foldT (allT p) C L () (L.all p) := by
  rw [allT_fold]
  cases h : L.all p <;> simp [hC]
/-- A loop of looks inside a look. -/
theorem allT_nest (p : τ → υ → Bool) (q : τ → Bool) (L : τ → List υ) :
    (fun (s : Unit) (t : τ) (C : Unit → Bool → Prop) (r : Bool) => if q t = true then foldT (allT (p t)) C (L t) s r else r = false) = allT (fun t => q t && (L t).all (p t)) := by
  funext s t C r
  apply propext
  show (if q t = true then foldT (allT (p t)) C (L t) () r else r = false) ↔ (if (q t && (L t).all (p t)) = true then C () r else r = false)
  rw [allT_fold]
  cases q t <;> cases (L t).all (p t) <;> simp
theorem ints_mem_iff {a x : Int} {d : Nat} : x ∈ ints a d ↔ a ≤ x ∧ x < a + d := by
  induction d generalizing a with
  | zero => simp only [ints, List.not_mem_nil, false_iff]; omega
  | succ d ih => simp only [ints, List.mem_cons, ih]; omega
/-- The ascending lists of three of n. -/
def trips (n : Nat) : List (Int × Int × Int) := (ints 0 n).flatMap fun i => (ints (i + 1) ((n : Int) - 1 - i).toNat).flatMap fun j => (ints (j + 1) ((n : Int) - 1 - j).toNat).map fun k => (i, j, k)
theorem trips_mem {n : Nat} {i j k : Int} : (i, j, k) ∈ trips n ↔ 0 ≤ i ∧ i < j ∧ j < k ∧ k < n := by
  simp only [trips, List.mem_flatMap, List.mem_map, ints_mem_iff]
  constructor
  · rintro ⟨i', hi, j', hj, k', hk, he⟩
    simp only [Prod.mk.injEq] at he
    omega
  · rintro ⟨h0, h1, h2, h3⟩
    exact ⟨i, by omega, j, by omega, k, by omega, rfl⟩
def quads (n : Nat) : List (Int × Int × Int × Int) := (trips n).flatMap fun t => (ints (t.2.2 + 1) ((n : Int) - 1 - t.2.2).toNat).map fun l => (t.1, t.2.1, t.2.2, l)
theorem quads_mem {n : Nat} {i j k l : Int} : (i, j, k, l) ∈ quads n ↔ 0 ≤ i ∧ i < j ∧ j < k ∧ k < l ∧ l < n := by
  simp only [quads, List.mem_flatMap, List.mem_map, ints_mem_iff]
  constructor
  · rintro ⟨⟨i', j', k'⟩, ht, l', hl, he⟩
    rw [trips_mem] at ht
    simp only [Prod.mk.injEq] at he hl
    omega
  · rintro ⟨h0, h1, h2, h3, h4⟩
    exact ⟨(i, j, k), by rw [trips_mem]; omega, l, by simp only; omega, rfl⟩
def pairs (n : Nat) : List (Int × Int) := (ints 0 n).flatMap fun i => (ints (i + 1) ((n : Int) - 1 - i).toNat).map fun j => (i, j)
theorem pairs_mem {n : Nat} {i j : Int} : (i, j) ∈ pairs n ↔ 0 ≤ i ∧ i < j ∧ j < n := by
  simp only [pairs, List.mem_flatMap, List.mem_map, ints_mem_iff]
  constructor
  · rintro ⟨i', hi, j', hj, he⟩
    simp only [Prod.mk.injEq] at he
    omega
  · rintro ⟨h0, h1, h2⟩
    exact ⟨i, by omega, j, by omega, rfl⟩
/-- Three loops in each other, over the ascending lists of three of n. -/
theorem tripLoop {l0 : Nat → σ → Int → Option ρ} {l1 : Nat → σ → Int → Int → Option ρ} {l2 : Nat → σ → Int → Int → Int → Option ρ} (n : Nat) (step : σ → (Int × Int × Int) → σ ⊕ ρ) (fin : σ → ρ)
    (h2 : ∀ s i j k, 0 ≤ i → i < j → j < k → k < (n : Int) → ∀ r, stepT step s (i, j, k) (fun s' r' => Ev (fun q => l2 q s' i j (k + 1)) r') r → Ev (fun q => l2 q s i j k) r)
    (h2e : ∀ s i j, 0 ≤ i → i < j → j < (n : Int) → ∀ r, Ev (fun q => l1 q s i (j + 1)) r → Ev (fun q => l2 q s i j n) r)
    (h1 : ∀ s i j, 0 ≤ i → i < j → j < (n : Int) → ∀ r, Ev (fun q => l2 q s i j (j + 1)) r → Ev (fun q => l1 q s i j) r)
    (h1e : ∀ s i, 0 ≤ i → i < (n : Int) → ∀ r, Ev (fun q => l0 q s (i + 1)) r → Ev (fun q => l1 q s i n) r)
    (h0 : ∀ s i, 0 ≤ i → i < (n : Int) → ∀ r, Ev (fun q => l1 q s i (i + 1)) r → Ev (fun q => l0 q s i) r)
    (h0e : ∀ s, Ev (fun q => l0 q s n) (fin s)) (s : σ) : Ev (fun q => l0 q s 0) (foldX step fin (trips n) s) := by
  have hT := foldX_T step fin (C := fun s r => r = fin s) (fun _ => rfl) (trips n) s
  unfold trips at hT
  rw [← nest_flat] at hT
  refine rangeLoop (l := l0) (n : Int) (nestT_mono (fun _ => stepT_mono step) _) (C := fun s r => r = fin s) 0 ?_ (fun s r h => by subst h; exact h0e s) n 0 (by omega) (by omega) s _ hT
  intro s i hi0 hin r hT
  refine h0 s i hi0 hin r ?_
  unfold nestT at hT
  rw [← nest_flat] at hT
  refine rangeLoop (l := fun q s j => l1 q s i j) (n : Int) (nestT_mono (fun _ => stepT_mono step) _) (i + 1) ?_ (fun s r h => h1e s i hi0 hin r h) ((n : Int) - 1 - i).toNat (i + 1) (by omega) (by omega) s r hT
  intro s j hj0 hjn r hT
  refine h1 s i j hi0 (by omega) hjn r ?_
  unfold nestT at hT
  rw [foldT_map] at hT
  refine rangeLoop (l := fun q s k => l2 q s i j k) (n : Int) (stepT_mono _) (j + 1) ?_ (fun s r h => h2e s i j hi0 (by omega) hjn r h) ((n : Int) - 1 - j).toNat (j + 1) (by omega) (by omega) s r hT
  intro s k hk0 hkn r hT
  exact h2 s i j k hi0 (by omega) (by omega) hkn r hT
/-- Two loops in each other, over the ascending lists of two of n. -/
theorem pairLoop {l0 : Nat → σ → Int → Option ρ} {l1 : Nat → σ → Int → Int → Option ρ} (n : Nat) (step : σ → (Int × Int) → σ ⊕ ρ) (fin : σ → ρ)
    (h1 : ∀ s i j, 0 ≤ i → i < j → j < (n : Int) → ∀ r, stepT step s (i, j) (fun s' r' => Ev (fun q => l1 q s' i (j + 1)) r') r → Ev (fun q => l1 q s i j) r)
    (h1e : ∀ s i, 0 ≤ i → i < (n : Int) → ∀ r, Ev (fun q => l0 q s (i + 1)) r → Ev (fun q => l1 q s i n) r)
    (h0 : ∀ s i, 0 ≤ i → i < (n : Int) → ∀ r, Ev (fun q => l1 q s i (i + 1)) r → Ev (fun q => l0 q s i) r)
    (h0e : ∀ s, Ev (fun q => l0 q s n) (fin s)) (s : σ) : Ev (fun q => l0 q s 0) (foldX step fin (pairs n) s) := by
  have hT := foldX_T step fin (C := fun s r => r = fin s) (fun _ => rfl) (pairs n) s
  unfold pairs at hT
  rw [← nest_flat] at hT
  refine rangeLoop (l := l0) (n : Int) (nestT_mono (fun _ => stepT_mono step) _) (C := fun s r => r = fin s) 0 ?_ (fun s r h => by subst h; exact h0e s) n 0 (by omega) (by omega) s _ hT
  intro s i hi0 hin r hT
  refine h0 s i hi0 hin r ?_
  unfold nestT at hT
  rw [foldT_map] at hT
  refine rangeLoop (l := fun q s j => l1 q s i j) (n : Int) (stepT_mono _) (i + 1) ?_ (fun s r h => h1e s i hi0 hin r h) ((n : Int) - 1 - i).toNat (i + 1) (by omega) (by omega) s r hT
  intro s j hj0 hjn r hT
  exact h1 s i j hi0 (by omega) hjn r hT
/-- Two loops in each other, each over all numbers below a bound. -/
theorem gridLoop {l0 : Nat → σ → Int → Option ρ} {l1 : Nat → σ → Int → Int → Option ρ} (n m : Nat) (step : σ → (Int × Int) → σ ⊕ ρ) (fin : σ → ρ)
    (h1 : ∀ s i j, 0 ≤ i → i < (n : Int) → 0 ≤ j → j < (m : Int) → ∀ r, stepT step s (i, j) (fun s' r' => Ev (fun q => l1 q s' i (j + 1)) r') r → Ev (fun q => l1 q s i j) r)
    (h1e : ∀ s i, 0 ≤ i → i < (n : Int) → ∀ r, Ev (fun q => l0 q s (i + 1)) r → Ev (fun q => l1 q s i m) r)
    (h0 : ∀ s i, 0 ≤ i → i < (n : Int) → ∀ r, Ev (fun q => l1 q s i 0) r → Ev (fun q => l0 q s i) r)
    (h0e : ∀ s, Ev (fun q => l0 q s n) (fin s)) (s : σ) : Ev (fun q => l0 q s 0) (foldX step fin ((ints 0 n).flatMap fun i => (ints 0 m).map fun j => (i, j)) s) := by
  have hT := foldX_T step fin (C := fun s r => r = fin s) (fun _ => rfl) ((ints 0 n).flatMap fun i => (ints 0 m).map fun j => (i, j)) s
  rw [← nest_flat] at hT
  refine rangeLoop (l := l0) (n : Int) (nestT_mono (fun _ => stepT_mono step) _) (C := fun s r => r = fin s) 0 ?_ (fun s r h => by subst h; exact h0e s) n 0 (by omega) (by omega) s _ hT
  intro s i hi0 hin r hT
  refine h0 s i hi0 hin r ?_
  unfold nestT at hT
  rw [foldT_map] at hT
  refine rangeLoop (l := fun q s j => l1 q s i j) (m : Int) (stepT_mono _) 0 ?_ (fun s r h => h1e s i hi0 hin r h) m 0 (by omega) (by omega) s r hT
  intro s j hj0 hjn r hT
  exact h1 s i j hi0 hin hj0 hjn r hT
/-- A loop over a list whose rounds hand on a state. -/
theorem foldLoop {l0 : Nat → σ → Int → Option ρ} (L : List τ) (z : τ) (step : σ → τ → σ ⊕ ρ) (fin : σ → ρ)
    (hs : ∀ s (i : Int), 0 ≤ i → i < L.length → L.getD i.toNat z ∈ L → ∀ r, stepT step s (L.getD i.toNat z) (fun s' r' => Ev (fun k => l0 k s' (i + 1)) r') r → Ev (fun k => l0 k s i) r)
    (he : ∀ s, Ev (fun k => l0 k s (L.length : Int)) (fin s)) (s : σ) : Ev (fun k => l0 k s 0) (foldX step fin L s) :=
  listLoop0 L z (stepT_mono step) (C := fun s r => r = fin s) (fun s i h0 h1 r h => hs s i h0 h1 (getD_mem L i.toNat z (by omega)) r h) (fun s r h => by subst h; exact he s) s _ (foldX_T step fin (C := fun s r => r = fin s) (fun _ => rfl) L s)
theorem stepT_inl {step : σ → τ → σ ⊕ ρ} {s : σ} {t : τ} {C : σ → ρ → Prop} {r : ρ} {s' : σ} (h : stepT step s t C r) (e : step s t = .inl s') : C s' r := by unfold stepT at h; rw [e] at h; exact h
theorem stepT_inr {step : σ → τ → σ ⊕ ρ} {s : σ} {t : τ} {C : σ → ρ → Prop} {r : ρ} {r' : ρ} (h : stepT step s t C r) (e : step s t = .inr r') : r = r' := by unfold stepT at h; rw [e] at h; exact h
theorem foldX_map (step : σ → τ → σ ⊕ ρ) (fin : σ → ρ) (f : υ → τ) (L : List υ) : ∀ s, foldX step fin (L.map f) s = foldX (fun s u => step s (f u)) fin L s := by
  induction L with
  | nil => intro s; rfl
  | cons t L ih => intro s; simp only [List.map_cons, foldX]; cases step s (f t) <;> simp [ih]
theorem foldX_congr {step step' : σ → τ → σ ⊕ ρ} (fin : σ → ρ) (L : List τ) (h : ∀ s, ∀ t ∈ L, step s t = step' s t) : ∀ s, foldX step fin L s = foldX step' fin L s := by
  induction L with
  | nil => intro s; rfl
  | cons t L ih =>
    intro s
    have ih' := ih (fun s t ht => h s t (List.mem_cons_of_mem _ ht))
    simp only [foldX, h s t List.mem_cons_self, ih']
theorem foldT_foldl (g : σ → τ → σ) (C : σ → ρ → Prop) (L : List τ) : ∀ s r, foldT (stepT fun s t => .inl (g s t)) C L s r ↔ C (L.foldl g s) r := by
  induction L with
  | nil => intro s r; exact Iff.rfl
  | cons t L ih => intro s r; exact ih (g s t) r
theorem foldX_foldl (g : σ → τ → σ) (fin : σ → ρ) (L : List τ) : ∀ s, foldX (fun s t => .inl (g s t)) fin L s = fin (L.foldl g s) := by
  induction L with
  | nil => intro s; rfl
  | cons t L ih => intro s; exact ih (g s t)
theorem ints_len (a : Int) (d : Nat) : (ints a d).length = d := by
  induction d generalizing a with
  | zero => rfl
  | succ d ih => simp [ints, ih]
end Go.Proofs.Ytijgjpfbhbggdaa.Com

namespace Go.Proofs.Ytijgjpfbhbggdaa.Com
open Go.RowKit Go.Proofs.YtijgjpfbhbggdaaW.PrintWords
set_option linter.unusedSimpArgs false
set_option linter.unusedVariables false
variable {σ τ ρ υ : Type}
theorem nest_flatT {T : σ → υ → (σ → ρ → Prop) → ρ → Prop} (hT : MonoT T) (L : τ → List υ) (C : σ → ρ → Prop) (J : List τ) : ∀ s r, foldT (nestT (fun _ => T) L) C J s r ↔ foldT T C (J.flatMap L) s r := by
  induction J with
  | nil => intro s r; exact Iff.rfl
  | cons t J ih =>
    intro s r
    rw [List.flatMap_cons, foldT_append]
    exact ⟨fun h => foldT_mono hT (fun s r => (ih s r).1) (L t) s r h, fun h => foldT_mono hT (fun s r => (ih s r).2) (L t) s r h⟩
theorem foldT_mapT (T : σ → τ → (σ → ρ → Prop) → ρ → Prop) (f : υ → τ) (C : σ → ρ → Prop) (L : List υ) : ∀ s r, foldT T C (L.map f) s r ↔ foldT (fun s u => T s (f u)) C L s r := by
  induction L with
  | nil => intro s r; exact Iff.rfl
  | cons u L ih =>
    have e : foldT T C (L.map f) = foldT (fun s u => T s (f u)) C L := by funext s r; exact propext (ih s r)
    intro s r
    show T s (f u) (foldT T C (L.map f)) r ↔ T s (f u) (foldT (fun s u => T s (f u)) C L) r
    rw [e]
/-- Three loops in each other, over the ascending lists of three of n. -/
theorem tripLoopT {l0 : Nat → σ → Int → Option ρ} {l1 : Nat → σ → Int → Int → Option ρ} {l2 : Nat → σ → Int → Int → Int → Option ρ} (n : Nat) {T : σ → (Int × Int × Int) → (σ → ρ → Prop) → ρ → Prop} (hM : MonoT T) {C : σ → ρ → Prop}
    (h2 : ∀ s i j k, 0 ≤ i → i < j → j < k → k < (n : Int) → ∀ r, T s (i, j, k) (fun s' r' => Ev (fun q => l2 q s' i j (k + 1)) r') r → Ev (fun q => l2 q s i j k) r)
    (h2e : ∀ s i j, 0 ≤ i → i < j → j < (n : Int) → ∀ r, Ev (fun q => l1 q s i (j + 1)) r → Ev (fun q => l2 q s i j n) r)
    (h1 : ∀ s i j, 0 ≤ i → i < j → j < (n : Int) → ∀ r, Ev (fun q => l2 q s i j (j + 1)) r → Ev (fun q => l1 q s i j) r)
    (h1e : ∀ s i, 0 ≤ i → i < (n : Int) → ∀ r, Ev (fun q => l0 q s (i + 1)) r → Ev (fun q => l1 q s i n) r)
    (h0 : ∀ s i, 0 ≤ i → i < (n : Int) → ∀ r, Ev (fun q => l1 q s i (i + 1)) r → Ev (fun q => l0 q s i) r)
    (h0e : ∀ s r, C s r → Ev (fun q => l0 q s n) r) (s : σ) (r : ρ) (hT : foldT T C (trips n) s r) : Ev (fun q => l0 q s 0) r := by
  unfold trips at hT
  rw [← nest_flatT hM] at hT
  refine rangeLoop (l := l0) (n : Int) (nestT_mono (fun _ => hM) _) (C := C) 0 ?_ h0e n 0 (by omega) (by omega) s _ hT
  intro s i hi0 hin r hT
  refine h0 s i hi0 hin r ?_
  unfold nestT at hT
  rw [← nest_flatT hM] at hT
  refine rangeLoop (l := fun q s j => l1 q s i j) (n : Int) (nestT_mono (fun _ => hM) _) (i + 1) ?_ (fun s r h => h1e s i hi0 hin r h) ((n : Int) - 1 - i).toNat (i + 1) (by omega) (by omega) s r hT
  intro s j hj0 hjn r hT
  refine h1 s i j hi0 (by omega) hjn r ?_
  unfold nestT at hT
  rw [foldT_mapT] at hT
  refine rangeLoop (l := fun q s k => l2 q s i j k) (n : Int) (T := fun s k => T s (i, j, k)) (fun s t C D r h hh => hM s _ C D r h hh) (j + 1) ?_ (fun s r h => h2e s i j hi0 (by omega) hjn r h) ((n : Int) - 1 - j).toNat (j + 1) (by omega) (by omega) s r hT
  intro s k hk0 hkn r hT
  exact h2 s i j k hi0 (by omega) (by omega) hkn r hT
/-- A round that may put a value behind the row. -/
def pushT (g : τ → Option υ) : List υ → τ → (List υ → ρ → Prop) → ρ → Prop := fun s t C r =>
  match g t with
  | some v => s.length < 1000000 ∧ C (s ++ [v]) r
  | none => C s r
theorem pushT_mono (g : τ → Option υ) : MonoT (pushT (ρ := ρ) g) := by
  intro s t C D r h hT
  unfold pushT at *
  revert hT
  cases g t with
  | some v => exact fun hT => ⟨hT.1, h _ _ hT.2⟩
  | none => exact fun hT => h _ _ hT
theorem pushT_fold (g : τ → Option υ) (C : List υ → ρ → Prop) (L : List τ) : ∀ s r, s.length + L.length ≤ 1000000 → C (s ++ L.filterMap g) r → foldT (pushT g) C L s r := by
  induction L with
  | nil => intro s r _ h; show C s r; simpa using h
  | cons t L ih =>
    intro s r hb h
    simp only [List.length_cons] at hb
    show pushT g s t _ r
    unfold pushT
    cases hg : g t with
    | some v =>
      refine ⟨by omega, ih _ _ (by simp; omega) ?_⟩
      rw [List.filterMap_cons, hg] at h
      simpa using h
    | none =>
      refine ih _ _ (by omega) ?_
      rw [List.filterMap_cons, hg] at h
      exact h
theorem pushT_some {g : τ → Option υ} {s : List υ} {t : τ} {C : List υ → ρ → Prop} {r : ρ} {v : υ} (h : pushT g s t C r) (e : g t = some v) : s.length < 1000000 ∧ C (s ++ [v]) r := by unfold pushT at h; rw [e] at h; exact h
theorem pushT_none {g : τ → Option υ} {s : List υ} {t : τ} {C : List υ → ρ → Prop} {r : ρ} (h : pushT g s t C r) (e : g t = none) : C s r := by unfold pushT at h; rw [e] at h; exact h
end Go.Proofs.Ytijgjpfbhbggdaa.Com

namespace Go.Proofs.Ytijgjpfbhbggdaa.Pure
open Go.RowKit Go.Proofs.Ytijgjpfbhbggdaa.P Go.Proofs.YtijgjpfbhbggdaaW.PrintWords Go.Proofs.YtijgjpfbhbggdaaW.PrintLast Go.Proofs.Ytijgjpfbhbggdaa.Com
set_option linter.unusedSimpArgs false
set_option linter.unusedVariables false
/-- The place behind the last of the first n that is not above x. -/
def putN (s : List Int) (x : Int) : Nat → Nat
  | 0 => 0
  | n + 1 => if s.getD n 0 > x then putN s x n else n + 1
def putL (s : List Int) (x : Int) : List Int := s.take (putN s x s.length) ++ [x] ++ s.drop (putN s x s.length)
theorem putN_le (s : List Int) (x : Int) (n : Nat) : putN s x n ≤ n := by
  induction n with
  | zero => exact Nat.le_refl _
  | succ n ih =>
    simp only [putN]
    split <;> omega
theorem putN_spec (s : List Int) (x : Int) (n : Nat) : (∀ j, putN s x n ≤ j → j < n → x < s.getD j 0) ∧ (0 < putN s x n → s.getD (putN s x n - 1) 0 ≤ x) := by
  induction n with
  | zero => exact ⟨fun j _ h => by omega, fun h => by simp [putN] at h⟩
  | succ n ih =>
    simp only [putN]
    split
    · rename_i h
      refine ⟨fun j h1 h2 => ?_, ih.2⟩
      by_cases hj : j = n
      · subst hj; exact h
      · exact ih.1 j h1 (by omega)
    · rename_i h
      exact ⟨fun j h1 h2 => by omega, fun _ => by simpa using h⟩
theorem putL_length (s : List Int) (x : Int) : (putL s x).length = s.length + 1 := by
  have := putN_le s x s.length
  simp only [putL, List.length_append, List.length_take, List.length_drop, List.length_singleton]; omega
theorem putL_perm (s : List Int) (x : Int) : (putL s x).Perm (x :: s) := by
  unfold putL
  have h : (s.take (putN s x s.length) ++ [x] ++ s.drop (putN s x s.length)).Perm (x :: (s.take (putN s x s.length) ++ s.drop (putN s x s.length))) := by
    rw [List.append_assoc]
    exact List.perm_middle
  rwa [List.take_append_drop] at h
theorem putL_sorted (s : List Int) (x : Int) (h : s.Pairwise (· ≤ ·)) : (putL s x).Pairwise (· ≤ ·) := by
  have hle := putN_le s x s.length
  obtain ⟨h1, h2⟩ := putN_spec s x s.length
  unfold putL
  generalize putN s x s.length = a at hle h1 h2
  have hg : ∀ i j (hi : i < s.length) (hj : j < s.length), i ≤ j → s[i] ≤ s[j] := by
    intro i j hi hj hij
    rcases Nat.lt_or_eq_of_le hij with hij | rfl
    · exact (List.pairwise_iff_getElem.1 h) i j hi hj hij
    · exact Int.le_refl _
  have ht : ∀ u ∈ s.take a, u ≤ x := by
    intro u hu
    obtain ⟨j, hj, rfl⟩ := List.mem_iff_getElem.1 hu
    rw [List.length_take] at hj
    have h3 := h2 (by omega)
    rw [List.getD_eq_getElem?_getD, List.getElem?_eq_getElem (show a - 1 < s.length by omega), Option.getD_some] at h3
    rw [List.getElem_take]
    exact Int.le_trans (hg j (a - 1) (by omega) (by omega) (by omega)) h3
  have hd : ∀ v ∈ s.drop a, x < v := by
    intro v hv
    obtain ⟨j, hj, rfl⟩ := List.mem_iff_getElem.1 hv
    rw [List.length_drop] at hj
    have h3 := h1 (a + j) (by omega) (by omega)
    rw [List.getD_eq_getElem?_getD, List.getElem?_eq_getElem (show a + j < s.length by omega), Option.getD_some] at h3
    rw [List.getElem_drop]
    exact h3
  rw [List.pairwise_append, List.pairwise_append]
  refine ⟨⟨h.sublist (List.take_sublist _ _), List.pairwise_singleton _ _, fun u hu v hv => ?_⟩, h.sublist (List.drop_sublist _ _), fun u hu v hv => ?_⟩
  · rw [List.mem_singleton.1 hv]; exact ht u hu
  · have := hd v hv
    rcases List.mem_append.1 hu with hu | hu
    · have := ht u hu; omega
    · rw [List.mem_singleton.1 hu]; omega
theorem puts_sorted (L : List Int) : ∀ s : List Int, s.Pairwise (· ≤ ·) → (L.foldl putL s).Pairwise (· ≤ ·) ∧ (L.foldl putL s).Perm (L ++ s) := by
  induction L with
  | nil => exact fun s h => ⟨h, List.Perm.refl _⟩
  | cons x L ih =>
    intro s h
    obtain ⟨h1, h2⟩ := ih (putL s x) (putL_sorted s x h)
    refine ⟨h1, h2.trans ?_⟩
    exact ((List.Perm.append_left L (putL_perm s x)).trans List.perm_middle)
/-- Numbers that are put one by one are sorted. -/
theorem puts_eq (L : List Int) : L.foldl putL [] = L.mergeSort fun x y => decide (x ≤ y) := by
  obtain ⟨h1, h2⟩ := puts_sorted L [] List.Pairwise.nil
  rw [List.append_nil] at h2
  refine List.Perm.eq_of_pairwise (le := fun x y => decide (x ≤ y)) ?_ (h1.imp (fun h => by simpa using h)) (List.pairwise_mergeSort (le := fun x y => decide (x ≤ y)) (fun a b c h h' => by simp at *; omega) (fun a b => by simp; omega) L) (h2.trans (List.mergeSort_perm L _).symm)
  intro a b _ _ h3 h4
  simp at h3 h4
  omega
theorem l16Put_l0 (s : List Int) (x : Int) (hs : s.length ≤ 1048576) (n : Nat) : n ≤ s.length → Ev (fun k => spec_l16Put.l0 k s x (n : Int)) (s.take (putN s x n) ++ [x] ++ s.drop (putN s x n)) := by
  have out : ∀ m : Nat, m ≤ s.length → (s.take m ++ [x]).length + (([] : List Int) ++ s.drop m).length < 17592186044416 := by
    intro m hm
    simp only [List.length_append, List.length_take, List.length_drop, List.length_singleton, List.length_nil]; omega
  have out2 : ∀ m : Nat, m ≤ s.length → (s.take m).length < 17592186044416 ∧ ([] : List Int).length + (s.drop m).length < 17592186044416 := by
    intro m hm
    simp only [List.length_take, List.length_drop, List.length_nil]; omega
  induction n with
  | zero =>
    intro _
    refine Ev.step (f := fun _ => some (s.take 0 ++ [x] ++ s.drop 0)) (fun k => ?_) (Ev.now _)
    simp only [spec_l16Put.l0, Option.bind_some]
    have h1 := out 0 (by omega)
    have h2 := out2 0 (by omega)
    rw [if_neg (by omega), if_pos (by omega), if_pos (by omega)]
    simp only [Int.toNat_natCast]
    rw [if_pos h2.2, if_pos h2.1, if_pos h1]
    simp
  | succ n ih =>
    intro hn
    have hw : wrap64 (((n + 1 : Nat) : Int) - 1) = (n : Int) := by rw [w64 (by omega) (by omega)]; omega
    by_cases h : s.getD n 0 > x
    · refine Ev.step (f := fun k => spec_l16Put.l0 k s x (n : Int)) (fun k => ?_) ?_
      · simp only [spec_l16Put.l0, hw]
        rw [if_pos (by omega), if_pos (by omega), if_pos (by omega), if_pos (show rd s (n : Int) > x from h)]
      · simp only [putN]
        rw [if_pos h]
        exact ih (by omega)
    · refine Ev.step (f := fun _ => some (s.take (n + 1) ++ [x] ++ s.drop (n + 1))) (fun k => ?_) ?_
      · have h1 := out (n + 1) hn
        have h2 := out2 (n + 1) hn
        simp only [spec_l16Put.l0, hw, Option.bind_some]
        rw [if_pos (by omega), if_pos (by omega), if_pos (by omega), if_neg (show ¬ rd s (n : Int) > x from h), if_pos (by omega), if_pos (by omega)]
        simp only [Int.toNat_natCast]
        rw [if_pos h2.2, if_pos h2.1, if_pos h1]
        simp
      · simp only [putN]
        rw [if_neg h]
        exact Ev.now _
theorem l16Put_ev (s : List Int) (x : Int) (hs : s.length ≤ 1048576) : Ev (fun k => spec_l16Put.f k s x) (putL s x) := l16Put_l0 s x hs s.length (Nat.le_refl _)
/-- A round that puts a number into the row. -/
def putT {τ ρ : Type} (g : τ → Int) : List Int → τ → (List Int → ρ → Prop) → ρ → Prop := fun s t C r => s.length < 1000000 ∧ C (putL s (g t)) r
theorem putT_mono {τ ρ : Type} (g : τ → Int) : MonoT (putT (ρ := ρ) g) := fun s t C D r h hT => ⟨hT.1, h _ _ hT.2⟩
theorem putT_fold {τ ρ : Type} (g : τ → Int) (C : List Int → ρ → Prop) (L : List τ) : ∀ s r, s.length + L.length ≤ 1000000 → C ((L.map g).foldl putL s) r → foldT (putT g) C L s r := by
  induction L with
  | nil => intro s r _ h; exact h
  | cons t L ih =>
    intro s r hb h
    simp only [List.length_cons] at hb
    exact ⟨by omega, ih _ _ (by rw [putL_length]; omega) h⟩
end Go.Proofs.Ytijgjpfbhbggdaa.Pure

namespace Go.Proofs.Ytijgjpfbhbggdaa.Pure
open Go.RowKit Go.Proofs.Ytijgjpfbhbggdaa.P Go.Proofs.YtijgjpfbhbggdaaW.PrintWords Go.Proofs.YtijgjpfbhbggdaaW.PrintLast Go.Proofs.Ytijgjpfbhbggdaa.Com
set_option linter.unusedSimpArgs false
set_option linter.unusedVariables false

def inB (n m : Int) : Bool := decide (-m ≤ n ∧ n ≤ m)
theorem inB_iff {n m : Int} : inB n m = true ↔ -m ≤ n ∧ n ≤ m := by simp [inB]
theorem l1In_eq (a lo hi : Int) : spec_l1In.f a lo hi = some (decide (lo ≤ a ∧ a ≤ hi)) := by
  unfold spec_l1In.f
  by_cases h : a ≥ lo
  · rw [if_pos h]; congr 1; simp only [decide_eq_decide]; omega
  · rw [if_neg h]; congr 1; symm; simp only [decide_eq_false_iff_not]; omega
theorem l1In_inB (a m : Int) (h0 : 0 ≤ m) (h1 : m ≤ 4611686018427387904) : spec_l1In.f a (wrap64 (-m)) m = some (inB a m) := by
  rw [w64 (by omega) (by omega), l1In_eq]; rfl
end Go.Proofs.Ytijgjpfbhbggdaa.Pure

namespace Go.Proofs.Ytijgjpfbhbggdaa.Pure
open Go.RowKit Go.Proofs.Ytijgjpfbhbggdaa.P Go.Proofs.YtijgjpfbhbggdaaW.PrintWords Go.Proofs.YtijgjpfbhbggdaaW.PrintLast Go.Proofs.Ytijgjpfbhbggdaa.Com
set_option linter.unusedSimpArgs false
set_option linter.unusedVariables false

theorem farB_eq (n m : Int) (h0 : 0 ≤ m) (h1 : m ≤ 4611686018427387904) : farB n m = !inB n m := by
  unfold farB impl_isFar.f inB
  rw [w64 (by omega) (by omega)]
  by_cases h : n < -m
  · rw [if_pos h, Option.getD_some, Bool.eq_iff_iff]; simp; omega
  · rw [if_neg h, Option.getD_some, Bool.eq_iff_iff]; simp; omega
theorem l2Fits_eq (x y m : Int) (h0 : 0 ≤ m) (h1 : m ≤ 4611686018427387904) : spec_l2Fits.f x y m = some (inB x m && inB y m) := by
  unfold spec_l2Fits.f
  rw [l1In_inB x m h0 h1, l1In_inB y m h0 h1]
  simp only [Option.bind_some]
  cases inB x m <;> simp
theorem areNear_eq (m : Int) (l : List S25) (h0 : 0 ≤ m) (h1 : m ≤ 4611686018427387904) : impl_areNear.f m l = some (l.all fun p => inB p.f0 m && inB p.f1 m) := by
  unfold impl_areNear.f outPoint
  congr 1
  rw [List.not_any_eq_all_not]
  congr 1
  funext p
  rw [farB_eq _ _ h0 h1, farB_eq _ _ h0 h1]
  simp
end Go.Proofs.Ytijgjpfbhbggdaa.Pure

namespace Go.Proofs.Ytijgjpfbhbggdaa.Pure
open Go.RowKit Go.Proofs.YtijgjpfbhbggdaaW.PrintWords Go.Proofs.YtijgjpfbhbggdaaW.PrintLast Go.Proofs.Ytijgjpfbhbggdaa.Com
set_option linter.unusedSimpArgs false
set_option linter.unusedVariables false

theorem ww_add_l (x y : Int) : wrap64 (wrap64 x + y) = wrap64 (x + y) := by unfold wrap64; omega
theorem ww_add_r (x y : Int) : wrap64 (x + wrap64 y) = wrap64 (x + y) := by unfold wrap64; omega
theorem ww_sub_l (x y : Int) : wrap64 (wrap64 x - y) = wrap64 (x - y) := by unfold wrap64; omega
theorem ww_sub_r (x y : Int) : wrap64 (x - wrap64 y) = wrap64 (x - y) := by unfold wrap64; omega
theorem ww_neg (x : Int) : wrap64 (-wrap64 x) = wrap64 (-x) := by unfold wrap64; omega
theorem ww (x : Int) : wrap64 (wrap64 x) = wrap64 x := by unfold wrap64; omega
theorem wrap_is (x : Int) : ∃ q : Int, wrap64 x = x + q * 18446744073709551616 := ⟨-((x + 9223372036854775808) / 18446744073709551616), by unfold wrap64; omega⟩
theorem wrap_shift (x q : Int) : wrap64 (x + q * 18446744073709551616) = wrap64 x := by unfold wrap64; omega
theorem ww_mul_l (x y : Int) : wrap64 (wrap64 x * y) = wrap64 (x * y) := by
  obtain ⟨q, h⟩ := wrap_is x
  rw [h, Int.add_mul, Int.mul_assoc q, Int.mul_comm 18446744073709551616 y, ← Int.mul_assoc q, wrap_shift]
theorem ww_mul_r (x y : Int) : wrap64 (x * wrap64 y) = wrap64 (x * y) := by rw [Int.mul_comm, ww_mul_l, Int.mul_comm]
theorem abs_mul_le {a b : Int} {A B : Nat} (ha : a.natAbs ≤ A) (hb : b.natAbs ≤ B) : (a * b).natAbs ≤ A * B := by
  rw [Int.natAbs_mul]; exact Nat.mul_le_mul ha hb
theorem wrap_abs (x : Int) (h : x.natAbs ≤ 4611686018427387904) : wrap64 x = x := by unfold wrap64; omega
end Go.Proofs.Ytijgjpfbhbggdaa.Pure

namespace Go.Proofs.Ytijgjpfbhbggdaa.P
open Go.RowKit Go.Proofs.YtijgjpfbhbggdaaW.PrintWords Go.Proofs.YtijgjpfbhbggdaaW.PrintLast Go.Proofs.YtijgjpfbhbggdaaW.PrintMore
attribute [local go_sem] max2_int min2_int max_two min_two max_three min_three max_four min_four   -- for this text's walks alone
set_option linter.unusedVariables false
set_option linter.unusedSimpArgs false

/-! ### spec_l1Bit: function 117 -/
def spec_l1Bit.f (a0 : Bool) : Option (Int) := if a0 = true then (some 1) else (some 0)
set_option maxHeartbeats 8000000 in
set_option maxRecDepth 100000 in
theorem spec_l1Bit.calls (a0 : Bool) (r : Int) (w : World) (h : spec_l1Bit.f a0 = some r) :
  Calls Try.prog 117 #[.bool a0] w fun e w' => e = .returned (.int .i64 r) ∧ Drawn0 w w' := by
 have H : (if a0 = true then (some 1) else (some 0)) = some r := h
 clear h
 by_cases c2 : a0 = true
 ·subst c2
  have H1 : (some 1) = some r := by rw [if_pos rfl] at H; exact H
  clear H
  have H := H1
  clear H1
  obtain rfl := Option.some.inj H
  go_enter Try.func117, Try.ntmps117
  go_wp2
  go_ret
  exact ⟨by first | rfl | (simp; done) | (simp [*]; done), by repeat (first | exact Drawn0.refl _ | apply Drawn0.step)⟩
 ·replace c2 := Bool.eq_false_iff.mpr c2
  subst c2
  have H1 : (some 0) = some r := by rw [if_neg (show ¬ (false = true) by decide)] at H; exact H
  clear H
  have H := H1
  clear H1
  obtain rfl := Option.some.inj H
  go_enter Try.func117, Try.ntmps117
  go_wp2
  go_ret
  exact ⟨by first | rfl | (simp; done) | (simp [*]; done), by repeat (first | exact Drawn0.refl _ | apply Drawn0.step)⟩

end Go.Proofs.Ytijgjpfbhbggdaa.P

namespace Go.Proofs.Ytijgjpfbhbggdaa.P
open Go.RowKit Go.Proofs.YtijgjpfbhbggdaaW.PrintWords Go.Proofs.YtijgjpfbhbggdaaW.PrintLast Go.Proofs.YtijgjpfbhbggdaaW.PrintMore
attribute [local go_sem] max2_int min2_int max_two min_two max_three min_three max_four min_four   -- for this text's walks alone
set_option linter.unusedVariables false
set_option linter.unusedSimpArgs false

/-! ### spec_l2Sign: function 110 -/
def spec_l2Sign.f (a0 : Int) : Option (Int) := (spec_l1Bit.f (decide (a0 > 0))).bind fun t101 => ((spec_l1Bit.f (decide (a0 < 0))).bind fun t102 => (some (wrap64 (t101 - t102))))
set_option maxHeartbeats 8000000 in
set_option maxRecDepth 100000 in
theorem spec_l2Sign.calls (a0 : Int) (r : Int) (w : World) (h : spec_l2Sign.f a0 = some r) :
  Calls Try.prog 110 #[.int .i64 a0] w fun e w' => e = .returned (.int .i64 r) ∧ Drawn0 w w' := by
 have H : ((spec_l1Bit.f (decide (a0 > 0))).bind fun t101 => ((spec_l1Bit.f (decide (a0 < 0))).bind fun t102 => (some (wrap64 (t101 - t102))))) = some r := h
 clear h
 replace H := Option.bind_eq_some_iff.mp H
 obtain ⟨t101, A20, H⟩ := H
 replace H : ((spec_l1Bit.f (decide (a0 < 0))).bind fun t102 => (some (wrap64 (t101 - t102)))) = some r := H
 have A2 := Aside0.mk A20
 clear A20
 replace H := Option.bind_eq_some_iff.mp H
 obtain ⟨t102, A30, H⟩ := H
 replace H : (some (wrap64 (t101 - t102))) = some r := H
 have A3 := Aside0.mk A30
 clear A30
 obtain rfl := Option.some.inj H
 go_enter Try.func110, Try.ntmps110
 go_wp2_with (first | ((with_reducible refine gate_callee (f := 117) rfl ?_); refine goesL_ (some 5) rfl rfl Try.func117 (by kernel_rfl) rfl #[.bool (decide (a0 > 0))] rfl (by (try simp only [List.map_toArray, List.map_cons, List.map_nil]); first | done | rfl | (simp only [List.length_drop, List.length_take]; rfl)) ?_; (with_reducible refine (spec_l1Bit.calls (decide (a0 > 0)) t101 _ A2.out).mono ?_); rintro e w' ⟨rfl, ⟨nd, rfl⟩⟩; refine ⟨_, rfl, ?_⟩) | ((with_reducible refine gate_callee (f := 117) rfl ?_); refine goesL_ (some 8) rfl rfl Try.func117 (by kernel_rfl) rfl #[.bool (decide (a0 < 0))] rfl (by (try simp only [List.map_toArray, List.map_cons, List.map_nil]); first | done | rfl | (simp only [List.length_drop, List.length_take]; rfl)) ?_; (with_reducible refine (spec_l1Bit.calls (decide (a0 < 0)) t102 _ A3.out).mono ?_); rintro e w' ⟨rfl, ⟨nd, rfl⟩⟩; refine ⟨_, rfl, ?_⟩))
 go_ret
 exact ⟨by first | rfl | (simp; done) | (simp [*]; done), by repeat (first | exact Drawn0.refl _ | apply Drawn0.step)⟩

end Go.Proofs.Ytijgjpfbhbggdaa.P

namespace Go.Proofs.Ytijgjpfbhbggdaa.Pure
open Go.RowKit Go.Proofs.Ytijgjpfbhbggdaa.P Go.Proofs.YtijgjpfbhbggdaaW.PrintWords Go.Proofs.YtijgjpfbhbggdaaW.PrintLast Go.Proofs.Ytijgjpfbhbggdaa.Com
set_option linter.unusedSimpArgs false
set_option linter.unusedVariables false

def sgn (x : Int) : Int := if 0 < x then 1 else if x < 0 then -1 else 0
theorem l2Sign_eq (x : Int) : spec_l2Sign.f x = some (sgn x) := by
  unfold spec_l2Sign.f spec_l1Bit.f sgn
  by_cases h1 : 0 < x
  · have h2 : ¬ x < 0 := by omega
    simp [h1, h2, wrap64]
  · by_cases h2 : x < 0
    · simp [h1, h2, wrap64]
    · simp [h1, h2, wrap64]
theorem signOf_eq (x : Int) : impl_signOf.f x = some (sgn x) := by
  unfold impl_signOf.f cmp_Compare_int.f cmp_isNaN_int.f sgn
  by_cases h1 : 0 < x
  · have h2 : ¬ x < 0 := by omega
    simp [h1, h2]
  · by_cases h2 : x < 0
    · simp [h1, h2]
    · simp [h1, h2]
/-- Twice a triangle's area, as Go reckons it. -/
def areaW (a b c d e f : Int) : Int := wrap64 ((c - a) * (f - b) - (d - b) * (e - a))
theorem l2Area_eq (a b c d e f : Int) : spec_l2Area.f a b c d e f = some (areaW a b c d e f) := by
  simp only [spec_l2Area.f, areaW, ww_sub_l, ww_sub_r, ww_mul_l, ww_mul_r]
theorem area_eq (a b c d e f : Int) : impl_area.f a b c d e f = some (areaW a b c d e f) := by
  simp only [impl_area.f, areaW, ww_sub_l, ww_sub_r, ww_mul_l, ww_mul_r]
theorem TurnOf_eq (a b c d e f : Int) : impl_TurnOf.f a b c d e f = some (if ((inB a 1000 && inB b 1000) && ((inB c 1000 && inB d 1000) && (inB e 1000 && inB f 1000))) = true then sgn (areaW a b c d e f) else 0) := by
  unfold impl_TurnOf.f
  rw [areNear_eq 1000 _ (by omega) (by omega), area_eq]
  simp only [Option.bind_some, signOf_eq, List.all_cons, List.all_nil, Bool.and_true]
  split <;> rfl
end Go.Proofs.Ytijgjpfbhbggdaa.Pure

namespace Go.Proofs.Ytijgjpfbhbggdaa.Pure
open Go.RowKit Go.Proofs.Ytijgjpfbhbggdaa.P Go.Proofs.YtijgjpfbhbggdaaW.PrintWords Go.Proofs.YtijgjpfbhbggdaaW.PrintLast Go.Proofs.Ytijgjpfbhbggdaa.Com
set_option linter.unusedSimpArgs false
set_option linter.unusedVariables false

def mk3 (t : Int × Int × Int) : S65 := ⟨t.1, t.2.1, t.2.2⟩
theorem trips_0 : impl_triplesOf.f 200 (0 : Nat) = some ((trips 0).map mk3) := by kernel_rfl
theorem trips_1 : impl_triplesOf.f 200 (1 : Nat) = some ((trips 1).map mk3) := by kernel_rfl
theorem trips_2 : impl_triplesOf.f 200 (2 : Nat) = some ((trips 2).map mk3) := by kernel_rfl
theorem trips_3 : impl_triplesOf.f 200 (3 : Nat) = some ((trips 3).map mk3) := by kernel_rfl
theorem trips_4 : impl_triplesOf.f 200 (4 : Nat) = some ((trips 4).map mk3) := by kernel_rfl
theorem trips_5 : impl_triplesOf.f 200 (5 : Nat) = some ((trips 5).map mk3) := by kernel_rfl
theorem trips_6 : impl_triplesOf.f 200 (6 : Nat) = some ((trips 6).map mk3) := by kernel_rfl
theorem trips_7 : impl_triplesOf.f 200 (7 : Nat) = some ((trips 7).map mk3) := by kernel_rfl
theorem triples_eq (n : Nat) (hn : n ≤ 7) : Ev (fun k => impl_triplesOf.f k (n : Int)) ((trips n).map mk3) := by
  have h : impl_triplesOf.f 200 (n : Int) = some ((trips n).map mk3) := by
    have z : n = 0 ∨ n = 1 ∨ n = 2 ∨ n = 3 ∨ n = 4 ∨ n = 5 ∨ n = 6 ∨ n = 7 := by omega
    rcases z with rfl | rfl | rfl | rfl | rfl | rfl | rfl | rfl
    · exact trips_0
    · exact trips_1
    · exact trips_2
    · exact trips_3
    · exact trips_4
    · exact trips_5
    · exact trips_6
    · exact trips_7
  exact Ev.of (fun k => impl_triplesOf.mono _ k) h
end Go.Proofs.Ytijgjpfbhbggdaa.Pure

namespace Go.Proofs.Ytijgjpfbhbggdaa.Pure
open Go.RowKit Go.Proofs.Ytijgjpfbhbggdaa.P Go.Proofs.YtijgjpfbhbggdaaW.PrintWords Go.Proofs.YtijgjpfbhbggdaaW.PrintLast Go.Proofs.Ytijgjpfbhbggdaa.Com
set_option linter.unusedSimpArgs false
set_option linter.unusedVariables false

/-- Twice the area of three points of a list, with its sign. -/
def areaL (l : List S25) (i j k : Int) : Int := areaW (rd_T25 l i).f0 (rd_T25 l i).f1 (rd_T25 l j).f0 (rd_T25 l j).f1 (rd_T25 l k).f0 (rd_T25 l k).f1
def fits50 (l : List S25) (i : Int) : Bool := inB (rd_T25 l i).f0 50 && inB (rd_T25 l i).f1 50
def nz (l : List S25) (i j k : Int) : Bool := !(areaL l i j k == 0)
/-- Three to seven points with coordinates between -50 and 50, no three of them on a line. -/
def pointsB (l : List S25) : Bool := decide (3 ≤ l.length ∧ l.length ≤ 7) && (ints 0 l.length).all fun k => fits50 l k && (ints 0 k.toNat).all fun j => (ints 0 j.toNat).all fun i => nz l i j k
theorem pointsB_iff (l : List S25) : pointsB l = true ↔ (3 ≤ l.length ∧ l.length ≤ 7) ∧ (∀ i : Int, 0 ≤ i → i < l.length → fits50 l i = true) ∧ (∀ i j k : Int, 0 ≤ i → i < j → j < k → k < l.length → areaL l i j k ≠ 0) := by
  unfold pointsB
  simp only [Bool.and_eq_true, decide_eq_true_eq, List.all_eq_true, ints_mem_iff, nz, Bool.not_eq_true', beq_eq_false_iff_ne]
  constructor
  · rintro ⟨hl, h⟩
    refine ⟨hl, fun i h0 h1 => (h i ⟨h0, by omega⟩).1, fun i j k h0 h1 h2 h3 => ?_⟩
    exact (h k ⟨by omega, by omega⟩).2 j ⟨by omega, by omega⟩ i ⟨by omega, by omega⟩
  · rintro ⟨hl, hf, ha⟩
    refine ⟨hl, fun k hk => ⟨hf k hk.1 (by omega), fun j hj i hi => ha i j k (by omega) (by omega) (by omega) (by omega)⟩⟩
theorem l2Area_L (l : List S25) (i j k : Int) : spec_l2Area.f (rd_T25 l i).f0 (rd_T25 l i).f1 (rd_T25 l j).f0 (rd_T25 l j).f1 (rd_T25 l k).f0 (rd_T25 l k).f1 = some (areaL l i j k) := l2Area_eq _ _ _ _ _ _
theorem spec_ArePoints_ev (l : List S25) (hl : l.length ≤ 1099511627776) : Ev (fun k => spec_ArePoints.f k l) (pointsB l) := by
  simp only [spec_ArePoints.f, l1In_eq, Option.bind_some]
  by_cases h : 3 ≤ l.length ∧ l.length ≤ 7
  · refine Ev.iteT (by simp; omega) ?_
    have e : pointsB l = (ints 0 l.length).all fun k => fits50 l k && (ints 0 k.toNat).all fun j => (ints 0 j.toNat).all fun i => nz l i j k := by unfold pointsB; rw [decide_eq_true h]; simp
    rw [e]
    refine rangeLoop (σ := Unit) (l := fun k _ i => spec_ArePoints.l0 k l i) (l.length : Int) (T := allT _) (allT_mono _) (C := fun _ r => r = true) 0 ?_ ?_ l.length 0 (by omega) (by omega) () _ (allT_done _ _ _ rfl)
    · intro _ k hk0 hkn r hT
      rw [← allT_nest (fun k j => (ints 0 j.toNat).all fun i => nz l i j k) (fits50 l) (fun k => ints 0 k.toNat)] at hT
      refine Ev.step (f := fun q => if fits50 l k = true then spec_ArePoints.l1 q l k 0 else some false) (fun q => ?_) ?_
      · simp only [spec_ArePoints.l0]
        rw [if_pos hkn, if_pos hk0, l2Fits_eq _ _ 50 (by omega) (by omega)]; rfl
      cases hf : fits50 l k with
      | false => rw [hf] at hT; simp only [Bool.false_eq_true, if_false] at hT ⊢; subst hT; exact Ev.now _
      | true =>
        rw [hf] at hT; simp only [if_true] at hT ⊢
        refine rangeLoop (σ := Unit) (l := fun q _ j => spec_ArePoints.l1 q l k j) k (T := allT fun j => (ints 0 j.toNat).all fun i => nz l i j k) (allT_mono _) (C := fun s r => Ev (fun q => spec_ArePoints.l0 q l (k + 1)) r) 0 ?_ ?_ k.toNat 0 (by omega) (by omega) () r hT
        · intro _ j hj0 hjk r hT
          refine Ev.step (f := fun q => spec_ArePoints.l2 q l k j 0) (fun q => by simp only [spec_ArePoints.l1]; rw [if_pos hjk]) ?_
          have hT2 : foldT (allT fun i => nz l i j k) (fun _ r => Ev (fun q => spec_ArePoints.l1 q l k (j + 1)) r) (ints 0 j.toNat) () r := by rw [allT_fold]; exact hT
          refine rangeLoop (σ := Unit) (l := fun q _ i => spec_ArePoints.l2 q l k j i) j (T := allT fun i => nz l i j k) (allT_mono _) 0 ?_ ?_ j.toNat 0 (by omega) (by omega) () r hT2
          · intro _ i hi0 hij r hT
            refine Ev.step (f := fun q => if areaL l i j k = 0 then some false else spec_ArePoints.l2 q l k j (i + 1)) (fun q => ?_) ?_
            · simp only [spec_ArePoints.l2]
              rw [if_pos hij, if_pos hi0, if_pos (by omega), if_pos hj0, if_pos (by omega), if_pos hk0, if_pos hkn, l2Area_L, w64 (by omega) (by omega)]; rfl
            by_cases hz : areaL l i j k = 0
            · have : r = false := by simpa [allT, nz, hz] using hT
              subst this; exact Ev.iteT hz (Ev.now _)
            · refine Ev.iteF hz ?_; simpa [allT, nz, hz] using hT
          · intro _ r hC
            refine Ev.step (f := fun q => spec_ArePoints.l1 q l k (j + 1)) (fun q => ?_) hC
            simp only [spec_ArePoints.l2]
            rw [if_neg (by omega), w64 (by omega) (by omega)]
        · intro _ r hC
          refine Ev.step (f := fun q => spec_ArePoints.l0 q l (k + 1)) (fun q => ?_) hC
          simp only [spec_ArePoints.l1]
          rw [if_neg (by omega), w64 (by omega) (by omega)]
    · intro _ r hC
      subst hC
      refine Ev.step (f := fun _ => some true) (fun q => ?_) (Ev.now true)
      simp only [spec_ArePoints.l0]
      rw [if_neg (by omega)]
  · have e : pointsB l = false := by unfold pointsB; rw [decide_eq_false h]; rfl
    rw [e]
    exact Ev.iteF (by simp; omega) (Ev.now _)
theorem sgn_zero (x : Int) : sgn x = 0 ↔ x = 0 := by unfold sgn; split <;> (try split) <;> omega
theorem fits50_all (l : List S25) : (l.all fun p => inB p.f0 50 && inB p.f1 50) = (ints 0 l.length).all (fits50 l) := by
  rw [Bool.eq_iff_iff]
  simp only [List.all_eq_true, ints_mem_iff]
  constructor
  · intro h i hi
    exact h (rd_T25 l i) (getD_mem l i.toNat z25 (by omega))
  · intro h p hp
    obtain ⟨n, hn, rfl⟩ := List.mem_iff_getElem.1 hp
    have := h (n : Int) (by omega)
    simpa [fits50, rd_T25, List.getD, List.getElem?_eq_getElem hn] using this
theorem TurnOf_in (l : List S25) (i j k : Int) (hi : fits50 l i = true) (hj : fits50 l j = true) (hk : fits50 l k = true) :
    impl_TurnOf.f (rd_T25 l i).f0 (rd_T25 l i).f1 (rd_T25 l j).f0 (rd_T25 l j).f1 (rd_T25 l k).f0 (rd_T25 l k).f1 = some (sgn (areaL l i j k)) := by
  rw [TurnOf_eq, if_pos]; · rfl
  simp only [fits50, Bool.and_eq_true, inB_iff] at *
  omega
theorem impl_ArePoints_ev (l : List S25) (hl : l.length ≤ 1099511627776) : Ev (fun k => impl_ArePoints.f k l) (pointsB l) := by
  have stop : Ev (fun k => impl_ArePoints.j0 k l true) false := Ev.step (f := fun _ => some false) (fun k => by simp only [impl_ArePoints.j0, if_true]) (Ev.now _)
  simp only [impl_ArePoints.f, areNear_eq 50 _ (show (0 : Int) ≤ 50 by omega) (by omega), Option.bind_some]
  by_cases h3 : (l.length : Int) < 3
  · have e : pointsB l = false := by unfold pointsB; rw [decide_eq_false (by omega)]; rfl
    rw [e]; exact Ev.iteT h3 stop
  refine Ev.iteF h3 ?_
  by_cases h7 : (l.length : Int) > 7
  · have e : pointsB l = false := by unfold pointsB; rw [decide_eq_false (by omega)]; rfl
    rw [e]; exact Ev.iteT h7 stop
  refine Ev.iteF h7 ?_
  rw [fits50_all]
  cases hf : (ints 0 l.length).all (fits50 l) with
  | false =>
    have e : pointsB l = false := by
      rw [Bool.eq_false_iff]; intro hp
      rw [pointsB_iff] at hp
      rw [List.all_eq_false] at hf
      obtain ⟨x, hx, hx'⟩ := hf
      rw [ints_mem_iff] at hx
      exact hx' (hp.2.1 x hx.1 (by omega))
    rw [e]; exact stop
  | true =>
    have hF : ∀ i, 0 ≤ i → i < (l.length : Int) → fits50 l i = true := fun i h0 h1 => by
      rw [List.all_eq_true] at hf; exact hf i (by rw [ints_mem_iff]; omega)
    refine Ev.step (f := fun k => (impl_triplesOf.f k (l.length : Int)).bind fun t => impl_ArePoints.l0 k l t (t.length : Int) 0) (fun k => by simp only [impl_ArePoints.j0, Bool.not_true, Bool.false_eq_true, if_false]) ?_
    refine Ev.bind (triples_eq l.length (by omega)) ?_
    have e : pointsB l = ((trips l.length).map mk3).all fun t => nz l t.f0 t.f1 t.f2 := by
      rw [Bool.eq_iff_iff, pointsB_iff]
      simp only [List.all_eq_true, List.mem_map]
      constructor
      · rintro ⟨_, _, ha⟩ t ⟨⟨i, j, k⟩, hm, rfl⟩
        rw [trips_mem] at hm
        simp only [mk3, nz, Bool.not_eq_true', beq_eq_false_iff_ne]
        exact ha i j k hm.1 hm.2.1 hm.2.2.1 hm.2.2.2
      · intro h
        refine ⟨by omega, hF, fun i j k h0 h1 h2 h3 => ?_⟩
        have := h _ ⟨(i, j, k), by rw [trips_mem]; omega, rfl⟩
        simpa [mk3, nz] using this
    rw [e]
    refine listLoop0 (σ := Unit) (l := fun q _ i => impl_ArePoints.l0 q l _ _ i) ((trips l.length).map mk3) z65 (T := allT _) (allT_mono _) (C := fun _ r => r = true) ?_ ?_ () _ (allT_done _ _ _ rfl)
    · intro _ i hi0 hin r hT
      have hm : ((trips l.length).map mk3).getD i.toNat z65 ∈ (trips l.length).map mk3 := getD_mem _ _ _ (by omega)
      generalize hg : ((trips l.length).map mk3).getD i.toNat z65 = t at hm hT
      have hr : rd_T65 ((trips l.length).map mk3) i = t := hg
      obtain ⟨⟨a, b, c⟩, hm3, rfl⟩ := List.mem_map.1 hm
      clear hm
      have hm := trips_mem.1 hm3
      refine Ev.step (f := fun q => if sgn (areaL l a b c) = 0 then some false else impl_ArePoints.l0 q l ((trips l.length).map mk3) (((trips l.length).map mk3).length : Int) (i + 1)) (fun q => ?_) ?_
      · simp only [impl_ArePoints.l0, hr, mk3]
        have hlen : i < (((trips l.length).map mk3).length : Int) := hin
        have hb : (((trips l.length).map mk3).length : Int) ≤ 35 := by
          have : l.length = 3 ∨ l.length = 4 ∨ l.length = 5 ∨ l.length = 6 ∨ l.length = 7 := by omega
          rcases this with h | h | h | h | h <;> rw [h] <;> decide +kernel
        rw [if_pos hlen, if_pos hi0, if_pos (by omega), if_pos (by omega), if_pos (by omega), if_pos (by omega), if_pos (by omega), if_pos (by omega), if_pos (by omega), TurnOf_in l a b c (hF a (by omega) (by omega)) (hF b (by omega) (by omega)) (hF c (by omega) (by omega)), w64 (by omega) (by omega)]; rfl
      by_cases hz : areaL l a b c = 0
      · have : r = false := by simpa [allT, nz, mk3, hz] using hT
        subst this; exact Ev.iteT ((sgn_zero _).2 hz) (Ev.now _)
      · refine Ev.iteF (fun h => hz ((sgn_zero _).1 h)) ?_; simpa [allT, nz, mk3, hz] using hT
    · intro _ r hC
      subst hC
      refine Ev.step (f := fun _ => some true) (fun q => ?_) (Ev.now true)
      simp only [impl_ArePoints.l0]
      rw [if_neg (by omega)]
end Go.Proofs.Ytijgjpfbhbggdaa.Pure

namespace Go.Proofs
open Go.Shelf
def Try.lays189_ren : Go.Shelf.Ren := ⟨fun | 189 => 66 | 125 => 116 | 257 => 115 | 128 => 149 | 129 => 150 | 294 => 140 | 295 => 141 | 296 => 142 | 297 => 143 | 298 => 144 | 299 => 145 | 216 => 146 | 300 => 147 | 301 => 148 | 328 => 166 | 329 => 167 | 330 => 168 | 331 => 169 | 332 => 170 | 215 => 165 | 343 => 177 | n => n, fun | 28 => 33 | 3 => 3 | 46 => 72 | 0 => 0 | 51 => 128 | 53 => 130 | 4 => 4 | 183 => 121 | 182 => 120 | 131 => 125 | 5 => 5 | 9 => 9 | 218 => 145 | 222 => 149 | 228 => 154 | 229 => 75 | n => n, fun | n => n⟩
theorem Try.lays189 : Go.Proofs.Lays.n189 Try.prog Try.lays189_ren := {
  mixed := by kernel_rfl
  f125 := Try.func116.trans (congrArg some (by kernel_rfl))
  f128 := Try.func149.trans (congrArg some (by kernel_rfl))
  f129 := Try.func150.trans (congrArg some (by kernel_rfl))
  f189 := Try.func66.trans (congrArg some (by kernel_rfl))
  f215 := Try.func165.trans (congrArg some (by kernel_rfl))
  f216 := Try.func146.trans (congrArg some (by kernel_rfl))
  f257 := Try.func115.trans (congrArg some (by kernel_rfl))
  f294 := Try.func140.trans (congrArg some (by kernel_rfl))
  f295 := Try.func141.trans (congrArg some (by kernel_rfl))
  f296 := Try.func142.trans (congrArg some (by kernel_rfl))
  f297 := Try.func143.trans (congrArg some (by kernel_rfl))
  f298 := Try.func144.trans (congrArg some (by kernel_rfl))
  f299 := Try.func145.trans (congrArg some (by kernel_rfl))
  f300 := Try.func147.trans (congrArg some (by kernel_rfl))
  f301 := Try.func148.trans (congrArg some (by kernel_rfl))
  f328 := Try.func166.trans (congrArg some (by kernel_rfl))
  f329 := Try.func167.trans (congrArg some (by kernel_rfl))
  f330 := Try.func168.trans (congrArg some (by kernel_rfl))
  f331 := Try.func169.trans (congrArg some (by kernel_rfl))
  f332 := Try.func170.trans (congrArg some (by kernel_rfl))
  f343 := Try.func177.trans (congrArg some (by kernel_rfl))
  t0 := Try.underlying0
  a0 := Try.isAgg0
  z0 := Try.sizeOf0
  v0 := Try.zeroValue0
  t3 := Try.underlying3
  a3 := Try.isAgg3
  z3 := Try.sizeOf3
  v3 := Try.zeroValue3
  t4 := Try.underlying4
  a4 := Try.isAgg4
  z4 := Try.sizeOf4
  v4 := Try.zeroValue4
  t5 := Try.underlying5
  a5 := Try.isAgg5
  z5 := Try.sizeOf5
  v5 := Try.zeroValue5
  t9 := Try.underlying9
  a9 := Try.isAgg9
  z9 := Try.sizeOf9
  v9 := Try.zeroValue9
  t28 := Try.underlying33
  a28 := Try.isAgg33
  z28 := Try.sizeOf33
  v28 := Try.zeroValue33
  t46 := Try.underlying72
  a46 := Try.isAgg72
  z46 := Try.sizeOf72
  v46 := Try.zeroValue72
  t51 := Try.underlying128
  a51 := Try.isAgg128
  z51 := Try.sizeOf128
  v51 := Try.zeroValue128
  t53 := Try.underlying130
  a53 := Try.isAgg130
  z53 := Try.sizeOf130
  v53 := Try.zeroValue130
  t131 := Try.underlying125
  a131 := Try.isAgg125
  z131 := Try.sizeOf125
  v131 := Try.zeroValue125
  t182 := Try.underlying120
  a182 := Try.isAgg120
  z182 := Try.sizeOf120
  v182 := Try.zeroValue120
  t183 := Try.underlying121
  a183 := Try.isAgg121
  z183 := Try.sizeOf121
  v183 := Try.zeroValue121
  t218 := Try.underlying145
  a218 := Try.isAgg145
  z218 := Try.sizeOf145
  v218 := Try.zeroValue145
  t222 := Try.underlying149
  a222 := Try.isAgg149
  z222 := Try.sizeOf149
  v222 := Try.zeroValue149
  t228 := Try.underlying154
  a228 := Try.isAgg154
  z228 := Try.sizeOf154
  v228 := Try.zeroValue154
  t229 := Try.underlying75
  a229 := Try.isAgg75
  z229 := Try.sizeOf75
  v229 := Try.zeroValue75 }
open Go.Sort Go.RowKit in
theorem Try.slices_Sort_int (blk off cap : Nat) (zs : List Int) (w : World) (hH : Holds (Value.int .i64) w blk off zs.toArray) (hblk : blk < w.heap.size) (hsz : zs.length < 4611686018427387904) :
    Calls Try.prog 66 #[.slice (some ⟨blk, off, none⟩) zs.length cap] w fun e w' =>
      e = .returned (.tuple #[]) ∧ ∃ n os, w' = grow (putRow (Value.int .i64) (Sort.ahead w n) blk off (zs.mergeSort fun x y => decide (x ≤ y)).toArray) os := Any.slices_Sort_int Try.lays189 blk off cap zs w hH hblk hsz
open Go.RowKit Go.Sort in
/-- .. and plain. (LAID: no walk: one application.) -/
theorem Try.slices_Sort_int_none (p : Option Addr) (cap : Nat) (w : World) :
    Calls Try.prog 66 #[.slice p 0 cap] w fun e w' => e = .returned (.tuple #[]) ∧ w' = w := Any.slices_Sort_int_none Try.lays189 p cap w
end Go.Proofs

namespace Go.Proofs.Ytijgjpfbhbggdaa.P
open Go.RowKit Go.Proofs.YtijgjpfbhbggdaaW.PrintWords Go.Proofs.YtijgjpfbhbggdaaW.PrintLast Go.Proofs.YtijgjpfbhbggdaaW.PrintMore
attribute [local go_sem] max2_int min2_int max_two min_two max_three min_three max_four min_four   -- for this text's walks alone
set_option linter.unusedVariables false
set_option linter.unusedSimpArgs false

/-! ### slices_Sort_int_int: function 66 -/
def slices_Sort_int_int.f (l0 : List Int) : Option (List Int) := if l0.length < 4611686018427387904 then some (l0.mergeSort fun x y => decide (x ≤ y)) else none
theorem sorted_cells (d : List Int) (cur : Array Value) (hc : d.length ≤ cur.size) : (Go.Sort.putCells (Value.int .i64) 0 d.toArray cur).size = cur.size ∧ (Go.Sort.putCells (Value.int .i64) 0 d.toArray cur).toList.take d.length = nums .i64 d := by
 constructor
 ·simp [Go.Sort.putCells]
 ·apply List.ext_getElem?
  intro j
  rw [List.getElem?_take]
  by_cases hj : j < d.length
  ·rw [if_pos hj, Array.getElem?_toList, Go.Sort.putCells, Array.getElem?_mapIdx, Array.getElem?_eq_getElem (by omega), Option.map_some, if_pos ⟨Nat.zero_le _, by simpa using hj⟩]
   simp [nums, List.getElem?_eq_getElem hj, hj]
  ·rw [if_neg hj, List.getElem?_eq_none (by simp [nums]; omega)]
theorem sorted_heap (w : World) (m g : Nat) (d : Array Int) (os : Array Obj) (i : Nat) (hi : i < w.heap.size) :
  (Go.Sort.grow (Go.Sort.putRow (Value.int .i64) (Go.Sort.ahead w m) g 0 d) os).heap[i]? = if g = i then (w.heap[i]?).map (Go.Sort.onCells (Go.Sort.putCells (Value.int .i64) 0 d)) else w.heap[i]? := by
 rw [Go.Sort.heap_grow_old _ _ (by simpa [Go.Sort.putRow, Go.Sort.mapBlock, Go.Sort.ahead] using hi)]
 simp [Go.Sort.putRow, Go.Sort.mapBlock, Go.Sort.ahead, Array.getElem?_modify]
theorem slices_Sort_int_int.calls (P0_ : Nat → Prop) (u9000_ : Value) (l0 : List Int) (r : List Int) (w0 w : World) (hB : Below w0.heap.size w0 w) (ho0 : Kd.R (Kd.int .i64) 3 w w0.heap.size P0_ u9000_ l0) (h : slices_Sort_int_int.f l0 = some r) :
  Calls Try.prog 66 #[u9000_] w fun e w' => e = .returned (.tuple #[]) ∧ Kd.R (Kd.int .i64) 3 w' w0.heap.size (fun k_ => (P0_ k_ ∨ w.heap.size ≤ k_)) u9000_ r ∧ Below w0.heap.size w0 w' ∧ Kept w w' (fun k_ => P0_ k_) := by
 simp only [slices_Sort_int_int.f] at h
 by_cases hbig : l0.length < 4611686018427387904
 case neg => rw [if_neg hbig] at h; cases h
 rw [if_pos hbig] at h
 obtain rfl : (l0.mergeSort fun x y => decide (x ≤ y)) = r := Option.some.inj h
 have hown := Kd.own_of_R (enc := Value.int .i64) (h1 := fun _ => rfl) ho0
 have hok := ho0.1
 have hl2 : (l0.mergeSort fun x y => decide (x ≤ y)).length = l0.length := List.length_mergeSort _
 rcases hown with ⟨hlen, ⟨rfl, hn⟩ | ⟨g, cap, cur, rfl, hgb, hh, hnc, hcm, hcs, htk⟩⟩
 ·obtain rfl := List.eq_nil_of_length_eq_zero hn
  refine (Try.slices_Sort_int_none none 0 w).mono ?_
  rintro e w' ⟨rfl, rfl⟩
  exact ⟨rfl, by simpa using Kd.R_nil _ _ _ _ _, hB, Kept.refl _ _⟩
 ·have hlt : g < w.heap.size := blk_lt hh
  have hcells : ∀ j (hj : j < l0.length), cur[j]? = some (.int .i64 l0[j]) := by
   intro j hj
   have h1 : (cur.toList.take (l0.length * 1))[j]? = (encs (Value.int .i64) l0)[j]? := by rw [htk]
   rw [Nat.mul_one, List.getElem?_take, if_pos hj, Array.getElem?_toList] at h1
   rw [h1]
   simp [encs, List.getElem?_eq_getElem hj]
  have hH : Go.Sort.Holds (Value.int .i64) w g 0 l0.toArray := by
   intro j hj
   have hj' : j < l0.length := by simpa using hj
   refine ⟨?_, blk_frozen hh _⟩
   rw [Nat.zero_add, blk_cell hh j, hcells j hj']
   simp [hj']
  refine (Try.slices_Sort_int g 0 cap l0 w hH hlt hbig).mono ?_
  rintro e w' ⟨rfl, m, os, rfl⟩
  have hsz : w.heap.size ≤ (Go.Sort.grow (Go.Sort.putRow (Value.int .i64) (Go.Sort.ahead w m) g 0 (l0.mergeSort fun x y => decide (x ≤ y)).toArray) os).heap.size := by
   simp [Go.Sort.putRow, Go.Sort.mapBlock, Go.Sort.ahead]
  have hblk := sorted_heap w m g (l0.mergeSort fun x y => decide (x ≤ y)).toArray os
  generalize hw' : Go.Sort.grow (Go.Sort.putRow (Value.int .i64) (Go.Sort.ahead w m) g 0 (l0.mergeSort fun x y => decide (x ≤ y)).toArray) os = w' at hsz hblk
  have hg' : w'.heap[g]? = some (.cells (Go.Sort.putCells (Value.int .i64) 0 (l0.mergeSort fun x y => decide (x ≤ y)).toArray cur) 3 (0, 0)) := by
   rw [hblk g hlt, if_pos rfl, hh]; rfl
  have hs := sorted_cells (l0.mergeSort fun x y => decide (x ≤ y)) cur (by rw [hl2, hcs]; omega)
  have hB2 : Below w0.heap.size w w' := by
   subst hw'
   exact ⟨rfl, rfl, rfl, hsz, fun i hi => by rw [hblk i (Nat.lt_of_lt_of_le hi hB.size), if_neg (by omega)]⟩
  refine ⟨rfl, ?_, hB.trans hB2, ⟨hsz, fun i hi hn => by rw [hblk i hi, if_neg (fun he => hn (by rw [← he]; exact hok g rfl))]⟩⟩
  refine Kd.R_of_own (enc := Value.int .i64) (h1 := fun _ => rfl) ?_ (fun k hk => .inl (hok k hk))
  refine ⟨by simp [encs], .inr ⟨g, cap, _, by rw [hl2], hgb, hg', by rw [hl2]; exact hnc, hcm, by rw [hs.1]; exact hcs, ?_⟩⟩
  rw [Nat.mul_one]
  exact hs.2

end Go.Proofs.Ytijgjpfbhbggdaa.P

namespace Go.Proofs.Ytijgjpfbhbggdaa.P
open Go.RowKit Go.Proofs.YtijgjpfbhbggdaaW.PrintWords Go.Proofs.YtijgjpfbhbggdaaW.PrintLast Go.Proofs.YtijgjpfbhbggdaaW.PrintMore
attribute [local go_sem] max2_int min2_int max_two min_two max_three min_three max_four min_four   -- for this text's walks alone
set_option linter.unusedVariables false
set_option linter.unusedSimpArgs false

/-! ### impl_TriangleRow: function 30 -/
def impl_TriangleRow.f (k : Nat) (l0 : List (S25)) : Option (List Int) := (impl_ArePoints.f k l0).bind fun t101 => (if t101 = true then ((impl_triangles.f k l0).bind fun t102 => ((slices_Sort_int_int.f t102).bind fun t105 => (some t105))) else (some ([] : List Int)))
theorem impl_TriangleRow.mono : ∀ a0 k, LeO (impl_TriangleRow.f k a0) (impl_TriangleRow.f (k + 1) a0) := by
 intro a0 k
 unfold impl_TriangleRow.f
 repeat' first
   | (with_reducible exact impl_ArePoints.mono _ _)
   | (with_reducible exact impl_triangles.mono _ _)
   | (with_reducible exact LeO.refl _)
   | (with_reducible exact LeO.none _)
   | (with_reducible refine LeO.ite ?_ ?_)
   | (with_reducible refine LeO.bind ?_ (fun _ => ?_))
   | exact impl_ArePoints.mono _ _
   | exact impl_triangles.mono _ _
   | exact LeO.none _
   | refine LeO.ite ?_ ?_
   | refine LeO.bind ?_ (fun _ => ?_)
set_option maxHeartbeats 8000000 in
set_option maxRecDepth 100000 in
theorem impl_TriangleRow.calls (k : Nat) (A0 : Option Addr) (c0 : Nat) (l0 : List (S25)) (r : List Int) (w : World) (hr0 : Kd.C k25 w A0 l0.length l0) (hc0 : l0.length ≤ c0) (h : impl_TriangleRow.f k l0 = some r) :
  Calls Try.prog 30 #[.slice A0 l0.length c0] w fun e w' => ∃ v0_ : Value, e = .returned (v0_) ∧ Kd.R (Kd.int .i64) 3 w' w.heap.size (fun _ => True) v0_ r ∧ Below w.heap.size w w' := by
 have HR0 := Aside0.mk hr0
 have HC0 := Aside0.mk hc0
 clear hr0 hc0
 have HB := Aside0.mk (Below.refl w.heap.size w)
 have H : ((impl_ArePoints.f k l0).bind fun t101 => (if t101 = true then ((impl_triangles.f k l0).bind fun t102 => ((slices_Sort_int_int.f t102).bind fun t105 => (some t105))) else (some ([] : List Int)))) = some r := h
 clear h
 replace H := Option.bind_eq_some_iff.mp H
 obtain ⟨t101, A20, H⟩ := H
 replace H : (if t101 = true then ((impl_triangles.f k l0).bind fun t102 => ((slices_Sort_int_int.f t102).bind fun t105 => (some t105))) else (some ([] : List Int))) = some r := H
 have A2 := Aside0.mk A20
 clear A20
 by_cases c3 : t101 = true
 ·subst c3
  have H1 : ((impl_triangles.f k l0).bind fun t102 => ((slices_Sort_int_int.f t102).bind fun t105 => (some t105))) = some r := by rw [if_pos rfl] at H; exact H
  clear H
  have H := H1
  clear H1
  replace H := Option.bind_eq_some_iff.mp H
  obtain ⟨t102, A40, H⟩ := H
  replace H : ((slices_Sort_int_int.f t102).bind fun t105 => (some t105)) = some r := H
  have A4 := Aside0.mk A40
  clear A40
  replace H := Option.bind_eq_some_iff.mp H
  obtain ⟨t105, A50, H⟩ := H
  replace H : (some t105) = some r := H
  have A5 := Aside0.mk A50
  clear A50
  obtain rfl := Option.some.inj H
  go_enter Try.func30, Try.ntmps30
  go_wp2_with (first | ((with_reducible refine gate_callee (f := 56) rfl ?_); refine goesL_ (some 5) rfl rfl Try.func56 (by kernel_rfl) rfl #[.slice A0 l0.length c0] rfl (by (try simp only [List.map_toArray, List.map_cons, List.map_nil]); first | done | rfl | (simp only [List.length_drop, List.length_take]; rfl)) ?_; (with_reducible refine (impl_ArePoints.calls k _ _ l0 true _ ?side1 ?side2 A2.out).mono ?_); (case side1 => repeat (first | exact HR0.out | (with_reducible refine Kd.C_alloc ?_ _) | (with_reducible refine Kd.C_drewN ?_ _) | (with_reducible refine Kd.C_drew ?_))); (case side2 => exact HC0.out); rintro e w6 ⟨rfl, hb⟩; refine ⟨_, rfl, ?_⟩; have n0_ := Aside0.mk (below_step (by repeat (first | (with_reducible first | exact HB.out | apply below_alloc | apply pw_below_drewN | apply below_drew1) | exact HB.out)) hb); clear HB; have HB := n0_; clear n0_; (try clear hb); (try clear hb2); (try clear hk); (try clear hi)) | ((with_reducible refine gate_callee (f := 61) rfl ?_); refine goesL_ (some 8) rfl rfl Try.func61 (by kernel_rfl) rfl #[.slice A0 l0.length c0] rfl (by (try simp only [List.map_toArray, List.map_cons, List.map_nil]); first | done | rfl | (simp only [List.length_drop, List.length_take]; rfl)) ?_; (with_reducible refine (impl_triangles.calls k _ _ l0 t102 _ ?side1 ?side2 A4.out).mono ?_); (case side1 => repeat (first | exact (Kd.C_below HR0.out HB.out) | (with_reducible refine Kd.C_alloc ?_ _) | (with_reducible refine Kd.C_drewN ?_ _) | (with_reducible refine Kd.C_drew ?_))); (case side2 => exact HC0.out); rintro e w7 ⟨v103, rfl, ho0, hb⟩; refine ⟨_, rfl, ?_⟩; have n0_ := Aside0.mk (Kd.R_lower ho0 (below_size (by repeat (first | (with_reducible first | exact HB.out | apply below_alloc | apply pw_below_drewN | apply below_drew1) | exact HB.out)))); have n1_ := Aside0.mk (below_step (by repeat (first | (with_reducible first | exact HB.out | apply below_alloc | apply pw_below_drewN | apply below_drew1) | exact HB.out)) hb); clear HB; have HO104 := n0_; have HB := n1_; clear n0_ n1_; (try clear hb); (try clear hb2); (try clear hk); (try clear hi); (try clear ho0); obtain ⟨Ao8, co8, eo8⟩ := Kd.R_slice HO104.out; subst eo8) | ((with_reducible refine gate_callee (f := 66) rfl ?_); refine goesL_ (some 10) rfl rfl Try.func66 (by kernel_rfl) rfl #[.slice Ao8 t102.length co8] rfl (by (try simp only [List.map_toArray, List.map_cons, List.map_nil]); first | done | rfl | (simp only [List.length_drop, List.length_take]; rfl)) ?_; (with_reducible refine (slices_Sort_int_int.calls (fun k_ => some k_ = (.slice Ao8 t102.length co8 : Value).ownBlock) (.slice Ao8 t102.length co8) t102 t105 w _ ?side1 ?side2 A5.out).mono ?_); (case side1 => repeat (first | (with_reducible first | exact HB.out | apply below_alloc | apply pw_below_drewN | apply below_drew1) | exact HB.out)); (case side2 => exact Kd.R_tight rfl HO104.out); rintro e w9 ⟨rfl, hy0, hb, hkp⟩; refine ⟨_, rfl, ?_⟩; have n0_ := Aside0.mk (Kd.R_reok rfl hy0 (fun k_ e_ => HO104.out.1 k_ e_)); have n1_ := Aside0.mk (hb); clear HO104; clear HB; have HO104 := n0_; have HB := n1_; clear n0_ n1_; (try clear hb); (try clear hkp); (try clear hy0)))
  go_ret
  exact ⟨_, by first | rfl | (simp [errW_none, errW_some] <;> rfl) | (simp [*, errW_none, errW_some] <;> rfl), by (with_reducible repeat (first | apply Kd.R_alloc | apply Kd.R_drewN | apply Kd.R_drew)); exact HO104.out, by repeat (first | (with_reducible first | exact HB.out | apply below_alloc | apply pw_below_drewN | apply below_drew1) | exact HB.out)⟩
 ·replace c3 := Bool.eq_false_iff.mpr c3
  subst c3
  have H1 : (some ([] : List Int)) = some r := by rw [if_neg (show ¬ (false = true) by decide)] at H; exact H
  clear H
  have H := H1
  clear H1
  obtain rfl := Option.some.inj H
  go_enter Try.func30, Try.ntmps30
  go_wp2_with (first | ((with_reducible refine gate_callee (f := 56) rfl ?_); refine goesL_ (some 5) rfl rfl Try.func56 (by kernel_rfl) rfl #[.slice A0 l0.length c0] rfl (by (try simp only [List.map_toArray, List.map_cons, List.map_nil]); first | done | rfl | (simp only [List.length_drop, List.length_take]; rfl)) ?_; (with_reducible refine (impl_ArePoints.calls k _ _ l0 false _ ?side1 ?side2 A2.out).mono ?_); (case side1 => repeat (first | exact HR0.out | (with_reducible refine Kd.C_alloc ?_ _) | (with_reducible refine Kd.C_drewN ?_ _) | (with_reducible refine Kd.C_drew ?_))); (case side2 => exact HC0.out); rintro e w10 ⟨rfl, hb⟩; refine ⟨_, rfl, ?_⟩; have n0_ := Aside0.mk (below_step (by repeat (first | (with_reducible first | exact HB.out | apply below_alloc | apply pw_below_drewN | apply below_drew1) | exact HB.out)) hb); clear HB; have HB := n0_; clear n0_; (try clear hb); (try clear hb2); (try clear hk); (try clear hi)))
  go_ret
  exact ⟨_, by first | rfl | (simp [errW_none, errW_some] <;> rfl) | (simp [*, errW_none, errW_some] <;> rfl), by first | exact Kd.R_nil _ _ _ _ _ | exact Kd.N_nil _ _ _ _ _ | exact Kd.V_nil _ _ _ _ _ | exact Kd.Q_nil _ _ _ _ _ | exact Kd.S_nil _ _ _ _ _, by repeat (first | (with_reducible first | exact HB.out | apply below_alloc | apply pw_below_drewN | apply below_drew1) | exact HB.out)⟩

end Go.Proofs.Ytijgjpfbhbggdaa.P

