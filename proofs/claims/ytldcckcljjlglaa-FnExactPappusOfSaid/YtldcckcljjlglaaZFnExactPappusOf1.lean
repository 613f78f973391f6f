/- A part of the proof of FnExactPappusOf: printed contracts and plain laws, joined by a program of this session. -/
import Derived.Test.YtldcckcljjlglaaZFnExactPappusOf0
import Derived.Test.YtldcckcljjlglaaRows
import Derived.Test.YtldcckcljjlglaaProg
import Derived.Below
import Derived.Deep.Draws
import Derived.Deep.AppendLies
import Derived.Maps.AppendAt
import Derived.OwnWalk
import Derived.Laws.BytesArg
import Derived.Laws.MakeOwn
import Derived.Laws.OwnMore
import Derived.Deep.OwnRows
import Derived.Tactics
import Derived.Lib.ConvBytes
import Derived.Laws.Slices
import Derived.WalkKit
import Derived.KernelRfl
import Derived.RowKit3
import Derived.Deep.LoopGhost
import Derived.Deep.QuietTactic
import Derived.BigQuiet
import Derived.WideLaws
import Derived.Deep.DeepCutAuto
import Derived.Deep.CutBlock
import Derived.Deep.RegionHeld3
import Derived.Laws.Rows
import Derived.Lib.AppendStr
import Derived.ArgAppend
import Derived.Laws.IdiomCopy
import Derived.OrdersHeld
import Derived.Laws.BitsLemmas
import Derived.RowKit
import Derived.Shelf.Abstract
import Derived.Test.YtldcckcljjlglaaWWords
import Derived.Test.YtldcckcljjlglaaWLast
import Derived.Test.YtldcckcljjlglaaWTab
import Derived.Test.YtldcckcljjlglaaWQPut
import Derived.Test.YtldcckcljjlglaaWApart
import Derived.Test.YtldcckcljjlglaaWArr
import Derived.Test.YtldcckcljjlglaaWZeros
import Derived.Test.YtldcckcljjlglaaWFoot
import Derived.Test.YtldcckcljjlglaaWKept
import Derived.Test.YtldcckcljjlglaaWShare
import Derived.Test.YtldcckcljjlglaaWN
import Derived.Test.YtldcckcljjlglaaWEqStruct
import Derived.Test.YtldcckcljjlglaaWRepsOne
import Derived.Test.YtldcckcljjlglaaWNEv
import Derived.Test.YtldcckcljjlglaaWMore
import Derived.Deep.Slices
import Derived.ChangeOld
import Derived.Carry
import Derived.ProofKit
import Derived.OpenShut
import Derived.ShutString
import Derived.SizedLaws
namespace Go.Proofs.Ytldcckcljjlglaa.P
open Go.RowKit Go.Proofs.YtldcckcljjlglaaW.PrintWords Go.Proofs.YtldcckcljjlglaaW.PrintLast Go.Proofs.YtldcckcljjlglaaW.PrintMore
attribute [local go_sem] max2_int min2_int max_two min_two max_three min_three max_four min_four   -- for this text's walks alone
set_option linter.unusedVariables false
set_option linter.unusedSimpArgs false

attribute [local go_sem high] eqA80
/-! ### spec_l26Six: function 122 -/
mutual
def spec_l26Six.l0 : Nat → List (S80) → List (S72) → Int → Option ((List (S72)) × Bool)
 | 0, _, _, _ => none
 | k + 1, x0, x4, x5 => if x5 < (x0.length : Int) then (if 0 ≤ x5 then ((spec_l2Fits.f ((rd_T80 x0 x5).f0) ((rd_T80 x0 x5).f1) 20).bind fun t105 => (if t105 = true then (spec_l26Six.l1 k x0 x4 x5 0) else (some ((([] : List (S72))), false)))) else (none)) else (some (x4, ((x4.length : Int) == 6)))
def spec_l26Six.l1 : Nat → List (S80) → List (S72) → Int → Int → Option ((List (S72)) × Bool)
 | 0, _, _, _, _ => none
 | k + 1, x0, x4, x5, x6 => if x6 < x5 then (if 0 ≤ x6 then (if x6 < (x0.length : Int) then (if 0 ≤ x5 then (if x5 < (x0.length : Int) then (if (((rd_T80 x0 x6).f0) == ((rd_T80 x0 x5).f0) && (((rd_T80 x0 x6).f1) == ((rd_T80 x0 x5).f1))) = true then (some ((([] : List (S72))), false)) else (spec_l26Six.l1 k x0 x4 x5 (wrap64 (x6 + 1)))) else (none)) else (none)) else (none)) else (none)) else (if 0 ≤ x5 then (if x5 < (x0.length : Int) then ((spec_TripleOf.f ((rd_T80 x0 x5).f0) ((rd_T80 x0 x5).f1)).bind fun bt115 => (if x4.length < 5864062014805 then (spec_l26Six.l0 k x0 (x4 ++ [(⟨bt115.1, bt115.2.1, bt115.2.2⟩ : S72)]) (wrap64 (x5 + 1))) else (none))) else (none)) else (none))
end
def spec_l26Six.f (k : Nat) (l0 : List (S80)) : Option ((List (S72)) × Bool) := spec_l26Six.l0 k l0 (([] : List (S72))) 0
theorem spec_l26Six.mono_l : ∀ k, (∀ y0 y1 y2, LeO (spec_l26Six.l0 k y0 y1 y2) (spec_l26Six.l0 (k + 1) y0 y1 y2)) ∧ (∀ y0 y1 y2 y3, LeO (spec_l26Six.l1 k y0 y1 y2 y3) (spec_l26Six.l1 (k + 1) y0 y1 y2 y3))
 | 0 => ⟨fun _ _ _ r h => by simp [spec_l26Six.l0] at h, fun _ _ _ _ r h => by simp [spec_l26Six.l1] at h⟩
 | k + 1 => by
  obtain ⟨ih0, ih1⟩ := spec_l26Six.mono_l k
  refine ⟨?_, ?_⟩
  ·intro y0 y1 y2
   unfold spec_l26Six.l0
   repeat' first
   | (with_reducible exact ih0 _ _ _)
   | (with_reducible exact ih1 _ _ _ _)
   | (with_reducible exact LeO.refl _)
   | (with_reducible exact LeO.none _)
   | (with_reducible refine LeO.ite ?_ ?_)
   | (with_reducible refine LeO.bind ?_ (fun _ => ?_))
   | exact ih0 _ _ _
   | exact ih1 _ _ _ _
   | exact LeO.none _
   | refine LeO.ite ?_ ?_
   | refine LeO.bind ?_ (fun _ => ?_)
  ·intro y0 y1 y2 y3
   unfold spec_l26Six.l1
   repeat' first
   | (with_reducible exact ih0 _ _ _)
   | (with_reducible exact ih1 _ _ _ _)
   | (with_reducible exact LeO.refl _)
   | (with_reducible exact LeO.none _)
   | (with_reducible refine LeO.ite ?_ ?_)
   | (with_reducible refine LeO.bind ?_ (fun _ => ?_))
   | exact ih0 _ _ _
   | exact ih1 _ _ _ _
   | exact LeO.none _
   | refine LeO.ite ?_ ?_
   | refine LeO.bind ?_ (fun _ => ?_)
theorem spec_l26Six.mono : ∀ a0 k, LeO (spec_l26Six.f k a0) (spec_l26Six.f (k + 1) a0) := by
 intro a0 k
 obtain ⟨ih0, ih1⟩ := spec_l26Six.mono_l k
 unfold spec_l26Six.f
 repeat' first
   | (with_reducible exact ih0 _ _ _)
   | (with_reducible exact ih1 _ _ _ _)
   | (with_reducible exact LeO.refl _)
   | (with_reducible exact LeO.none _)
   | (with_reducible refine LeO.ite ?_ ?_)
   | (with_reducible refine LeO.bind ?_ (fun _ => ?_))
   | exact ih0 _ _ _
   | exact ih1 _ _ _ _
   | exact LeO.none _
   | refine LeO.ite ?_ ?_
   | refine LeO.bind ?_ (fun _ => ?_)
set_option maxHeartbeats 8000000 in
set_option maxRecDepth 100000 in
theorem spec_l26Six.calls (k : Nat) (A0 : Option Addr) (c0 : Nat) (l0 : List (S80)) (r1 : List (S72)) (r2 : Bool) (w : World) (hr0 : Kd.C k80 w A0 l0.length l0) (hc0 : l0.length ≤ c0) (h : spec_l26Six.f k l0 = some (r1, r2)) :
  Calls Try.prog 122 #[.slice A0 l0.length c0] w fun e w' => ∃ v0_ : Value, e = .returned (.tuple #[v0_, .bool r2]) ∧ Kd.R k72 72 w' w.heap.size (fun _ => True) v0_ r1 ∧ Below w.heap.size w w' := by
 have hu80 := Try.underlying80
 have HR0 := Aside0.mk hr0
 have HC0 := Aside0.mk hc0
 clear hr0 hc0
 have HB := Aside0.mk (Below.refl w.heap.size w)
 have H : (spec_l26Six.l0 k l0 (([] : List (S72))) 0) = some (r1, r2) := h
 clear h
 obtain ⟨y101, hy101⟩ : ∃ y_ : List (S72), y_ = (([] : List (S72))) := ⟨_, rfl⟩
 replace H : (spec_l26Six.l0 k l0 y101 0) = some (r1, r2) := by first | (rw [hy101]; with_reducible exact H) | (have H2_ := (Option.bind_some _ _).symm.trans H; rw [hy101]; with_reducible exact H2_) | (have H2_ := (Option.bind_some _ _).symm.trans H; with_reducible exact H2_) | with_reducible exact H | (rw [hy101]; exact H) | exact H
 have Ny101 := Aside0.mk hy101
 clear hy101
 have H' := Aside0.mk H
 clear H
 go_enter Try.func122, Try.ntmps122
 go_wp2_with (first | ((with_reducible refine gate_dst (N := 7) rfl ?_); refine Kd.R_lit k72 _ 72 ?hg (N := 7) ?hd (xs := ([] : List (S72))) (inner := []) (ok := fun _ => True) (okp := fun _ => True) ?hr ?hp (fun _ hk => hk) trivial (Below.refl _ _) (Nat.le_refl _) (by simp) ?_; (case hd => rfl); (case hg => rfl); (case hr => first | (go_simp; done) | (go_simp; rfl)); (case hp => exact (Reps.none _ _)); intro v102 w2 ho3 hb hg_ hnew_; clear hg_ hnew_; (first | rw [← Ny101.out] at ho3 | (simp only [Int.reduceToNat] at ho3; rw [← Ny101.out] at ho3)); have n0_ := Aside0.mk (Kd.R_lower ho3 (below_size (by repeat (first | (with_reducible first | exact HB.out | apply below_alloc | apply pw_below_drewN | apply below_drew1) | exact HB.out)))); have n1_ := Aside0.mk (below_step (by repeat (first | (with_reducible first | exact HB.out | apply below_alloc | apply pw_below_drewN | apply below_drew1) | exact HB.out)) hb); clear HB; have HO103 := n0_; have HB := n1_; clear n0_ n1_; clear hb ho3))
 repeat (go_quiet (first | ((with_reducible refine gate_dst (N := 7) rfl ?_); refine Kd.R_lit k72 _ 72 ?hg (N := 7) ?hd (xs := ([] : List (S72))) (inner := []) (ok := fun _ => True) (okp := fun _ => True) ?hr ?hp (fun _ hk => hk) trivial (Below.refl _ _) (Nat.le_refl _) (by simp) ?_; (case hd => rfl); (case hg => rfl); (case hr => first | (go_simp; done) | (go_simp; rfl)); (case hp => exact (Reps.none _ _)); intro v102 w2 ho3 hb hg_ hnew_; clear hg_ hnew_; (first | rw [← Ny101.out] at ho3 | (simp only [Int.reduceToNat] at ho3; rw [← Ny101.out] at ho3)); have n0_ := Aside0.mk (Kd.R_lower ho3 (below_size (by repeat (first | (with_reducible first | exact HB.out | apply below_alloc | apply pw_below_drewN | apply below_drew1) | exact HB.out)))); have n1_ := Aside0.mk (below_step (by repeat (first | (with_reducible first | exact HB.out | apply below_alloc | apply pw_below_drewN | apply below_drew1) | exact HB.out)) hb); clear HB; have HO103 := n0_; have HB := n1_; clear n0_ n1_; clear hb ho3)); try go_wp2_with (first | ((with_reducible refine gate_dst (N := 7) rfl ?_); refine Kd.R_lit k72 _ 72 ?hg (N := 7) ?hd (xs := ([] : List (S72))) (inner := []) (ok := fun _ => True) (okp := fun _ => True) ?hr ?hp (fun _ hk => hk) trivial (Below.refl _ _) (Nat.le_refl _) (by simp) ?_; (case hd => rfl); (case hg => rfl); (case hr => first | (go_simp; done) | (go_simp; rfl)); (case hp => exact (Reps.none _ _)); intro v102 w2 ho3 hb hg_ hnew_; clear hg_ hnew_; (first | rw [← Ny101.out] at ho3 | (simp only [Int.reduceToNat] at ho3; rw [← Ny101.out] at ho3)); have n0_ := Aside0.mk (Kd.R_lower ho3 (below_size (by repeat (first | (with_reducible first | exact HB.out | apply below_alloc | apply pw_below_drewN | apply below_drew1) | exact HB.out)))); have n1_ := Aside0.mk (below_step (by repeat (first | (with_reducible first | exact HB.out | apply below_alloc | apply pw_below_drewN | apply below_drew1) | exact HB.out)) hb); clear HB; have HO103 := n0_; have HB := n1_; clear n0_ n1_; clear hb ho3)))
 go_loopg [4, 5] k (fun kq v4 v5 w' => ∃ (x4_1 : List (S72)) (x5_1 : Int), v5 = .int .i64 x5_1 ∧ Aside0 (spec_l26Six.l0 kq l0 x4_1 x5_1 = some (r1, r2)) ∧ Aside0 (kq ≤ k) ∧ Aside0 (Kd.R k72 72 w' w.heap.size (fun _ => True) v4 x4_1) ∧ Aside0 (Below w.heap.size w w'))
 case atStart => exact ⟨(y101), (0), (by first | rfl | (simp; done) | (simp [*]; done)), H', ⟨Nat.le_refl _⟩, ⟨by (with_reducible repeat (first | apply Kd.R_alloc | apply Kd.R_drewN | apply Kd.R_drew)); exact HO103.out⟩, ⟨by repeat (first | (with_reducible first | exact HB.out | apply below_alloc | apply pw_below_drewN | apply below_drew1) | exact HB.out)⟩⟩
 case round =>
  clear H'
  try clear c1
  try clear p2
  obtain ⟨x4_1, x5_1, rfl, HA, HK1, HO_4, HB⟩ := hrel
  cases gk with
  | zero => exact absurd HA.out (by simp [spec_l26Six.l0])
  | succ k1 =>
   have H := HA.out
   clear HA
   simp only [spec_l26Six.l0] at H
   by_cases c4 : x5_1 < (l0.length : Int)
   ·rw [if_pos c4] at H
    have c4b0 : decide (x5_1 < (l0.length : Int)) = true := decide_eq_true c4
    clear c4
    by_cases c5 : 0 ≤ x5_1
    ·rw [if_pos c5] at H
     have c5b0 : decide (0 ≤ x5_1) = true := decide_eq_true c5
     clear c5
     replace H := Option.bind_eq_some_iff.mp H
     obtain ⟨t105, A60, H⟩ := H
     replace H : (if t105 = true then (spec_l26Six.l1 k1 l0 x4_1 x5_1 0) else (some ((([] : List (S72))), false))) = some (r1, r2) := H
     have A6 := Aside0.mk A60
     clear A60
     by_cases c7 : t105 = true
     ·subst c7
      have H1 : (spec_l26Six.l1 k1 l0 x4_1 x5_1 0) = some (r1, r2) := by rw [if_pos rfl] at H; exact H
      clear H
      have H := H1
      clear H1
      have H' := Aside0.mk H
      clear H
      have p104 : 0 ≤ (x5_1 : Int) := of_decide_eq_true (by first | (with_reducible assumption) | assumption)
      have q104 : x5_1 < (l0.length : Int) := of_decide_eq_true (by first | (with_reducible assumption) | assumption)
      obtain ⟨ad104, e104, hx104_0, hx104_1⟩ := at_T80 HR0.out x5_1 p104 q104
      cases e104
      replace hx104_0 := (HB.out.cell (World.block_lt_of_cell? w _ hx104_0)).trans hx104_0
      replace hx104_1 := (HB.out.cell (World.block_lt_of_cell? w _ hx104_1)).trans hx104_1
      replace p104 := eq_true p104
      replace q104 := eq_true q104
      go_wp2_with (first | (go_at_call 148; (with_reducible refine (spec_l2Fits.calls ((rd_T80 l0 x5_1).f0) ((rd_T80 l0 x5_1).f1) 20 true _ A6.out).mono ?_); rintro e w8 ⟨rfl, hb⟩; have n0_ := Aside0.mk (Kd.R_below (by (with_reducible repeat (first | apply Kd.R_alloc | apply Kd.R_drewN | apply Kd.R_drew)); exact HO_4.out) hb); have n1_ := Aside0.mk (below_step (by repeat (first | (with_reducible first | exact HB.out | apply below_alloc | apply pw_below_drewN | apply below_drew1) | exact HB.out)) hb); clear HO_4; clear HB; have HO_4 := n0_; have HB := n1_; clear n0_ n1_; (try clear hb); (try clear hb2); (try clear hk); (try clear hi)))
      repeat (go_quiet (first | (go_at_call 148; (with_reducible refine (spec_l2Fits.calls ((rd_T80 l0 x5_1).f0) ((rd_T80 l0 x5_1).f1) 20 true _ A6.out).mono ?_); rintro e w8 ⟨rfl, hb⟩; have n0_ := Aside0.mk (Kd.R_below (by (with_reducible repeat (first | apply Kd.R_alloc | apply Kd.R_drewN | apply Kd.R_drew)); exact HO_4.out) hb); have n1_ := Aside0.mk (below_step (by repeat (first | (with_reducible first | exact HB.out | apply below_alloc | apply pw_below_drewN | apply below_drew1) | exact HB.out)) hb); clear HO_4; clear HB; have HO_4 := n0_; have HB := n1_; clear n0_ n1_; (try clear hb); (try clear hb2); (try clear hk); (try clear hi))); try go_wp2_with (first | (go_at_call 148; (with_reducible refine (spec_l2Fits.calls ((rd_T80 l0 x5_1).f0) ((rd_T80 l0 x5_1).f1) 20 true _ A6.out).mono ?_); rintro e w8 ⟨rfl, hb⟩; have n0_ := Aside0.mk (Kd.R_below (by (with_reducible repeat (first | apply Kd.R_alloc | apply Kd.R_drewN | apply Kd.R_drew)); exact HO_4.out) hb); have n1_ := Aside0.mk (below_step (by repeat (first | (with_reducible first | exact HB.out | apply below_alloc | apply pw_below_drewN | apply below_drew1) | exact HB.out)) hb); clear HO_4; clear HB; have HO_4 := n0_; have HB := n1_; clear n0_ n1_; (try clear hb); (try clear hb2); (try clear hk); (try clear hi))))
      go_loopg [6] k1 (fun kq v6 w' => ∃ (x6_2 : Int), v6 = .int .i64 x6_2 ∧ Aside0 (spec_l26Six.l1 kq l0 x4_1 x5_1 x6_2 = some (r1, r2)) ∧ Aside0 (kq ≤ k1) ∧ Aside0 (Kd.R k72 72 w' w.heap.size (fun _ => True) u4 x4_1) ∧ Aside0 (Below w.heap.size w w'))
      case atStart => exact ⟨(0), (by first | rfl | (simp; done) | (simp [*]; done)), H', ⟨Nat.le_refl _⟩, ⟨by (with_reducible repeat (first | apply Kd.R_alloc | apply Kd.R_drewN | apply Kd.R_drew)); exact HO_4.out⟩, ⟨by repeat (first | (with_reducible first | exact HB.out | apply below_alloc | apply pw_below_drewN | apply below_drew1) | exact HB.out)⟩⟩
      case round =>
       clear H'
       try clear c1
       try clear p1
       try clear q1
       try clear hx1
       try clear p2
       try clear c4
       try clear c4b0
       try clear c5
       try clear c5b0
       try clear c7
       try clear hx104_0
       try clear hx104_1
       try clear p104
       try clear p2
       try clear q104
       obtain ⟨x6_2, rfl, HA, HK2, HO_4, HB⟩ := hrel
       cases gk with
       | zero => exact absurd HA.out (by simp [spec_l26Six.l1])
       | succ k2 =>
        have H := HA.out
        clear HA
        simp only [spec_l26Six.l1] at H
        by_cases c9 : x6_2 < x5_1
        ·rw [if_pos c9] at H
         have c9b0 : decide (x6_2 < x5_1) = true := decide_eq_true c9
         clear c9
         by_cases c10 : 0 ≤ x6_2
         ·rw [if_pos c10] at H
          have c10b0 : decide (0 ≤ x6_2) = true := decide_eq_true c10
          clear c10
          by_cases c11 : x6_2 < (l0.length : Int)
          ·rw [if_pos c11] at H
           have c11b0 : decide (x6_2 < (l0.length : Int)) = true := decide_eq_true c11
           clear c11
           by_cases c12 : 0 ≤ x5_1
           ·rw [if_pos c12] at H
            have c12b0 : decide (0 ≤ x5_1) = true := decide_eq_true c12
            clear c12
            by_cases c13 : x5_1 < (l0.length : Int)
            ·rw [if_pos c13] at H
             have c13b0 : decide (x5_1 < (l0.length : Int)) = true := decide_eq_true c13
             clear c13
             by_cases c14 : (((rd_T80 l0 x6_2).f0) == ((rd_T80 l0 x5_1).f0) && (((rd_T80 l0 x6_2).f1) == ((rd_T80 l0 x5_1).f1))) = true
             ·rw [if_pos c14] at H
              have c14b0 : (((rd_T80 l0 x6_2).f0) == ((rd_T80 l0 x5_1).f0) && (((rd_T80 l0 x6_2).f1) == ((rd_T80 l0 x5_1).f1))) = true := c14
              (try (have c14b1 : decide (((rd_T80 l0 x6_2).f0) = ((rd_T80 l0 x5_1).f0) && (((rd_T80 l0 x6_2).f1) == ((rd_T80 l0 x5_1).f1))) = true := by simpa using c14))
              (try (have c14b2 : (((rd_T80 l0 x6_2).f0) == ((rd_T80 l0 x5_1).f0) && (((rd_T80 l0 x6_2).f1) == ((rd_T80 l0 x5_1).f1))) = true := by simpa using c14))
              clear c14
              obtain ⟨y111, hy111⟩ : ∃ y_ : List (S72), y_ = (([] : List (S72))) := ⟨_, rfl⟩
              replace H : (some (y111, false)) = some (r1, r2) := by first | (rw [hy111]; with_reducible exact H) | (have H2_ := (Option.bind_some _ _).symm.trans H; rw [hy111]; with_reducible exact H2_) | (have H2_ := (Option.bind_some _ _).symm.trans H; with_reducible exact H2_) | with_reducible exact H | (rw [hy111]; exact H) | exact H
              have Ny111 := Aside0.mk hy111
              clear hy111
              simp only [Option.some.injEq, Prod.mk.injEq] at H
              obtain ⟨rfl, rfl⟩ := H
              have p109 : 0 ≤ (x6_2 : Int) := of_decide_eq_true (by first | (with_reducible assumption) | assumption)
              have q109 : x6_2 < (l0.length : Int) := of_decide_eq_true (by first | (with_reducible assumption) | assumption)
              obtain ⟨ad109, e109, hx109_0, hx109_1⟩ := at_T80 HR0.out x6_2 p109 q109
              obtain rfl : ad104 = ad109 := (by injection e109)
              replace hx109_0 := (HB.out.cell (World.block_lt_of_cell? w _ hx109_0)).trans hx109_0
              replace hx109_1 := (HB.out.cell (World.block_lt_of_cell? w _ hx109_1)).trans hx109_1
              replace p109 := eq_true p109
              replace q109 := eq_true q109
              have p110 : 0 ≤ (x5_1 : Int) := of_decide_eq_true (by first | (with_reducible assumption) | assumption)
              have q110 : x5_1 < (l0.length : Int) := of_decide_eq_true (by first | (with_reducible assumption) | assumption)
              obtain ⟨ad110, e110, hx110_0, hx110_1⟩ := at_T80 HR0.out x5_1 p110 q110
              obtain rfl : ad104 = ad110 := (by injection e110)
              replace hx110_0 := (HB.out.cell (World.block_lt_of_cell? w _ hx110_0)).trans hx110_0
              replace hx110_1 := (HB.out.cell (World.block_lt_of_cell? w _ hx110_1)).trans hx110_1
              replace p110 := eq_true p110
              replace q110 := eq_true q110
              go_wp2_with (first | ((with_reducible refine gate_dst (N := 35) rfl ?_); refine Kd.R_lit k72 _ 72 ?hg (N := 35) ?hd (xs := ([] : List (S72))) (inner := []) (ok := fun _ => True) (okp := fun _ => True) ?hr ?hp (fun _ hk => hk) trivial (Below.refl _ _) (Nat.le_refl _) (by simp) ?_; (case hd => rfl); (case hg => rfl); (case hr => first | (go_simp; done) | (go_simp; rfl)); (case hp => exact (Reps.none _ _)); intro v112 w15 ho16 hb hg_ hnew_; clear hg_ hnew_; (first | rw [← Ny111.out] at ho16 | (simp only [Int.reduceToNat] at ho16; rw [← Ny111.out] at ho16)); have n0_ := Aside0.mk (Kd.R_elder' (by (with_reducible repeat (first | apply Kd.R_alloc | apply Kd.R_drewN | apply Kd.R_drew)); exact HO_4.out) (Kd.R_base ho16) hb); have n1_ := Aside0.mk (Kd.R_lower (Kd.R_new' ho16 (Kd.R_lt (by (with_reducible repeat (first | apply Kd.R_alloc | apply Kd.R_drewN | apply Kd.R_drew)); exact HO_4.out))) (below_size (by repeat (first | (with_reducible first | exact HB.out | apply below_alloc | apply pw_below_drewN | apply below_drew1) | exact HB.out)))); have n2_ := Aside0.mk (below_step (by repeat (first | (with_reducible first | exact HB.out | apply below_alloc | apply pw_below_drewN | apply below_drew1) | exact HB.out)) hb); clear HO_4; clear HB; have HO_4 := n0_; have HO113 := n1_; have HB := n2_; clear n0_ n1_ n2_; clear hb ho16))
              repeat (go_quiet (first | ((with_reducible refine gate_dst (N := 35) rfl ?_); refine Kd.R_lit k72 _ 72 ?hg (N := 35) ?hd (xs := ([] : List (S72))) (inner := []) (ok := fun _ => True) (okp := fun _ => True) ?hr ?hp (fun _ hk => hk) trivial (Below.refl _ _) (Nat.le_refl _) (by simp) ?_; (case hd => rfl); (case hg => rfl); (case hr => first | (go_simp; done) | (go_simp; rfl)); (case hp => exact (Reps.none _ _)); intro v112 w15 ho16 hb hg_ hnew_; clear hg_ hnew_; (first | rw [← Ny111.out] at ho16 | (simp only [Int.reduceToNat] at ho16; rw [← Ny111.out] at ho16)); have n0_ := Aside0.mk (Kd.R_elder' (by (with_reducible repeat (first | apply Kd.R_alloc | apply Kd.R_drewN | apply Kd.R_drew)); exact HO_4.out) (Kd.R_base ho16) hb); have n1_ := Aside0.mk (Kd.R_lower (Kd.R_new' ho16 (Kd.R_lt (by (with_reducible repeat (first | apply Kd.R_alloc | apply Kd.R_drewN | apply Kd.R_drew)); exact HO_4.out))) (below_size (by repeat (first | (with_reducible first | exact HB.out | apply below_alloc | apply pw_below_drewN | apply below_drew1) | exact HB.out)))); have n2_ := Aside0.mk (below_step (by repeat (first | (with_reducible first | exact HB.out | apply below_alloc | apply pw_below_drewN | apply below_drew1) | exact HB.out)) hb); clear HO_4; clear HB; have HO_4 := n0_; have HO113 := n1_; have HB := n2_; clear n0_ n1_ n2_; clear hb ho16)); try go_wp2_with (first | ((with_reducible refine gate_dst (N := 35) rfl ?_); refine Kd.R_lit k72 _ 72 ?hg (N := 35) ?hd (xs := ([] : List (S72))) (inner := []) (ok := fun _ => True) (okp := fun _ => True) ?hr ?hp (fun _ hk => hk) trivial (Below.refl _ _) (Nat.le_refl _) (by simp) ?_; (case hd => rfl); (case hg => rfl); (case hr => first | (go_simp; done) | (go_simp; rfl)); (case hp => exact (Reps.none _ _)); intro v112 w15 ho16 hb hg_ hnew_; clear hg_ hnew_; (first | rw [← Ny111.out] at ho16 | (simp only [Int.reduceToNat] at ho16; rw [← Ny111.out] at ho16)); have n0_ := Aside0.mk (Kd.R_elder' (by (with_reducible repeat (first | apply Kd.R_alloc | apply Kd.R_drewN | apply Kd.R_drew)); exact HO_4.out) (Kd.R_base ho16) hb); have n1_ := Aside0.mk (Kd.R_lower (Kd.R_new' ho16 (Kd.R_lt (by (with_reducible repeat (first | apply Kd.R_alloc | apply Kd.R_drewN | apply Kd.R_drew)); exact HO_4.out))) (below_size (by repeat (first | (with_reducible first | exact HB.out | apply below_alloc | apply pw_below_drewN | apply below_drew1) | exact HB.out)))); have n2_ := Aside0.mk (below_step (by repeat (first | (with_reducible first | exact HB.out | apply below_alloc | apply pw_below_drewN | apply below_drew1) | exact HB.out)) hb); clear HO_4; clear HB; have HO_4 := n0_; have HO113 := n1_; have HB := n2_; clear n0_ n1_ n2_; clear hb ho16)))
              go_ret2
              exact ⟨_, by first | rfl | (simp [errW_none, errW_some] <;> rfl) | (simp [*, errW_none, errW_some] <;> rfl), by (with_reducible repeat (first | apply Kd.R_alloc | apply Kd.R_drewN | apply Kd.R_drew)); exact Kd.R_mono HO113.out (fun _ hk => trivial), by repeat (first | (with_reducible first | exact HB.out | apply below_alloc | apply pw_below_drewN | apply below_drew1) | exact HB.out)⟩
             ·rw [if_neg c14] at H
              have c14b0 : (((rd_T80 l0 x6_2).f0) == ((rd_T80 l0 x5_1).f0) && (((rd_T80 l0 x6_2).f1) == ((rd_T80 l0 x5_1).f1))) = false := by simpa using c14
              (try (have c14b1 : decide (((rd_T80 l0 x6_2).f0) = ((rd_T80 l0 x5_1).f0) && (((rd_T80 l0 x6_2).f1) == ((rd_T80 l0 x5_1).f1))) = false := by simpa using c14))
              (try (have c14b2 : (((rd_T80 l0 x6_2).f0) == ((rd_T80 l0 x5_1).f0) && (((rd_T80 l0 x6_2).f1) == ((rd_T80 l0 x5_1).f1))) = false := by simpa using c14))
              (try (have c14b3 : ¬ (((rd_T80 l0 x6_2).f0) = ((rd_T80 l0 x5_1).f0) && (((rd_T80 l0 x6_2).f1) == ((rd_T80 l0 x5_1).f1))) := by simpa using c14))
              clear c14
              have H' := Aside0.mk H
              clear H
              have p109 : 0 ≤ (x6_2 : Int) := of_decide_eq_true (by first | (with_reducible assumption) | assumption)
              have q109 : x6_2 < (l0.length : Int) := of_decide_eq_true (by first | (with_reducible assumption) | assumption)
              obtain ⟨ad109, e109, hx109_0, hx109_1⟩ := at_T80 HR0.out x6_2 p109 q109
              obtain rfl : ad104 = ad109 := (by injection e109)
              replace hx109_0 := (HB.out.cell (World.block_lt_of_cell? w _ hx109_0)).trans hx109_0
              replace hx109_1 := (HB.out.cell (World.block_lt_of_cell? w _ hx109_1)).trans hx109_1
              replace p109 := eq_true p109
              replace q109 := eq_true q109
              have p110 : 0 ≤ (x5_1 : Int) := of_decide_eq_true (by first | (with_reducible assumption) | assumption)
              have q110 : x5_1 < (l0.length : Int) := of_decide_eq_true (by first | (with_reducible assumption) | assumption)
              obtain ⟨ad110, e110, hx110_0, hx110_1⟩ := at_T80 HR0.out x5_1 p110 q110
              obtain rfl : ad104 = ad110 := (by injection e110)
              replace hx110_0 := (HB.out.cell (World.block_lt_of_cell? w _ hx110_0)).trans hx110_0
              replace hx110_1 := (HB.out.cell (World.block_lt_of_cell? w _ hx110_1)).trans hx110_1
              replace p110 := eq_true p110
              replace q110 := eq_true q110
              go_wp2
              repeat (go_quiet (fail); try go_wp2)
              go_roundg k2
              case measure => have := HK1.out; have := HK2.out; omega
              case rel => exact ⟨(wrap64 (x6_2 + 1)), (by first | rfl | (simp; done) | (simp [*]; done)), H', ⟨by have := HK1.out; have := HK2.out; omega⟩, ⟨by (with_reducible repeat (first | apply Kd.R_alloc | apply Kd.R_drewN | apply Kd.R_drew)); exact HO_4.out⟩, ⟨by repeat (first | (with_reducible first | exact HB.out | apply below_alloc | apply pw_below_drewN | apply below_drew1) | exact HB.out)⟩⟩
            ·rw [if_neg c13] at H
             exact absurd H (by simp)
           ·rw [if_neg c12] at H
            exact absurd H (by simp)
          ·rw [if_neg c11] at H
           exact absurd H (by simp)
         ·rw [if_neg c10] at H
          exact absurd H (by simp)
        ·rw [if_neg c9] at H
         have c9b0 : decide (x6_2 < x5_1) = false := decide_eq_false c9
         clear c9
         by_cases c17 : 0 ≤ x5_1
         ·rw [if_pos c17] at H
          have c17b0 : decide (0 ≤ x5_1) = true := decide_eq_true c17
          clear c17
          by_cases c18 : x5_1 < (l0.length : Int)
          ·rw [if_pos c18] at H
           have c18b0 : decide (x5_1 < (l0.length : Int)) = true := decide_eq_true c18
           clear c18
           replace H := Option.bind_eq_some_iff.mp H
           obtain ⟨⟨t115, t116, t117⟩, A190, H⟩ := H
           replace H : (if x4_1.length < 5864062014805 then (spec_l26Six.l0 k2 l0 (x4_1 ++ [(⟨t115, t116, t117⟩ : S72)]) (wrap64 (x5_1 + 1))) else (none)) = some (r1, r2) := H
           have A19 := Aside0.mk A190
           clear A190
           by_cases c20 : x4_1.length < 5864062014805
           ·rw [if_pos c20] at H
            have LMc20 := Aside0.mk c20
            clear c20
            obtain ⟨y118, hy118⟩ : ∃ y_ : List (S72), y_ = (x4_1 ++ [(⟨t115, t116, t117⟩ : S72)]) := ⟨_, rfl⟩
            replace H : (spec_l26Six.l0 k2 l0 y118 (wrap64 (x5_1 + 1))) = some (r1, r2) := by first | (rw [hy118]; with_reducible exact H) | (have H2_ := (Option.bind_some _ _).symm.trans H; rw [hy118]; with_reducible exact H2_) | (have H2_ := (Option.bind_some _ _).symm.trans H; with_reducible exact H2_) | with_reducible exact H | (rw [hy118]; exact H) | exact H
            have Ny118 := Aside0.mk hy118
            clear hy118
            have H' := Aside0.mk H
            clear H
            have p114 : 0 ≤ (x5_1 : Int) := of_decide_eq_true (by first | (with_reducible assumption) | assumption)
            have q114 : x5_1 < (l0.length : Int) := of_decide_eq_true (by first | (with_reducible assumption) | assumption)
            obtain ⟨ad114, e114, hx114_0, hx114_1⟩ := at_T80 HR0.out x5_1 p114 q114
            obtain rfl : ad104 = ad114 := (by injection e114)
            replace hx114_0 := (HB.out.cell (World.block_lt_of_cell? w _ hx114_0)).trans hx114_0
            replace hx114_1 := (HB.out.cell (World.block_lt_of_cell? w _ hx114_1)).trans hx114_1
            replace p114 := eq_true p114
            replace q114 := eq_true q114
            go_wp2_with (first | (go_at_call 87; (with_reducible refine (spec_TripleOf.calls ((rd_T80 l0 x5_1).f0) ((rd_T80 l0 x5_1).f1) t115 t116 t117 _ A19.out).mono ?_); rintro e w21 ⟨rfl, hb⟩; have n0_ := Aside0.mk (Kd.R_below (by (with_reducible repeat (first | apply Kd.R_alloc | apply Kd.R_drewN | apply Kd.R_drew)); exact HO_4.out) hb); have n1_ := Aside0.mk (below_step (by repeat (first | (with_reducible first | exact HB.out | apply below_alloc | apply pw_below_drewN | apply below_drew1) | exact HB.out)) hb); clear HO_4; clear HB; have HO_4 := n0_; have HB := n1_; clear n0_ n1_; (try clear hb); (try clear hb2); (try clear hk); (try clear hi)) | ((with_reducible refine gate_builtin (b := .append) (xs := #[.tmp 36, .tmp 42]) rfl ?_); at_builtin; refine Kd.R_append k72 (w0 := w) w.heap.size rfl (.tmp 36) (.tmp 42) 65 72 (.agg #[(.int .i64 0), (.int .i64 0), (.int .i64 0)]) 24 rfl Try.underlying65 info72 rfl (by decide) (by omega) u4 x4_1 (⟨t115, t116, t117⟩ : S72) [.int .i64 t115, .int .i64 t116, .int .i64 t117] (fun _ => True) (fun _ => False) rfl rfl ?aP (fun _ hk => hk.elim) ?aF ?aO ?aB ?aS ?aL ?_; (case aP => exact k72_mkM _ _ _ (⟨t115, t116, t117⟩ : S72)); (case aB => exact (by repeat (first | (with_reducible first | exact HB.out | apply below_alloc | apply pw_below_drewN | apply below_drew1) | exact HB.out))); (case aF => exact (fun _ _ => trivial)); (case aO => exact (by (with_reducible repeat (first | apply Kd.R_alloc | apply Kd.R_drewN | apply Kd.R_drew)); exact HO_4.out)); (case aS => exact (below_size (by repeat (first | (with_reducible first | exact HB.out | apply below_alloc | apply pw_below_drewN | apply below_drew1) | exact HB.out)))); (case aL => have := LMc20.out; omega); intro v119 w22 ho hb hg hat; rw [← Ny118.out] at ho; have n0_ := Aside0.mk (hb); have n1_ := Aside0.mk (ho); clear HB; clear HO_4; have HB := n0_; have HO120 := n1_; clear n0_ n1_; clear ho hb hg hat))
            repeat (go_quiet (first | (go_at_call 87; (with_reducible refine (spec_TripleOf.calls ((rd_T80 l0 x5_1).f0) ((rd_T80 l0 x5_1).f1) t115 t116 t117 _ A19.out).mono ?_); rintro e w21 ⟨rfl, hb⟩; have n0_ := Aside0.mk (Kd.R_below (by (with_reducible repeat (first | apply Kd.R_alloc | apply Kd.R_drewN | apply Kd.R_drew)); exact HO_4.out) hb); have n1_ := Aside0.mk (below_step (by repeat (first | (with_reducible first | exact HB.out | apply below_alloc | apply pw_below_drewN | apply below_drew1) | exact HB.out)) hb); clear HO_4; clear HB; have HO_4 := n0_; have HB := n1_; clear n0_ n1_; (try clear hb); (try clear hb2); (try clear hk); (try clear hi)) | ((with_reducible refine gate_builtin (b := .append) (xs := #[.tmp 36, .tmp 42]) rfl ?_); at_builtin; refine Kd.R_append k72 (w0 := w) w.heap.size rfl (.tmp 36) (.tmp 42) 65 72 (.agg #[(.int .i64 0), (.int .i64 0), (.int .i64 0)]) 24 rfl Try.underlying65 info72 rfl (by decide) (by omega) u4 x4_1 (⟨t115, t116, t117⟩ : S72) [.int .i64 t115, .int .i64 t116, .int .i64 t117] (fun _ => True) (fun _ => False) rfl rfl ?aP (fun _ hk => hk.elim) ?aF ?aO ?aB ?aS ?aL ?_; (case aP => exact k72_mkM _ _ _ (⟨t115, t116, t117⟩ : S72)); (case aB => exact (by repeat (first | (with_reducible first | exact HB.out | apply below_alloc | apply pw_below_drewN | apply below_drew1) | exact HB.out))); (case aF => exact (fun _ _ => trivial)); (case aO => exact (by (with_reducible repeat (first | apply Kd.R_alloc | apply Kd.R_drewN | apply Kd.R_drew)); exact HO_4.out)); (case aS => exact (below_size (by repeat (first | (with_reducible first | exact HB.out | apply below_alloc | apply pw_below_drewN | apply below_drew1) | exact HB.out)))); (case aL => have := LMc20.out; omega); intro v119 w22 ho hb hg hat; rw [← Ny118.out] at ho; have n0_ := Aside0.mk (hb); have n1_ := Aside0.mk (ho); clear HB; clear HO_4; have HB := n0_; have HO120 := n1_; clear n0_ n1_; clear ho hb hg hat)); try go_wp2_with (first | (go_at_call 87; (with_reducible refine (spec_TripleOf.calls ((rd_T80 l0 x5_1).f0) ((rd_T80 l0 x5_1).f1) t115 t116 t117 _ A19.out).mono ?_); rintro e w21 ⟨rfl, hb⟩; have n0_ := Aside0.mk (Kd.R_below (by (with_reducible repeat (first | apply Kd.R_alloc | apply Kd.R_drewN | apply Kd.R_drew)); exact HO_4.out) hb); have n1_ := Aside0.mk (below_step (by repeat (first | (with_reducible first | exact HB.out | apply below_alloc | apply pw_below_drewN | apply below_drew1) | exact HB.out)) hb); clear HO_4; clear HB; have HO_4 := n0_; have HB := n1_; clear n0_ n1_; (try clear hb); (try clear hb2); (try clear hk); (try clear hi)) | ((with_reducible refine gate_builtin (b := .append) (xs := #[.tmp 36, .tmp 42]) rfl ?_); at_builtin; refine Kd.R_append k72 (w0 := w) w.heap.size rfl (.tmp 36) (.tmp 42) 65 72 (.agg #[(.int .i64 0), (.int .i64 0), (.int .i64 0)]) 24 rfl Try.underlying65 info72 rfl (by decide) (by omega) u4 x4_1 (⟨t115, t116, t117⟩ : S72) [.int .i64 t115, .int .i64 t116, .int .i64 t117] (fun _ => True) (fun _ => False) rfl rfl ?aP (fun _ hk => hk.elim) ?aF ?aO ?aB ?aS ?aL ?_; (case aP => exact k72_mkM _ _ _ (⟨t115, t116, t117⟩ : S72)); (case aB => exact (by repeat (first | (with_reducible first | exact HB.out | apply below_alloc | apply pw_below_drewN | apply below_drew1) | exact HB.out))); (case aF => exact (fun _ _ => trivial)); (case aO => exact (by (with_reducible repeat (first | apply Kd.R_alloc | apply Kd.R_drewN | apply Kd.R_drew)); exact HO_4.out)); (case aS => exact (below_size (by repeat (first | (with_reducible first | exact HB.out | apply below_alloc | apply pw_below_drewN | apply below_drew1) | exact HB.out)))); (case aL => have := LMc20.out; omega); intro v119 w22 ho hb hg hat; rw [← Ny118.out] at ho; have n0_ := Aside0.mk (hb); have n1_ := Aside0.mk (ho); clear HB; clear HO_4; have HB := n0_; have HO120 := n1_; clear n0_ n1_; clear ho hb hg hat)))
            go_roundg k2
            case measure => have := HK1.out; have := HK2.out; omega
            case rel => exact ⟨(y118), (wrap64 (x5_1 + 1)), (by first | rfl | (simp; done) | (simp [*]; done)), H', ⟨by have := HK1.out; have := HK2.out; omega⟩, ⟨by (with_reducible repeat (first | apply Kd.R_alloc | apply Kd.R_drewN | apply Kd.R_drew)); exact HO120.out⟩, ⟨by repeat (first | (with_reducible first | exact HB.out | apply below_alloc | apply pw_below_drewN | apply below_drew1) | exact HB.out)⟩⟩
           ·rw [if_neg c20] at H
            exact absurd H (by simp)
          ·rw [if_neg c18] at H
           exact absurd H (by simp)
         ·rw [if_neg c17] at H
          exact absurd H (by simp)
     ·replace c7 := Bool.eq_false_iff.mpr c7
      subst c7
      have H1 : (some ((([] : List (S72))), false)) = some (r1, r2) := by rw [if_neg (show ¬ (false = true) by decide)] at H; exact H
      clear H
      have H := H1
      clear H1
      obtain ⟨y106, hy106⟩ : ∃ y_ : List (S72), y_ = (([] : List (S72))) := ⟨_, rfl⟩
      replace H : (some (y106, false)) = some (r1, r2) := by first | (rw [hy106]; with_reducible exact H) | (have H2_ := (Option.bind_some _ _).symm.trans H; rw [hy106]; with_reducible exact H2_) | (have H2_ := (Option.bind_some _ _).symm.trans H; with_reducible exact H2_) | with_reducible exact H | (rw [hy106]; exact H) | exact H
      have Ny106 := Aside0.mk hy106
      clear hy106
      simp only [Option.some.injEq, Prod.mk.injEq] at H
      obtain ⟨rfl, rfl⟩ := H
      have p104 : 0 ≤ (x5_1 : Int) := of_decide_eq_true (by first | (with_reducible assumption) | assumption)
      have q104 : x5_1 < (l0.length : Int) := of_decide_eq_true (by first | (with_reducible assumption) | assumption)
      obtain ⟨ad104, e104, hx104_0, hx104_1⟩ := at_T80 HR0.out x5_1 p104 q104
      cases e104
      replace hx104_0 := (HB.out.cell (World.block_lt_of_cell? w _ hx104_0)).trans hx104_0
      replace hx104_1 := (HB.out.cell (World.block_lt_of_cell? w _ hx104_1)).trans hx104_1
      replace p104 := eq_true p104
      replace q104 := eq_true q104
      go_wp2_with (first | (go_at_call 148; (with_reducible refine (spec_l2Fits.calls ((rd_T80 l0 x5_1).f0) ((rd_T80 l0 x5_1).f1) 20 false _ A6.out).mono ?_); rintro e w23 ⟨rfl, hb⟩; have n0_ := Aside0.mk (Kd.R_below (by (with_reducible repeat (first | apply Kd.R_alloc | apply Kd.R_drewN | apply Kd.R_drew)); exact HO_4.out) hb); have n1_ := Aside0.mk (below_step (by repeat (first | (with_reducible first | exact HB.out | apply below_alloc | apply pw_below_drewN | apply below_drew1) | exact HB.out)) hb); clear HO_4; clear HB; have HO_4 := n0_; have HB := n1_; clear n0_ n1_; (try clear hb); (try clear hb2); (try clear hk); (try clear hi)) | ((with_reducible refine gate_dst (N := 20) rfl ?_); refine Kd.R_lit k72 _ 72 ?hg (N := 20) ?hd (xs := ([] : List (S72))) (inner := []) (ok := fun _ => True) (okp := fun _ => True) ?hr ?hp (fun _ hk => hk) trivial (Below.refl _ _) (Nat.le_refl _) (by simp) ?_; (case hd => rfl); (case hg => rfl); (case hr => first | (go_simp; done) | (go_simp; rfl)); (case hp => exact (Reps.none _ _)); intro v107 w24 ho25 hb hg_ hnew_; clear hg_ hnew_; (first | rw [← Ny106.out] at ho25 | (simp only [Int.reduceToNat] at ho25; rw [← Ny106.out] at ho25)); have n0_ := Aside0.mk (Kd.R_elder' (by (with_reducible repeat (first | apply Kd.R_alloc | apply Kd.R_drewN | apply Kd.R_drew)); exact HO_4.out) (Kd.R_base ho25) hb); have n1_ := Aside0.mk (Kd.R_lower (Kd.R_new' ho25 (Kd.R_lt (by (with_reducible repeat (first | apply Kd.R_alloc | apply Kd.R_drewN | apply Kd.R_drew)); exact HO_4.out))) (below_size (by repeat (first | (with_reducible first | exact HB.out | apply below_alloc | apply pw_below_drewN | apply below_drew1) | exact HB.out)))); have n2_ := Aside0.mk (below_step (by repeat (first | (with_reducible first | exact HB.out | apply below_alloc | apply pw_below_drewN | apply below_drew1) | exact HB.out)) hb); clear HO_4; clear HB; have HO_4 := n0_; have HO108 := n1_; have HB := n2_; clear n0_ n1_ n2_; clear hb ho25))
      repeat (go_quiet (first | (go_at_call 148; (with_reducible refine (spec_l2Fits.calls ((rd_T80 l0 x5_1).f0) ((rd_T80 l0 x5_1).f1) 20 false _ A6.out).mono ?_); rintro e w23 ⟨rfl, hb⟩; have n0_ := Aside0.mk (Kd.R_below (by (with_reducible repeat (first | apply Kd.R_alloc | apply Kd.R_drewN | apply Kd.R_drew)); exact HO_4.out) hb); have n1_ := Aside0.mk (below_step (by repeat (first | (with_reducible first | exact HB.out | apply below_alloc | apply pw_below_drewN | apply below_drew1) | exact HB.out)) hb); clear HO_4; clear HB; have HO_4 := n0_; have HB := n1_; clear n0_ n1_; (try clear hb); (try clear hb2); (try clear hk); (try clear hi)) | ((with_reducible refine gate_dst (N := 20) rfl ?_); refine Kd.R_lit k72 _ 72 ?hg (N := 20) ?hd (xs := ([] : List (S72))) (inner := []) (ok := fun _ => True) (okp := fun _ => True) ?hr ?hp (fun _ hk => hk) trivial (Below.refl _ _) (Nat.le_refl _) (by simp) ?_; (case hd => rfl); (case hg => rfl); (case hr => first | (go_simp; done) | (go_simp; rfl)); (case hp => exact (Reps.none _ _)); intro v107 w24 ho25 hb hg_ hnew_; clear hg_ hnew_; (first | rw [← Ny106.out] at ho25 | (simp only [Int.reduceToNat] at ho25; rw [← Ny106.out] at ho25)); have n0_ := Aside0.mk (Kd.R_elder' (by (with_reducible repeat (first | apply Kd.R_alloc | apply Kd.R_drewN | apply Kd.R_drew)); exact HO_4.out) (Kd.R_base ho25) hb); have n1_ := Aside0.mk (Kd.R_lower (Kd.R_new' ho25 (Kd.R_lt (by (with_reducible repeat (first | apply Kd.R_alloc | apply Kd.R_drewN | apply Kd.R_drew)); exact HO_4.out))) (below_size (by repeat (first | (with_reducible first | exact HB.out | apply below_alloc | apply pw_below_drewN | apply below_drew1) | exact HB.out)))); have n2_ := Aside0.mk (below_step (by repeat (first | (with_reducible first | exact HB.out | apply below_alloc | apply pw_below_drewN | apply below_drew1) | exact HB.out)) hb); clear HO_4; clear HB; have HO_4 := n0_; have HO108 := n1_; have HB := n2_; clear n0_ n1_ n2_; clear hb ho25)); try go_wp2_with (first | (go_at_call 148; (with_reducible refine (spec_l2Fits.calls ((rd_T80 l0 x5_1).f0) ((rd_T80 l0 x5_1).f1) 20 false _ A6.out).mono ?_); rintro e w23 ⟨rfl, hb⟩; have n0_ := Aside0.mk (Kd.R_below (by (with_reducible repeat (first | apply Kd.R_alloc | apply Kd.R_drewN | apply Kd.R_drew)); exact HO_4.out) hb); have n1_ := Aside0.mk (below_step (by repeat (first | (with_reducible first | exact HB.out | apply below_alloc | apply pw_below_drewN | apply below_drew1) | exact HB.out)) hb); clear HO_4; clear HB; have HO_4 := n0_; have HB := n1_; clear n0_ n1_; (try clear hb); (try clear hb2); (try clear hk); (try clear hi)) | ((with_reducible refine gate_dst (N := 20) rfl ?_); refine Kd.R_lit k72 _ 72 ?hg (N := 20) ?hd (xs := ([] : List (S72))) (inner := []) (ok := fun _ => True) (okp := fun _ => True) ?hr ?hp (fun _ hk => hk) trivial (Below.refl _ _) (Nat.le_refl _) (by simp) ?_; (case hd => rfl); (case hg => rfl); (case hr => first | (go_simp; done) | (go_simp; rfl)); (case hp => exact (Reps.none _ _)); intro v107 w24 ho25 hb hg_ hnew_; clear hg_ hnew_; (first | rw [← Ny106.out] at ho25 | (simp only [Int.reduceToNat] at ho25; rw [← Ny106.out] at ho25)); have n0_ := Aside0.mk (Kd.R_elder' (by (with_reducible repeat (first | apply Kd.R_alloc | apply Kd.R_drewN | apply Kd.R_drew)); exact HO_4.out) (Kd.R_base ho25) hb); have n1_ := Aside0.mk (Kd.R_lower (Kd.R_new' ho25 (Kd.R_lt (by (with_reducible repeat (first | apply Kd.R_alloc | apply Kd.R_drewN | apply Kd.R_drew)); exact HO_4.out))) (below_size (by repeat (first | (with_reducible first | exact HB.out | apply below_alloc | apply pw_below_drewN | apply below_drew1) | exact HB.out)))); have n2_ := Aside0.mk (below_step (by repeat (first | (with_reducible first | exact HB.out | apply below_alloc | apply pw_below_drewN | apply below_drew1) | exact HB.out)) hb); clear HO_4; clear HB; have HO_4 := n0_; have HO108 := n1_; have HB := n2_; clear n0_ n1_ n2_; clear hb ho25)))
      go_ret2
      exact ⟨_, by first | rfl | (simp [errW_none, errW_some] <;> rfl) | (simp [*, errW_none, errW_some] <;> rfl), by (with_reducible repeat (first | apply Kd.R_alloc | apply Kd.R_drewN | apply Kd.R_drew)); exact Kd.R_mono HO108.out (fun _ hk => trivial), by repeat (first | (with_reducible first | exact HB.out | apply below_alloc | apply pw_below_drewN | apply below_drew1) | exact HB.out)⟩
    ·rw [if_neg c5] at H
     exact absurd H (by simp)
   ·rw [if_neg c4] at H
    have c4b0 : decide (x5_1 < (l0.length : Int)) = false := decide_eq_false c4
    clear c4
    simp only [Option.some.injEq, Prod.mk.injEq] at H
    obtain ⟨rfl, rfl⟩ := H
    obtain ⟨Ao26, co26, eo26⟩ := Kd.R_slice HO_4.out
    subst eo26
    go_wp2
    repeat (go_quiet (fail); try go_wp2)
    go_ret2
    exact ⟨_, by first | rfl | (simp [errW_none, errW_some] <;> rfl) | (simp [*, errW_none, errW_some] <;> rfl), by (with_reducible repeat (first | apply Kd.R_alloc | apply Kd.R_drewN | apply Kd.R_drew)); exact HO_4.out, by repeat (first | (with_reducible first | exact HB.out | apply below_alloc | apply pw_below_drewN | apply below_drew1) | exact HB.out)⟩

end Go.Proofs.Ytldcckcljjlglaa.P

namespace Go.Proofs.Ytldcckcljjlglaa.P
open Go.RowKit Go.Proofs.YtldcckcljjlglaaW.PrintWords Go.Proofs.YtldcckcljjlglaaW.PrintLast Go.Proofs.YtldcckcljjlglaaW.PrintMore
attribute [local go_sem] max2_int min2_int max_two min_two max_three min_three max_four min_four   -- for this text's walks alone
set_option linter.unusedVariables false
set_option linter.unusedSimpArgs false

theorem eqA72 (d : Nat) (w : World) (x0 y0 : Int) (x1 y1 : Int) (x2 y2 : Int) :
  (Op.equalIn (d + 2) 72 (.agg #[.int .i64 x0, .int .i64 x1, .int .i64 x2]) (.agg #[.int .i64 y0, .int .i64 y1, .int .i64 y2])).run Try.prog w = .ok (x0 == y0 && (x1 == y1 && (x2 == y2))) w := by
 refine eqA_of Try.underlying72 (by kernel_rfl) ?_
 refine eqf_cons (by rfl) (by go_simp; rfl) (by go_simp; rfl) (by go_simp) ?_
 refine eqf_cons (by rfl) (by go_simp; rfl) (by go_simp; rfl) (by go_simp) ?_
 exact eqf_last (by rfl) (by go_simp; rfl) (by go_simp; rfl) (by go_simp)
end Go.Proofs.Ytldcckcljjlglaa.P

namespace Go.Proofs.Ytldcckcljjlglaa.P
open Go.RowKit Go.Proofs.YtldcckcljjlglaaW.PrintWords Go.Proofs.YtldcckcljjlglaaW.PrintLast Go.Proofs.YtldcckcljjlglaaW.PrintMore
attribute [local go_sem] max2_int min2_int max_two min_two max_three min_three max_four min_four   -- for this text's walks alone
set_option linter.unusedVariables false
set_option linter.unusedSimpArgs false

attribute [local go_sem high] eqA72
/-! ### spec_l26Equal: function 123 -/
def spec_l26Equal.f (k : Nat) (a0_0 : Int) (a0_1 : Int) (a0_2 : Int) (a1_0 : Int) (a1_1 : Int) (a1_2 : Int) : Option (Bool) := (spec_CrossOf.f k a0_0 a0_1 a0_2 a1_0 a1_1 a1_2).bind fun bt103 => (some (bt103.1 == 0 && (bt103.2.1 == 0 && (bt103.2.2 == 0))))
theorem spec_l26Equal.mono : ∀ a0 a1 a2 a3 a4 a5 k, LeO (spec_l26Equal.f k a0 a1 a2 a3 a4 a5) (spec_l26Equal.f (k + 1) a0 a1 a2 a3 a4 a5) := by
 intro a0 a1 a2 a3 a4 a5 k
 unfold spec_l26Equal.f
 repeat' first
   | (with_reducible exact spec_CrossOf.mono _ _ _ _ _ _ _)
   | (with_reducible exact LeO.refl _)
   | (with_reducible exact LeO.none _)
   | (with_reducible refine LeO.ite ?_ ?_)
   | (with_reducible refine LeO.bind ?_ (fun _ => ?_))
   | exact spec_CrossOf.mono _ _ _ _ _ _ _
   | exact LeO.none _
   | refine LeO.ite ?_ ?_
   | refine LeO.bind ?_ (fun _ => ?_)
set_option maxHeartbeats 8000000 in
set_option maxRecDepth 100000 in
theorem spec_l26Equal.calls (k : Nat) (a0_0 : Int) (a0_1 : Int) (a0_2 : Int) (a1_0 : Int) (a1_1 : Int) (a1_2 : Int) (r : Bool) (w : World) (h : spec_l26Equal.f k a0_0 a0_1 a0_2 a1_0 a1_1 a1_2 = some r) :
  Calls Try.prog 123 #[.agg #[.int .i64 a0_0, .int .i64 a0_1, .int .i64 a0_2], .agg #[.int .i64 a1_0, .int .i64 a1_1, .int .i64 a1_2]] w fun e w' => e = .returned (.bool r) ∧ Below w.heap.size w w' := by
 have hu72 := Try.underlying72
 have HB := Aside0.mk (Below.refl w.heap.size w)
 have H : ((spec_CrossOf.f k a0_0 a0_1 a0_2 a1_0 a1_1 a1_2).bind fun bt103 => (some (bt103.1 == 0 && (bt103.2.1 == 0 && (bt103.2.2 == 0))))) = some r := h
 clear h
 replace H := Option.bind_eq_some_iff.mp H
 obtain ⟨⟨t103, t104, t105⟩, A30, H⟩ := H
 replace H : (some (t103 == 0 && (t104 == 0 && (t105 == 0)))) = some r := H
 have A3 := Aside0.mk A30
 clear A30
 obtain rfl := Option.some.inj H
 go_enter Try.func123, Try.ntmps123
 go_wp2_with (first | ((with_reducible refine gate_dst (N := 2) rfl ?_); refine box_event ?hg (N := 2) ?hd (cs := #[.int .i64 a0_0, .int .i64 a0_1, .int .i64 a0_2]) (t := 72) ?hr ?_; (case hd => rfl); (case hg => rfl); (case hr => first | (go_simp; done) | (go_simp; rfl)); intro gb101 hg w4 hbox hb; have n0_ := Aside0.mk (below_step (by repeat (first | (with_reducible first | exact HB.out | apply below_alloc | apply pw_below_drewN | apply below_drew1) | exact HB.out)) hb); have n1_ := Aside0.mk (hbox); have n2_ := Aside0.mk ((by rw [hg]; exact (below_size (by repeat (first | (with_reducible first | exact HB.out | apply below_alloc | apply pw_below_drewN | apply below_drew1) | exact HB.out))) : w.heap.size ≤ gb101)); have n3_ := Aside0.mk ((by rw [hg]; exact (below_size (by repeat (first | (with_reducible first | exact HB.out | apply below_alloc | apply pw_below_drewN | apply below_drew1) | exact HB.out))) : w.heap.size ≤ gb101)); clear HB; have HB := n0_; have BK101 := n1_; have GW101 := n2_; have GE101 := n3_; clear n0_ n1_ n2_ n3_; clear hb hbox hg) | ((with_reducible refine gate_dst (N := 3) rfl ?_); refine box_event ?hg (N := 3) ?hd (cs := #[.int .i64 a1_0, .int .i64 a1_1, .int .i64 a1_2]) (t := 72) ?hr ?_; (case hd => rfl); (case hg => rfl); (case hr => first | (go_simp; done) | (go_simp; rfl)); intro gb102 hg w5 hbox hb; have n0_ := Aside0.mk (blk_below (g := gb101) (o := .cells #[.int .i64 a0_0, .int .i64 a0_1, .int .i64 a0_2] 72 (0, 0)) (by (with_reducible repeat (first | refine blk_drewN ?_ _ | refine blk_drew ?_ | refine blk_alloc ?_ _)); exact BK101.out) hb); have n1_ := Aside0.mk (below_step (by repeat (first | (with_reducible first | exact HB.out | apply below_alloc | apply pw_below_drewN | apply below_drew1 | refine below_set ?_ GE101.out) | exact HB.out)) hb); have n2_ := Aside0.mk (hbox); have n3_ := Aside0.mk ((by rw [hg]; exact (below_size (by repeat (first | (with_reducible first | exact HB.out | apply below_alloc | apply pw_below_drewN | apply below_drew1 | refine below_set ?_ GE101.out) | exact HB.out))) : w.heap.size ≤ gb102)); have n4_ := Aside0.mk ((by rw [hg]; exact (below_size (by repeat (first | (with_reducible first | exact HB.out | apply below_alloc | apply pw_below_drewN | apply below_drew1 | refine below_set ?_ GE101.out) | exact HB.out))) : w.heap.size ≤ gb102)); have n5_ := Aside0.mk ((by rw [hg]; exact Nat.ne_of_lt (blk_lt (g := gb101) (o := .cells #[.int .i64 a0_0, .int .i64 a0_1, .int .i64 a0_2] 72 (0, 0)) (by (with_reducible repeat (first | refine blk_drewN ?_ _ | refine blk_drew ?_ | refine blk_alloc ?_ _)); exact BK101.out)) : gb101 ≠ gb102)); have n6_ := Aside0.mk ((by rw [hg]; exact Nat.ne_of_gt (blk_lt (g := gb101) (o := .cells #[.int .i64 a0_0, .int .i64 a0_1, .int .i64 a0_2] 72 (0, 0)) (by (with_reducible repeat (first | refine blk_drewN ?_ _ | refine blk_drew ?_ | refine blk_alloc ?_ _)); exact BK101.out)) : gb102 ≠ gb101)); clear BK101; clear HB; have BK101 := n0_; have HB := n1_; have BK102 := n2_; have GW102 := n3_; have GE102 := n4_; have NB101_102 := n5_; have NB102_101 := n6_; clear n0_ n1_ n2_ n3_ n4_ n5_ n6_; clear hb hbox hg; have hnb6 := NB101_102.out; have hnc6 := NB102_101.out; have hcz7_0 : w5.cell? ⟨gb101, 0, none⟩ = some (.int .i64 a0_0) := (blk_cell BK101.out 0).trans rfl; have hcz7_1 : w5.cell? ⟨gb101, 1, none⟩ = some (.int .i64 a0_1) := (blk_cell BK101.out 1).trans rfl; have hcz7_2 : w5.cell? ⟨gb101, 2, none⟩ = some (.int .i64 a0_2) := (blk_cell BK101.out 2).trans rfl; have hfz7_0 := blk_frozen BK101.out 0; have hfz7_1 := blk_frozen BK101.out 1; have hfz7_2 := blk_frozen BK101.out 2; have hcz8_0 : w5.cell? ⟨gb102, 0, none⟩ = some (.int .i64 a1_0) := (blk_cell BK102.out 0).trans rfl; have hcz8_1 : w5.cell? ⟨gb102, 1, none⟩ = some (.int .i64 a1_1) := (blk_cell BK102.out 1).trans rfl; have hcz8_2 : w5.cell? ⟨gb102, 2, none⟩ = some (.int .i64 a1_2) := (blk_cell BK102.out 2).trans rfl; have hfz8_0 := blk_frozen BK102.out 0; have hfz8_1 := blk_frozen BK102.out 1; have hfz8_2 := blk_frozen BK102.out 2) | ((with_reducible refine gate_callee (f := 82) rfl ?_); refine goesL_ (some 7) rfl rfl Try.func82 (by kernel_rfl) rfl #[.agg #[.int .i64 a0_0, .int .i64 a0_1, .int .i64 a0_2], .agg #[.int .i64 a1_0, .int .i64 a1_1, .int .i64 a1_2]] rfl (by (try simp only [List.map_toArray, List.map_cons, List.map_nil]); first | done | rfl | (simp only [List.length_drop, List.length_take]; rfl)) ?_; (with_reducible refine (spec_CrossOf.calls k a0_0 a0_1 a0_2 a1_0 a1_1 a1_2 t103 t104 t105 _ A3.out).mono ?_); rintro e w9 ⟨rfl, hb⟩; refine ⟨_, rfl, ?_⟩; have n0_ := Aside0.mk (blk_below (g := gb101) (o := .cells #[.int .i64 a0_0, .int .i64 a0_1, .int .i64 a0_2] 72 (0, 0)) (by (with_reducible repeat (first | refine blk_drewN ?_ _ | refine blk_drew ?_ | refine blk_alloc ?_ _)); exact BK101.out) hb); have n1_ := Aside0.mk (blk_below (g := gb102) (o := .cells #[.int .i64 a1_0, .int .i64 a1_1, .int .i64 a1_2] 72 (0, 0)) (by (with_reducible repeat (first | refine blk_drewN ?_ _ | refine blk_drew ?_ | refine blk_alloc ?_ _)); exact BK102.out) hb); have n2_ := Aside0.mk (below_step (by repeat (first | (with_reducible first | exact HB.out | apply below_alloc | apply pw_below_drewN | apply below_drew1 | refine below_set ?_ GE101.out | refine below_set ?_ GE102.out) | exact HB.out)) hb); clear BK101; clear BK102; clear HB; have BK101 := n0_; have BK102 := n1_; have HB := n2_; clear n0_ n1_ n2_; (try clear hb); (try clear hb2); (try clear hk); (try clear hi)))
 go_ret
 exact ⟨by first | rfl | (simp [errW_none, errW_some] <;> rfl) | (simp [*, errW_none, errW_some] <;> rfl), by repeat (first | (with_reducible first | exact HB.out | apply below_alloc | apply pw_below_drewN | apply below_drew1 | refine below_set ?_ GE101.out | refine below_set ?_ GE102.out) | exact HB.out)⟩

end Go.Proofs.Ytldcckcljjlglaa.P

namespace Go.Proofs.Ytldcckcljjlglaa.P
open Go.RowKit Go.Proofs.YtldcckcljjlglaaW.PrintWords Go.Proofs.YtldcckcljjlglaaW.PrintLast Go.Proofs.YtldcckcljjlglaaW.PrintMore
set_option linter.unusedSimpArgs false
section
variable {P : Program} {md : Region.Mode} {ops : Array Oper} {Q : Exit → Act → World → Prop} {S : World → Prop}
/-- What an operation does: it leaves v, and no block that there is changes. -/
def Does (P : Program) (ops : Array Oper) (S : World → Prop) (o : Oper) (a : Act) (v : Value) : Prop :=
  (Region.wanted o (yielded ops a.tmps) = false ∧ v = undef) ∨
  (Region.wanted o (yielded ops a.tmps) = true ∧ ∀ w, S w → ((execOp a.eval o).run P w = .ok (.value v) w) ∨
    (∃ f args, (execOp a.eval o).run P w = .ok (.enter f args) w ∧ Calls P f args w fun e w1 => e = .returned v ∧ Below w.heap.size w w1))
/-- The value that stands for a new block: a pointer, or a slice of all of it. -/
def nv : Nat → Nat → Value
  | 0, g => .pointer (some ⟨g, 0, none⟩)
  | n + 1, g => .slice (some ⟨g, 0, none⟩) n n
/-- It makes a block. -/
def News (P : Program) (ops : Array Oper) (S : World → Prop) (o : Oper) (a : Act) (cs : Array Value) (t : TypeId × Nat) : Prop :=
  Region.wanted o (yielded ops a.tmps) = true ∧ ∀ w, S w → (execOp a.eval o).run P w = .ok (.value (nv t.2 w.heap.size)) (w.alloc (.cells cs t.1 (0, 0)))
/-- What a store into one block changes. -/
structure Mut (g : Nat) (w w1 : World) : Prop where
  os : w1.os = w.os
  tape : w1.tape = w.tape
  output : w1.output = w.output
  size : w1.heap.size = w.heap.size
  block : ∀ k, k ≠ g → w1.heap[k]? = w.heap[k]?
theorem Mut.trans {g : Nat} {w w1 w2 : World} (h : Mut g w w1) (h' : Mut g w1 w2) : Mut g w w2 := ⟨h'.os.trans h.os, h'.tape.trans h.tape, h'.output.trans h.output, h'.size.trans h.size, fun k hk => (h'.block k hk).trans (h.block k hk)⟩
theorem mut1_ {g : Nat} {w : World} {cs : Array Value} {t : TypeId} (h : w.heap[g]? = some (.cells cs t (0, 0))) (j : Nat) (u : Value) : Mut g w (w.setCell ⟨g, j, none⟩ u) ∧ (w.setCell ⟨g, j, none⟩ u).heap[g]? = some (.cells (cs.setIfInBounds j u) t (0, 0)) :=
  ⟨⟨rfl, rfl, rfl, by simp [World.setCell], fun k hk => Below.heap_setCell w ⟨g, j, none⟩ u k hk⟩, by simp [World.setCell, Array.getElem?_modify, h]⟩
/-- A whole struct of two or three cells is stored. -/
theorem mut2_ {g : Nat} {w : World} {a b : Value} {t : TypeId} (h : w.heap[g]? = some (.cells #[a, b] t (0, 0))) (x y : Value) : Mut g w ((w.setCell ⟨g, 0, none⟩ x).setCell ⟨g, 1, none⟩ y) ∧ ((w.setCell ⟨g, 0, none⟩ x).setCell ⟨g, 1, none⟩ y).heap[g]? = some (.cells #[x, y] t (0, 0)) := by
  obtain ⟨m1, h1⟩ := mut1_ h 0 x
  obtain ⟨m2, h2⟩ := mut1_ h1 1 y
  exact ⟨m1.trans m2, h2⟩
theorem mut3_ {g : Nat} {w : World} {a b c : Value} {t : TypeId} (h : w.heap[g]? = some (.cells #[a, b, c] t (0, 0))) (x y z : Value) : Mut g w (((w.setCell ⟨g, 0, none⟩ x).setCell ⟨g, 1, none⟩ y).setCell ⟨g, 2, none⟩ z) ∧ (((w.setCell ⟨g, 0, none⟩ x).setCell ⟨g, 1, none⟩ y).setCell ⟨g, 2, none⟩ z).heap[g]? = some (.cells #[x, y, z] t (0, 0)) := by
  obtain ⟨m1, h1⟩ := mut1_ h 0 x
  obtain ⟨m2, h2⟩ := mut1_ h1 1 y
  obtain ⟨m3, h3⟩ := mut1_ h2 2 z
  exact ⟨(m1.trans m2).trans m3, h3⟩
theorem Mut.below {g n : Nat} {w w1 : World} (h : Mut g w w1) (hn : n ≤ g) : Below n w w1 := ⟨h.os, h.tape, h.output, Nat.le_of_eq h.size.symm, fun k hk => h.block k (by omega)⟩
/-- It stores into a block that this region has made. -/
def Stores (P : Program) (ops : Array Oper) (S : World → Prop) (n0 : Nat) (o : Oper) (a : Act) (g : Nat) (cs : Array Value) (t : TypeId × Nat) (cs' : Array Value) : Prop :=
  Region.wanted o (yielded ops a.tmps) = true ∧ ∀ w, S w → w.heap[g]? = some (.cells cs t.1 (0, 0)) → n0 ≤ g → ∃ w1, (execOp a.eval o).run P w = .ok .skip w1 ∧ Mut g w w1 ∧ w1.heap[g]? = some (.cells cs' t.1 (0, 0))
def isNew (o : Oper) : Bool := match o.op with
  | .alloc _ => true
  | .buildSlice _ _ _ => true
  | _ => false
/-- Each of the first m writes a slot of its own or stores into a block; one that looks at another's slot waits for it, and that one makes no block, but for the block that is stored into; the others wait for all of the first m. tb: which makes a block, which stores into it. -/
def allB (md : Region.Mode) (ops : Array Oper) (m : Nat) (tb : List (Nat × Nat)) : Bool :=
  Region.noSelect ops && decide (m ≤ ops.size) && (tb.all fun p => decide (p.1 < m) && decide (p.2 < m) && (match ops[p.2]? with
      | none => false
      | some o => o.dst.isNone && o.after.any fun e => Region.binds md e && e.on == p.1) && tb.all fun q => !(q.2 == p.2) || q.1 == p.1) && (List.range ops.size).all fun i => match ops[i]? with
    | none => false
    | some oi => if i < m then oi.after.all (fun e => !Region.binds md e || decide (e.on < i)) && (List.range m).all fun j => match ops[j]? with
        | none => false
        | some oj => match oj.dst with
          | none => true
          | some t => (j == i || oi.dst != some t) && (!(oi.looksAt ops).contains t || ((!isNew oj || tb.contains (j, i)) && oi.after.any fun e => Region.binds md e && e.on == j))
      else (List.range m).all fun j => oi.after.any fun e => Region.binds md e && e.on == j
section
variable {m : Nat} {tb : List (Nat × Nat)}
theorem allB_le (h : allB md ops m tb = true) : m ≤ ops.size := by
  unfold allB at h
  simp only [Bool.and_eq_true, decide_eq_true_eq] at h
  exact h.1.1.2
theorem allB_select (h : allB md ops m tb = true) : Region.noSelect ops = true := by
  unfold allB at h
  simp only [Bool.and_eq_true] at h
  exact h.1.1.1
theorem allB_tb (h : allB md ops m tb = true) {j s : Nat} (hp : (j, s) ∈ tb) : j < m ∧ s < m ∧ (∃ o, ops[s]? = some o ∧ o.dst = none ∧ ∃ e ∈ o.after, Region.binds md e = true ∧ e.on = j) ∧ ∀ j', (j', s) ∈ tb → j' = j := by
  unfold allB at h
  simp only [Bool.and_eq_true] at h
  have h1 := List.all_eq_true.1 h.1.2 _ hp
  simp only [Bool.and_eq_true, decide_eq_true_eq] at h1
  obtain ⟨⟨⟨h2, h3⟩, h4⟩, h5⟩ := h1
  refine ⟨h2, h3, ?_, fun j' hj' => ?_⟩
  · cases ho : ops[s]? with
    | none => rw [ho] at h4; cases h4
    | some o =>
      simp only [ho, Bool.and_eq_true, Option.isNone_iff_eq_none] at h4
      obtain ⟨e, he, hb⟩ := Array.any_eq_true'.1 h4.2
      simp only [Bool.and_eq_true, beq_iff_eq] at hb
      exact ⟨o, rfl, h4.1, e, he, hb.1, hb.2⟩
  · have := List.all_eq_true.1 h5 _ hj'
    simpa using this
theorem allB_at (h : allB md ops m tb = true) {i : Nat} {oi : Oper} (hm : i < m) (hi : ops[i]? = some oi) :
    (∀ e ∈ oi.after, Region.binds md e = true → e.on < i) ∧
    ∀ j oj t, j < m → ops[j]? = some oj → oj.dst = some t → (j ≠ i → oi.dst ≠ some t) ∧ (t ∈ oi.looksAt ops → (isNew oj = false ∨ (j, i) ∈ tb) ∧ ∃ e ∈ oi.after, Region.binds md e = true ∧ e.on = j) := by
  unfold allB at h
  simp only [Bool.and_eq_true] at h
  have h1 := List.all_eq_true.1 h.2 i (List.mem_range.2 (Array.getElem?_eq_some_iff.1 hi).1)
  simp only [hi, if_pos hm, Bool.and_eq_true] at h1
  obtain ⟨h3, h4⟩ := h1
  refine ⟨fun e he hb => ?_, fun j oj t hjm hj ht => ?_⟩
  · have := Array.all_eq_true_iff_forall_mem.1 h3 e he
    simpa [hb] using this
  · have h5 := List.all_eq_true.1 h4 j (List.mem_range.2 hjm)
    simp only [hj, ht, Bool.and_eq_true, Bool.or_eq_true, beq_iff_eq, bne_iff_ne, Bool.not_eq_true'] at h5
    refine ⟨fun hne => ?_, fun hmem => ?_⟩
    · rcases h5.1 with h6 | h6
      · exact absurd h6 hne
      · exact h6
    · rcases h5.2 with h6 | h6
      · exact absurd (List.contains_iff_mem.2 hmem) (by simpa using h6)
      · obtain ⟨e, he, hb⟩ := Array.any_eq_true'.1 h6.2
        simp only [Bool.and_eq_true, beq_iff_eq] at hb
        exact ⟨h6.1.imp id (fun h => List.contains_iff_mem.1 h), e, he, hb.1, hb.2⟩
theorem allB_late (h : allB md ops m tb = true) {i : Nat} {oi : Oper} (hm : ¬ i < m) (hi : ops[i]? = some oi) : ∀ j, j < m → ∃ e ∈ oi.after, Region.binds md e = true ∧ e.on = j := by
  unfold allB at h
  simp only [Bool.and_eq_true] at h
  have h1 := List.all_eq_true.1 h.2 i (List.mem_range.2 (Array.getElem?_eq_some_iff.1 hi).1)
  simp only [hi, if_neg hm, List.all_eq_true, List.mem_range] at h1
  intro j hj
  obtain ⟨e, he, hb⟩ := Array.any_eq_true'.1 (h1 j hj)
  simp only [Bool.and_eq_true, beq_iff_eq] at hb
  exact ⟨e, he, hb.1, hb.2⟩
end
theorem ready_spec {l : Array Bool} {i : Nat} (h : i ∈ Region.ready md ops l) : i < ops.size ∧ l.getD i true = false ∧ ∀ oi, ops[i]? = some oi → ∀ e ∈ oi.after, Region.binds md e = true → l.getD e.on false = true := by
  unfold Region.ready at h
  rw [List.mem_filter, List.mem_range] at h
  obtain ⟨h1, h2⟩ := h
  simp only [Bool.and_eq_true, Bool.not_eq_true'] at h2
  refine ⟨h1, h2.1, fun oi hoi e he hb => ?_⟩
  have h3 := h2.2
  simp only [hoi, Option.map_some, Option.getD_some] at h3
  have := Array.all_eq_true_iff_forall_mem.1 h3 e he
  simpa [hb] using this
theorem unlisted_ready {m : Nat} {tb : List (Nat × Nat)} (h : allB md ops m tb = true) {l : Array Bool} (hl : l.size = ops.size) : ∀ (i : Nat), i < m → l.getD i true = false → Region.ready md ops l ≠ [] := by
  have hle := allB_le h
  intro i
  induction i using Nat.strongRecOn with
  | _ i ih =>
    intro hi hu
    by_cases hex : ∃ j, j < i ∧ l.getD j true = false
    · obtain ⟨j, hj, hju⟩ := hex
      exact ih j hj (by omega) hju
    · intro hr
      have hoi : ops[i]? = some ops[i] := Array.getElem?_eq_getElem (by omega)
      have hm : i ∈ Region.ready md ops l := by
        unfold Region.ready
        rw [List.mem_filter, List.mem_range]
        refine ⟨by omega, ?_⟩
        simp only [hu, hoi, Bool.not_false, Bool.true_and, Option.map_some, Option.getD_some]
        rw [Array.all_eq_true_iff_forall_mem]
        intro e he
        cases hb : Region.binds md e with
        | false => rfl
        | true =>
          have hlt := (allB_at h hi hoi).1 e he hb
          have : ¬ l.getD e.on true = false := fun hf => hex ⟨e.on, hlt, hf⟩
          have hsz : e.on < l.size := by omega
          simp only [Array.getD_eq_getD_getElem?, Array.getElem?_eq_getElem hsz, Option.getD_some] at this ⊢
          simpa using this
      rw [hr] at hm
      cases hm
/-- How many of the first m have not come up. -/
def unl (l : Array Bool) (m : Nat) : Nat := (l.toList.take m).countP (fun b => !b)
theorem unl_set {l : Array Bool} {i m : Nat} (him : i < m) (hi : i < l.size) (hu : l.getD i true = false) : unl (l.setIfInBounds i true) m + 1 = unl l m := by
  have hli : l[i] = false := by
    simpa [Array.getD_eq_getD_getElem?, Array.getElem?_eq_getElem hi] using hu
  unfold unl
  have h0 : i < (l.toList.take m).length := by rw [List.length_take]; simp; omega
  have e1 : l.toList.take m = (l.toList.take m).take i ++ (l.toList.take m)[i] :: (l.toList.take m).drop (i + 1) := by
    rw [← List.drop_eq_getElem_cons h0, List.take_append_drop]
  have e2 : (l.setIfInBounds i true).toList.take m = (l.toList.take m).take i ++ true :: (l.toList.take m).drop (i + 1) := by
    rw [Array.toList_setIfInBounds, List.take_set, List.set_eq_take_append_cons_drop, if_pos h0]
  have hli2 : (l.toList.take m)[i] = false := by simpa using hli
  rw [e2]
  conv => rhs; rw [e1]
  rw [hli2, List.countP_append, List.countP_append, List.countP_cons, List.countP_cons]
  simp only [Bool.not_true, Bool.not_false, Bool.false_eq_true, if_false, if_true]
  omega
theorem unl_zero {l : Array Bool} {m : Nat} (h : unl l m = 0) {i : Nat} (him : i < m) (hi : i < l.size) : l.getD i false = true := by
  unfold unl at h
  rw [List.countP_eq_zero] at h
  have := h l[i] (by
    rw [List.mem_take_iff_getElem]
    exact ⟨i, by simp; omega, by simp⟩)
  simpa [Array.getD_eq_getD_getElem?, Array.getElem?_eq_getElem hi] using this
theorem unl_pos {l : Array Bool} {m : Nat} (h : unl l m ≠ 0) : ∃ i, i < m ∧ i < l.size ∧ l.getD i true = false := by
  unfold unl at h
  obtain ⟨b, hb, hb2⟩ := List.countP_pos_iff.1 (Nat.pos_of_ne_zero h)
  rw [List.mem_take_iff_getElem] at hb
  obtain ⟨i, hi, rfl⟩ := hb
  have hil : i < l.size := by simp at hi; omega
  refine ⟨i, by omega, hil, ?_⟩
  simpa [Array.getD_eq_getD_getElem?, Array.getElem?_eq_getElem hil] using hb2
theorem looks_congr {o : Oper} {a b : Act} (hs : ∀ cs b, o.op ≠ .select cs b) (h : ∀ t, t ∈ o.looksAt ops → a.tmps[t]? = b.tmps[t]?) :
    execOp a.eval o = execOp b.eval o ∧ Region.wanted o (yielded ops a.tmps) = Region.wanted o (yielded ops b.tmps) := by
  constructor
  · refine execOp_congr o hs fun x hx => ?_
    cases x with
    | tmp t =>
      have := h t (List.mem_append_left _ (List.mem_filterMap.2 ⟨.tmp t, by simpa using hx, rfl⟩))
      simp only [Act.eval, Array.getD_eq_getD_getElem?, this]
    | _ => rfl
  · unfold Region.wanted
    cases hg : o.guard with
    | none => rfl
    | some gw =>
      obtain ⟨g, want⟩ := gw
      have hy : yielded ops a.tmps g = yielded ops b.tmps g := by
        unfold yielded
        cases ht : (ops[g]?).bind (·.dst) with
        | none => rfl
        | some t =>
          have := h t (by simp [Oper.looksAt, hg, ht])
          simp [this]
      simp only [hy]
/-- What an operation does: it leaves a value; it makes a block (and which operation stores what into it); it stores into a block. -/
inductive Knd where
  | det (v : Value)
  | new (cs : Array Value) (t : TypeId × Nat) (st : Option (Nat × Array Value))
  | sto (j : Nat) (cs : Array Value)
/-- The value that an operation leaves, where G tells the blocks. -/
def valOf (G : Nat → Nat) (i : Nat) : Knd → Value
  | .det v => v
  | .new _ t _ => nv t.2 (G i)
  | .sto _ _ => undef
/-- What a block holds by now; in the end. -/
def contL (l : Array Bool) (cs : Array Value) : Option (Nat × Array Value) → Array Value
  | some (s, c) => if l.getD s false = true then c else cs
  | none => cs
def contE (cs : Array Value) : Option (Nat × Array Value) → Array Value
  | some (_, c) => c
  | none => cs
/-- The frame behind all, by its values in the operations' order. -/
def putVals (ops : Array Oper) (vals : Nat → Value) (a : Act) (n : Nat) : Act := (List.range n).foldl (fun a i => a.put ((ops[i]?).bind (·.dst)) (vals i)) a
theorem putVals_spec {m : Nat} {tb : List (Nat × Nat)} (hc : allB md ops m tb = true) (vals : Nat → Value) (a : Act) : ∀ (n : Nat), n ≤ m → (putVals ops vals a n).tmps.size = a.tmps.size ∧ (putVals ops vals a n).defers = a.defers ∧
    (∀ t, (∀ i oi, i < m → ops[i]? = some oi → oi.dst = some t → n ≤ i) → (putVals ops vals a n).tmps[t]? = a.tmps[t]?) ∧
    (∀ i oi d, i < n → ops[i]? = some oi → oi.dst = some d → (putVals ops vals a n).tmps[d]? = if d < a.tmps.size then some (vals i) else none) := by
  have hle := allB_le hc
  intro n
  induction n with
  | zero => intro _; exact ⟨rfl, rfl, fun _ _ => rfl, fun i _ _ h => by omega⟩
  | succ n ih =>
    intro hn
    obtain ⟨h1, h2, h3, h4⟩ := ih (by omega)
    have hon : ops[n]? = some ops[n] := Array.getElem?_eq_getElem (by omega)
    generalize ops[n] = on at hon
    obtain ⟨_, hlk⟩ := allB_at hc (show n < m by omega) hon
    have e : putVals ops vals a (n + 1) = (putVals ops vals a n).put on.dst (vals n) := by
      unfold putVals
      rw [List.range_succ, List.foldl_append, List.foldl_cons, List.foldl_nil, hon, Option.bind_some]
    rw [e]
    generalize putVals ops vals a n = b at h1 h2 h3 h4
    cases hdn : on.dst with
    | none =>
      refine ⟨h1, h2, fun t ht => h3 t fun i oi him hoi hd => by have := ht i oi him hoi hd; omega, fun i oi d hi hoi hd => ?_⟩
      by_cases hin : i = n
      · subst hin
        rw [hon] at hoi
        obtain rfl := Option.some.inj hoi
        rw [hdn] at hd
        cases hd
      · exact h4 i oi d (by omega) hoi hd
    | some dn =>
      refine ⟨by simp [Act.put, h1], by simp [Act.put, h2], fun t ht => ?_, fun i oi d hi hoi hd => ?_⟩
      · have hne : dn ≠ t := by
          rintro rfl
          have := ht n on (by omega) hon hdn
          omega
        simp only [Act.put]
        rw [Array.getElem?_setIfInBounds_ne hne]
        exact h3 t fun i oi him hoi hd => by have := ht i oi him hoi hd; omega
      · simp only [Act.put]
        by_cases hin : i = n
        · subst hin
          rw [hon] at hoi
          obtain rfl := Option.some.inj hoi
          rw [hdn] at hd
          obtain rfl := Option.some.inj hd
          rw [Array.getElem?_setIfInBounds_self, h1]
        · have hne : dn ≠ d := fun he => (hlk i oi d (by omega) hoi hd).1 hin (by rw [hdn, he])
          rw [Array.getElem?_setIfInBounds_ne hne]
          exact h4 i oi d (by omega) hoi hd
/-- The slots of what has come up hold what they hold in the end; so do those that nothing writes. The blocks that have been made are there, and are apart. -/
structure Inv (md : Region.Mode) (ops : Array Oper) (m : Nat) (ks : Nat → Knd) (n0 : Nat) (l : Array Bool) (G : Nat → Nat) (aF a : Act) (w : World) : Prop where
  size : a.tmps.size = aF.tmps.size
  defers : a.defers = aF.defers
  slot : ∀ t, (∀ i oi, i < m → ops[i]? = some oi → oi.dst = some t → l.getD i false = true) → a.tmps[t]? = aF.tmps[t]?
  late : ∀ i, m ≤ i → l.getD i false = false
  closed : ∀ i oi, ops[i]? = some oi → l.getD i false = true → ∀ e ∈ oi.after, Region.binds md e = true → l.getD e.on false = true
  block : ∀ i cs t st, i < m → l.getD i false = true → ks i = .new cs t st → w.heap[G i]? = some (.cells (contL l cs st) t.1 (0, 0)) ∧ n0 ≤ G i
  apart : ∀ i j cs t st cs' t' st', i < m → j < m → i ≠ j → l.getD i false = true → l.getD j false = true → ks i = .new cs t st → ks j = .new cs' t' st' → G i ≠ G j
/-- What is shown of the operations' kinds. -/
structure Kinds (P : Program) (ops : Array Oper) (S : World → Prop) (m : Nat) (tb : List (Nat × Nat)) (a0 : Act) (ks : Nat → Knd) (n0 : Nat) : Prop where
  det : ∀ (G : Nat → Nat) i oi v, i < m → ops[i]? = some oi → ks i = .det v → Does P ops S oi (putVals ops (fun i => valOf G i (ks i)) a0 m) v
  new : ∀ (G : Nat → Nat) i oi cs t st, i < m → ops[i]? = some oi → ks i = .new cs t st → oi.dst.isSome = true ∧ News P ops S oi (putVals ops (fun i => valOf G i (ks i)) a0 m) cs t ∧ (∀ s c, st = some (s, c) → (i, s) ∈ tb)
  sto : ∀ (G : Nat → Nat) i oi j c, i < m → ops[i]? = some oi → ks i = .sto j c → oi.dst = none ∧ (j, i) ∈ tb ∧ ∃ cs t, ks j = .new cs t (some (i, c)) ∧ Stores P ops S n0 oi (putVals ops (fun i => valOf G i (ks i)) a0 m) (G j) cs t c
  all : ∀ i oi, i < m → ops[i]? = some oi → oi.dst = none → ∃ j c, ks i = .sto j c
theorem Below.less {n n' : Nat} {w w1 : World} (h : Below n w w1) (hn : n' ≤ n) : Below n' w w1 := ⟨h.os, h.tape, h.output, h.size, fun k hk => h.block k (by omega)⟩
theorem all_go {m : Nat} {tb : List (Nat × Nat)} (hc : allB md ops m tb = true) (a0 : Act) (ks : Nat → Knd) (n0 : Nat) (hS : ∀ w w1, S w → Below n0 w w1 → S w1) (hn0 : ∀ w, S w → n0 ≤ w.heap.size) (hK : Kinds P ops S m tb a0 ks n0)
    (hend : ∀ (G : Nat → Nat) w, S w → (∀ i cs t st, i < m → ks i = .new cs t st → w.heap[G i]? = some (.cells (contE cs st) t.1 (0, 0)) ∧ n0 ≤ G i) → (∀ i j cs t st cs' t' st', i < m → j < m → i ≠ j → ks i = .new cs t st → ks j = .new cs' t' st' → G i ≠ G j) →
      wpAny P md ops Q (ops.size - m) (bm ops.size (2 ^ m - 1)) (putVals ops (fun i => valOf G i (ks i)) a0 m) w) :
    ∀ (p : Nat) (l : Array Bool) (G : Nat → Nat) (a : Act) (w : World), l.size = ops.size → unl l m = p → Inv md ops m ks n0 l G (putVals ops (fun i => valOf G i (ks i)) a0 m) a w → S w → wpAny P md ops Q (p + (ops.size - m)) l a w := by
  have hle := allB_le hc
  have hstm : ∀ i cs t s c, i < m → ks i = .new cs t (some (s, c)) → s < m ∧ ks s = .sto i c := by
    intro i cs t s c hi hk
    obtain ⟨_, _, htb⟩ := hK.new (fun _ => 0) i ops[i] cs t _ hi (Array.getElem?_eq_getElem (by omega)) hk
    obtain ⟨_, hs, ⟨o, ho, hdn, _⟩, hu⟩ := allB_tb hc (htb s c rfl)
    obtain ⟨j, c', hks⟩ := hK.all s o hs ho hdn
    obtain ⟨_, hj, cs2, t2, hkj, _⟩ := hK.sto (fun _ => 0) s o j c' hs ho hks
    obtain rfl := hu j hj
    rw [hk] at hkj
    injection hkj with _ _ h3
    injection h3 with h3
    injection h3 with _ h4
    subst h4
    exact ⟨hs, hks⟩
  intro p
  induction p with
  | zero =>
    intro l G a w hsz hu hI hSw
    have hall : ∀ i, i < m → l.getD i false = true := fun i hi => unl_zero hu hi (by omega)
    have hl : l = bm ops.size (2 ^ m - 1) := by
      refine Array.ext_getElem? fun i => ?_
      unfold bm
      have e : ((List.range ops.size).map fun i => (2 ^ m - 1).testBit i).toArray[i]? = ((List.range ops.size).map fun i => (2 ^ m - 1).testBit i)[i]? := List.getElem?_toArray
      rw [e, List.getElem?_map]
      by_cases hi : i < ops.size
      · rw [List.getElem?_range hi, Option.map_some, Nat.testBit_two_pow_sub_one, Array.getElem?_eq_getElem (by omega)]
        congr 1
        by_cases him : i < m
        · have := hall i him
          simp only [Array.getD_eq_getD_getElem?, Array.getElem?_eq_getElem (show i < l.size by omega), Option.getD_some] at this
          rw [this]; simp [him]
        · have := hI.late i (by omega)
          simp only [Array.getD_eq_getD_getElem?, Array.getElem?_eq_getElem (show i < l.size by omega), Option.getD_some] at this
          rw [this]; simp [him]
      · rw [Array.getElem?_eq_none (by omega), List.getElem?_eq_none (by simp; omega)]; rfl
    have ha : a = putVals ops (fun i => valOf G i (ks i)) a0 m := by
      have h1 := hI.size
      have h2 := hI.defers
      have h3 := hI.slot
      generalize putVals ops (fun i => valOf G i (ks i)) a0 m = aF at h1 h2 h3
      cases a with | mk at_ ad_ => cases aF with | mk bt_ bd_ =>
      simp only at h1 h2 h3
      subst h2
      congr 1
      exact Array.ext_getElem? fun t => h3 t fun i oi him hi _ => hall i him
    rw [Nat.zero_add]
    have hcont : ∀ i cs t st, i < m → ks i = .new cs t st → contL l cs st = contE cs st := by
      intro i cs t st hi hk
      cases st with
      | none => rfl
      | some sc =>
        obtain ⟨s, c⟩ := sc
        unfold contL contE
        simp only
        rw [if_pos (hall s (hstm i cs t s c hi hk).1)]
    have := hend G w hSw (fun i cs t st him hk => by have h := hI.block i cs t st him (hall i him) hk; rwa [hcont i cs t st him hk] at h) (fun i j cs t st cs' t' st' hi hj hne hci hdj => hI.apart i j cs t st cs' t' st' hi hj hne (hall i hi) (hall j hj) hci hdj)
    rw [hl, ha]
    exact this
  | succ p ih =>
    intro l G a w hsz hu hI hSw
    obtain ⟨i0, hi0m, hi0, hi0u⟩ := unl_pos (l := l) (m := m) (by omega)
    rw [show p + 1 + (ops.size - m) = p + (ops.size - m) + 1 by omega]
    constructor
    · intro hr
      exact absurd hr (unlisted_ready hc hsz i0 hi0m hi0u)
    · intro i hi
      obtain ⟨h1, h2, h3⟩ := ready_spec hi
      have hoi : ops[i]? = some ops[i] := Array.getElem?_eq_getElem h1
      generalize ops[i] = oi at hoi
      have hil : l.getD i false = false := by
        simpa [Array.getD_eq_getD_getElem?, Array.getElem?_eq_getElem (show i < l.size by omega)] using h2
      have him : i < m := by
        refine Classical.byContradiction fun him => ?_
        obtain ⟨e, he, hb, hon⟩ := allB_late hc him hoi i0 hi0m
        have := h3 oi hoi e he hb
        rw [hon] at this
        simp only [Array.getD_eq_getD_getElem?, Array.getElem?_eq_getElem hi0, Option.getD_some] at this hi0u
        rw [this] at hi0u
        cases hi0u
      obtain ⟨_, hlook⟩ := allB_at hc him hoi
      have hsee : ∀ t, t ∈ oi.looksAt ops → a.tmps[t]? = (putVals ops (fun i => valOf G i (ks i)) a0 m).tmps[t]? := by
        intro t ht
        refine hI.slot t fun j oj hjm hj hjt => ?_
        obtain ⟨_, e, he, hb, hon⟩ := (hlook j oj t hjm hj hjt).2 ht
        rw [← hon]
        exact h3 oi hoi e he hb
      obtain ⟨hex, hwa⟩ := looks_congr (fun cs b => Region.noSelect_spec (allB_select hc) i oi cs b hoi) hsee
      have hnl : ∀ j, (l.setIfInBounds i true).getD j false = true → j = i ∨ l.getD j false = true := by
        intro j hj
        by_cases hji : j = i
        · exact .inl hji
        · right
          simpa [Array.getD_eq_getD_getElem?, Array.getElem?_setIfInBounds, Ne.symm hji] using hj
      have hln : ∀ j, l.getD j false = true → (l.setIfInBounds i true).getD j false = true := by
        intro j hj
        by_cases hji : i = j
        · subst hji
          simp [Array.getD_eq_getD_getElem?, Array.getElem?_setIfInBounds, show i < l.size by omega]
        · simpa [Array.getD_eq_getD_getElem?, Array.getElem?_setIfInBounds, hji] using hj
      have hlate : ∀ j, m ≤ j → (l.setIfInBounds i true).getD j false = false := by
        intro j hj
        have := hI.late j hj
        have hne : i ≠ j := by omega
        simpa [Array.getD_eq_getD_getElem?, Array.getElem?_setIfInBounds, hne] using this
      have hclosed : ∀ j oj, ops[j]? = some oj → (l.setIfInBounds i true).getD j false = true → ∀ e ∈ oj.after, Region.binds md e = true → (l.setIfInBounds i true).getD e.on false = true := by
        intro j oj hoj hj e he hb
        rcases hnl j hj with rfl | h
        · rw [hoi] at hoj
          obtain rfl := Option.some.inj hoj
          exact hln _ (h3 oi hoi e he hb)
        · exact hln _ (hI.closed j oj hoj h e he hb)
      have hlt : ∀ j cs t st, j < m → l.getD j false = true → ks j = .new cs t st → G j < w.heap.size := fun j cs t st hj hlj hkj =>
        (Array.getElem?_eq_some_iff.1 (hI.block j cs t st hj hlj hkj).1).1
      -- what holds behind it, the blocks told by H
      have hnext : ∀ (H : Nat → Nat) w1, (∀ j, j ≠ i → H j = G j) → S w1 →
          (∀ j cs t st, j < m → j ≠ i → l.getD j false = true → ks j = .new cs t st → w1.heap[G j]? = some (.cells (contL (l.setIfInBounds i true) cs st) t.1 (0, 0))) →
          (∀ cs t st, ks i = .new cs t st → w1.heap[H i]? = some (.cells (contL (l.setIfInBounds i true) cs st) t.1 (0, 0)) ∧ n0 ≤ H i ∧ w.heap.size ≤ H i) →
          wpAny P md ops Q (p + (ops.size - m)) (l.setIfInBounds i true) (a.put oi.dst (valOf H i (ks i))) w1 := by
        intro H w1 hH hS1 hk hb
        have sG := putVals_spec hc (fun i => valOf G i (ks i)) a0 m (Nat.le_refl m)
        have sH := putVals_spec hc (fun i => valOf H i (ks i)) a0 m (Nat.le_refl m)
        have hps : (a.put oi.dst (valOf H i (ks i))).tmps.size = a.tmps.size ∧ (a.put oi.dst (valOf H i (ks i))).defers = a.defers := by
          cases oi.dst <;> simp [Act.put]
        refine ih _ H _ _ (by simpa using hsz) (by have := unl_set (l := l) him (by omega) h2; omega) ?_ hS1
        refine ⟨by rw [hps.1, hI.size, sG.1, sH.1], by rw [hps.2, hI.defers, sG.2.1, sH.2.1], fun t ht => ?_, hlate, hclosed, fun j cs t st hj hlj hkj => ?_, fun j j' cs t st cs' t' st' hj hj' hne hlj hlj' hc1 hd1 => ?_⟩
        · by_cases htd : oi.dst = some t
          · rw [htd]
            simp only [Act.put]
            rw [Array.getElem?_setIfInBounds_self, sH.2.2.2 i oi t him hoi htd, hI.size, sG.1]
          · have e1 : (a.put oi.dst (valOf H i (ks i))).tmps[t]? = a.tmps[t]? := by
              cases hdd : oi.dst with
              | none => rfl
              | some d =>
                simp only [Act.put]
                exact Array.getElem?_setIfInBounds_ne fun e => htd (by rw [hdd, e])
            have hall : ∀ j oj, j < m → ops[j]? = some oj → oj.dst = some t → l.getD j false = true := by
              intro j oj hj hoj hdj
              rcases hnl j (ht j oj hj hoj hdj) with rfl | h
              · rw [hoi] at hoj
                obtain rfl := Option.some.inj hoj
                exact absurd hdj htd
              · exact h
            rw [e1, hI.slot t hall]
            by_cases hex2 : ∃ j oj, j < m ∧ ops[j]? = some oj ∧ oj.dst = some t
            · obtain ⟨j, oj, hj, hoj, hdj⟩ := hex2
              have hji : j ≠ i := by
                rintro rfl
                rw [hoi] at hoj
                obtain rfl := Option.some.inj hoj
                exact htd hdj
              rw [sG.2.2.2 j oj t hj hoj hdj, sH.2.2.2 j oj t hj hoj hdj]
              have : valOf G j (ks j) = valOf H j (ks j) := by
                unfold valOf
                rw [hH j hji]
              simp only [this]
            · have hno : ∀ j oj, j < m → ops[j]? = some oj → oj.dst = some t → m ≤ j := fun j oj hj hoj hdj => absurd ⟨j, oj, hj, hoj, hdj⟩ hex2
              rw [sG.2.2.1 t hno, sH.2.2.1 t hno]
        · by_cases hji : j = i
          · subst hji
            exact ⟨(hb cs t st hkj).1, (hb cs t st hkj).2.1⟩
          · have h : l.getD j false = true := (hnl j hlj).resolve_left hji
            rw [hH j hji]
            exact ⟨hk j cs t st hj hji h hkj, (hI.block j cs t st hj h hkj).2⟩
        · by_cases hji : j = i
          · subst hji
            have hj'i : j' ≠ j := fun e => hne e.symm
            have hl' : l.getD j' false = true := (hnl j' hlj').resolve_left hj'i
            rw [hH j' hj'i]
            have h5 := (hb cs t st hc1).2.2
            have h6 := hlt j' cs' t' st' hj' hl' hd1
            omega
          · have hl1 : l.getD j false = true := (hnl j hlj).resolve_left hji
            by_cases hj'i : j' = i
            · subst hj'i
              rw [hH j hji]
              have h5 := (hb cs' t' st' hd1).2.2
              have h6 := hlt j cs t st hj hl1 hc1
              omega
            · have hl2 : l.getD j' false = true := (hnl j' hlj').resolve_left hj'i
              rw [hH j hji, hH j' hj'i]
              exact hI.apart j j' cs t st cs' t' st' hj hj' hne hl1 hl2 hc1 hd1
      -- a block's content is told anew by its own store alone
      have hsame : ∀ j cs t st, j < m → ks j = .new cs t st → (∀ j' c, ks i = .sto j' c → j' ≠ j) → contL (l.setIfInBounds i true) cs st = contL l cs st := by
        intro j cs t st hj hkj hno
        cases st with
        | none => rfl
        | some sc =>
          obtain ⟨s, c⟩ := sc
          have hsi : s ≠ i := by
            rintro rfl
            exact hno j c (hstm j cs t s c hj hkj).2 rfl
          unfold contL
          simp only
          have : (l.setIfInBounds i true).getD s false = l.getD s false := by
            simp [Array.getD_eq_getD_getElem?, Array.getElem?_setIfInBounds, Ne.symm hsi]
          rw [this]
      have hkeep : ∀ w1 : World, (∀ j', ¬ ∃ c, ks i = .sto j' c) → (∀ k, k < w.heap.size → w1.heap[k]? = w.heap[k]?) → ∀ j cs t st, j < m → j ≠ i → l.getD j false = true → ks j = .new cs t st → w1.heap[G j]? = some (.cells (contL (l.setIfInBounds i true) cs st) t.1 (0, 0)) := by
        intro w1 hno hk j cs t st hj _ hlj hkj
        rw [hk _ (hlt j cs t st hj hlj hkj), hsame j cs t st hj hkj (fun j' c hh => absurd ⟨c, hh⟩ (hno j'))]
        exact (hI.block j cs t st hj hlj hkj).1
      unfold Go.wpOp
      simp only [hoi]
      cases hk : ks i with
      | det v =>
        have hno : ∀ (w1 : World) cs t st, ks i = .new cs t st → w1.heap[G i]? = some (.cells (contL (l.setIfInBounds i true) cs st) t.1 (0, 0)) ∧ n0 ≤ G i ∧ w.heap.size ≤ G i := fun _ cs t st h => by rw [hk] at h; cases h
        have hnos : ∀ j', ¬ ∃ c, ks i = .sto j' c := fun j' ⟨c, h⟩ => by rw [hk] at h; cases h
        have hv : valOf G i (ks i) = v := by rw [hk]; rfl
        rcases hK.det G i oi v him hoi hk with ⟨hw, hv0⟩ | ⟨hw, hrun⟩
        · rw [hwa, hw]
          simp only [Bool.false_eq_true, if_false]
          have := hnext G w (fun _ _ => rfl) hSw (hkeep w hnos fun _ _ => rfl) (hno w)
          rw [hv, hv0] at this
          exact this
        · rw [hwa, hw]
          simp only [if_true]
          left
          unfold Oper.wp
          rw [hex]
          rcases hrun w hSw with hr | ⟨f, args, hr, hcall⟩
          · rw [hr, Oper.upon_value]
            have := hnext G w (fun _ _ => rfl) hSw (hkeep w hnos fun _ _ => rfl) (hno w)
            rw [hv] at this
            exact this
          · rw [hr, Oper.upon_enter]
            refine hcall.mono fun e w1 ⟨he, hb1⟩ => ?_
            subst he
            have := hnext G w1 (fun _ _ => rfl) (hS w w1 hSw (Below.less hb1 (hn0 w hSw))) (hkeep w1 hnos fun k hk => hb1.block k hk) (hno w1)
            rw [hv] at this
            exact this
      | new cs t st =>
        have hnos : ∀ j', ¬ ∃ c, ks i = .sto j' c := fun j' ⟨c, h⟩ => by rw [hk] at h; cases h
        obtain ⟨_, ⟨hw, hrun⟩, _⟩ := hK.new G i oi cs t st him hoi hk
        rw [hwa, hw]
        simp only [if_true]
        left
        unfold Oper.wp
        rw [hex, hrun w hSw, Oper.upon_value]
        have hbel : Below w.heap.size w (w.alloc (.cells cs t.1 (0, 0))) := below_alloc (Below.refl _ _) _
        have hcont : contL (l.setIfInBounds i true) cs st = cs := by
          rw [hsame i cs t st him hk (fun j' c hh => absurd ⟨c, hh⟩ (hnos j'))]
          cases st with
          | none => rfl
          | some sc =>
            obtain ⟨s, c⟩ := sc
            obtain ⟨hs, hks⟩ := hstm i cs t s c him hk
            obtain ⟨_, _, htb⟩ := hK.new G i oi cs t _ him hoi hk
            obtain ⟨_, _, ⟨o, ho, _, e, he, hb, hon⟩, _⟩ := allB_tb hc (htb s c rfl)
            have : l.getD s false = false := by
              cases hls : l.getD s false with
              | false => rfl
              | true =>
                have := hI.closed s o ho hls e he hb
                rw [hon, hil] at this
                cases this
            unfold contL
            simp only
            rw [this, if_neg (by decide)]
        have := hnext (fun j => if j = i then w.heap.size else G j) (w.alloc (.cells cs t.1 (0, 0))) (fun j hj => if_neg hj) (hS w _ hSw (Below.less hbel (hn0 w hSw))) (hkeep _ hnos fun k hk => hbel.block k hk) (fun cs' t' st' hk' => by
          rw [hk] at hk'
          injection hk' with e1 e2 e3
          subst e1
          subst e2
          subst e3
          simp only [if_true]
          rw [hcont]
          exact ⟨blk_new w _, hn0 w hSw, Nat.le_refl _⟩)
        rw [hk] at this
        simpa [valOf] using this
      | sto j c =>
        obtain ⟨hdn, hjtb, cs, t, hkj, hw, hrun⟩ := hK.sto G i oi j c him hoi hk
        obtain ⟨hjm, _, ⟨o', ho', _, e, he, hb, hon⟩, _⟩ := allB_tb hc hjtb
        rw [hoi] at ho'
        obtain rfl := Option.some.inj ho'
        have hlj : l.getD j false = true := by
          rw [← hon]
          exact h3 oi hoi e he hb
        have hbl := hI.block j cs t _ hjm hlj hkj
        have hcl : contL l cs (some (i, c)) = cs := by
          unfold contL
          simp only
          rw [hil, if_neg (by decide)]
        rw [hcl] at hbl
        obtain ⟨w1, hr, hmut, hc1⟩ := hrun w hSw hbl.1 hbl.2
        rw [hwa, hw]
        simp only [if_true]
        left
        unfold Oper.wp
        rw [hex, hr, Oper.upon_skip, hdn]
        have := hnext G w1 (fun _ _ => rfl) (hS w w1 hSw (hmut.below hbl.2)) (fun j' cs' t' st' hj' _ hlj' hkj' => ?_) (fun cs' t' st' hk' => by rw [hk] at hk'; cases hk')
        · rw [hdn] at this
          exact this
        · by_cases hjj : j' = j
          · subst hjj
            rw [hkj] at hkj'
            injection hkj' with e1 e2 e3
            subst e1
            subst e2
            subst e3
            rw [hc1]
            have : (l.setIfInBounds i true).getD i false = true := by
              simp [Array.getD_eq_getD_getElem?, Array.getElem?_setIfInBounds, show i < l.size by omega]
            unfold contL
            simp only
            rw [if_pos this]
          · have hne := hI.apart j' j cs' t' st' cs t _ hj' hjm hjj hlj' hlj hkj' hkj
            rw [hmut.block _ hne, hsame j' cs' t' st' hj' hkj' (fun j2 c2 hh => by
              rw [hk] at hh
              injection hh with e1
              subst e1
              exact fun e => hjj e.symm)]
            exact (hI.block j' cs' t' st' hj' hlj' hkj').1
/-! ### the walk -/
/-- A block that has been made: by which operation, for which slot, with what in it, and what is stored into it by which operation. -/
structure Pend where
  j : Nat
  N : Tmp
  cs : Array Value
  t : TypeId × Nat
  st : Option (Nat × Array Value)
/-- The blocks that have been made, one by one. -/
def endG (K : Act → World → Prop) (n0 : Nat) : List Pend → List Nat → Act → World → Prop
  | [], _, a, w => K a w
  | p :: ps, av, a, w => match p.t.2 with
    | 0 => ∀ g, g ∉ av → w.heap[g]? = some (.cells (contE p.cs p.st) p.t.1 (0, 0)) → n0 ≤ g → endG K n0 ps (g :: av) (a.put (some p.N) (.pointer (some ⟨g, 0, none⟩))) w
    | n + 1 => ∀ g, g ∉ av → w.heap[g]? = some (.cells (contE p.cs p.st) p.t.1 (0, 0)) → n0 ≤ g → endG K n0 ps (g :: av) (a.put (some p.N) (.slice (some ⟨g, 0, none⟩) n n)) w
theorem endG_cons {K : Act → World → Prop} {n0 : Nat} {p : Pend} {ps : List Pend} {av : List Nat} {a : Act} {w : World} (h : endG K n0 (p :: ps) av a w) (g : Nat) (h1 : g ∉ av) (h2 : w.heap[g]? = some (.cells (contE p.cs p.st) p.t.1 (0, 0))) (h3 : n0 ≤ g) : endG K n0 ps (g :: av) (a.put (some p.N) (nv p.t.2 g)) w := by
  unfold endG at h
  obtain ⟨j, N, cs, ⟨t, n⟩, st⟩ := p
  cases n with
  | zero => exact h g h1 h2 h3
  | succ n => exact h g h1 h2 h3
/-- The operations one by one, in their own order. -/
def wpSeq (P : Program) (ops : Array Oper) (S : World → Prop) (K : Act → World → Prop) (n0 : Nat) (tb : List (Nat × Nat)) : List Oper → Nat → Act → List Pend → Prop
  | [], _, a, ps => ∀ w, S w → endG K n0 ps [] a w
  | o :: os, off, a, ps => (∃ v, o.dst.isSome = true ∧ isNew o = false ∧ Does P ops S o a v ∧ wpSeq P ops S K n0 tb os (off + 1) (a.put o.dst v) ps) ∨
    (∃ N cs t st, o.dst = some N ∧ isNew o = true ∧ News P ops S o a cs t ∧ (∀ s c, st = some (s, c) → (off, s) ∈ tb) ∧ wpSeq P ops S K n0 tb os (off + 1) a (ps ++ [⟨off, N, cs, t, st⟩])) ∨
    (∃ p c, p ∈ ps ∧ p.st = some (off, c) ∧ o.dst = none ∧ (p.j, off) ∈ tb ∧ (∀ g, Stores P ops S n0 o (a.put (some p.N) (nv p.t.2 g)) g p.cs p.t c) ∧ wpSeq P ops S K n0 tb os (off + 1) a ps)
def putK (a : Act) (p : Oper × Knd) : Act := match p.2 with
  | .det v => a.put p.1.dst v
  | _ => a
def newsK : Nat → List (Oper × Knd) → List Pend
  | _, [] => []
  | off, p :: L => (match p.2, p.1.dst with
    | .new cs t st, some N => [⟨off, N, cs, t, st⟩]
    | _, _ => []) ++ newsK (off + 1) L
theorem wpSeq_vals {K : Act → World → Prop} {n0 : Nat} {tb : List (Nat × Nat)} (os : List Oper) : ∀ (off : Nat) (a : Act) (ps : List Pend), wpSeq P ops S K n0 tb os off a ps → ∃ ks : List Knd, ks.length = os.length ∧
    (∀ k o v, os[k]? = some o → ks[k]? = some (.det v) → o.dst.isSome = true ∧ isNew o = false ∧ Does P ops S o (((os.zip ks).take k).foldl putK a) v) ∧
    (∀ k o cs t st, os[k]? = some o → ks[k]? = some (.new cs t st) → o.dst.isSome = true ∧ isNew o = true ∧ News P ops S o (((os.zip ks).take k).foldl putK a) cs t ∧ ∀ s c, st = some (s, c) → (off + k, s) ∈ tb) ∧
    (∀ k o j c, os[k]? = some o → ks[k]? = some (.sto j c) → o.dst = none ∧ (j, off + k) ∈ tb ∧ ∃ N cs t, ((⟨j, N, cs, t, some (off + k, c)⟩ : Pend) ∈ ps ∨ ∃ k' o', off + k' = j ∧ os[k']? = some o' ∧ o'.dst = some N ∧ ks[k']? = some (.new cs t (some (off + k, c)))) ∧
      ∀ g, Stores P ops S n0 o ((((os.zip ks).take k).foldl putK a).put (some N) (nv t.2 g)) g cs t c) ∧
    ∀ w, S w → endG K n0 (ps ++ newsK off (os.zip ks)) [] ((os.zip ks).foldl putK a) w := by
  induction os with
  | nil =>
    intro off a ps h
    exact ⟨[], rfl, fun k o v ho => by simp at ho, fun k o cs t st ho => by simp at ho, fun k o j c ho => by simp at ho, by simpa [wpSeq, newsK] using h⟩
  | cons o os ih =>
    intro off a ps h
    have hsh : ∀ k, off + 1 + k = off + (k + 1) := fun k => by omega
    rcases h with ⟨v, hs, hn, hd, h⟩ | ⟨N, cs, t, st, hN, hn, hd, htb, h⟩ | ⟨p, c, hp, hps, hdn, hptb, hst, h⟩
    · obtain ⟨ks, hl, h1, h2, h3, h4⟩ := ih _ _ _ h
      refine ⟨.det v :: ks, by simp [hl], fun k o' v' ho hk => ?_, fun k o' cs t st ho hk => ?_, fun k o' j c ho hk => ?_, by simpa [putK, newsK] using h4⟩
      · cases k with
        | zero =>
          simp only [List.getElem?_cons_zero, Option.some.injEq, Knd.det.injEq] at ho hk
          subst ho
          subst hk
          exact ⟨hs, hn, by simpa using hd⟩
        | succ k => simpa [putK] using h1 k o' v' (by simpa using ho) (by simpa using hk)
      · cases k with
        | zero => simp at hk
        | succ k =>
          have := h2 k o' cs t st (by simpa using ho) (by simpa using hk)
          rw [hsh] at this
          simpa [putK] using this
      · cases k with
        | zero => simp at hk
        | succ k =>
          obtain ⟨a1, a2, N, cs, t, a3, a4⟩ := h3 k o' j c (by simpa using ho) (by simpa using hk)
          rw [hsh] at a2 a3
          refine ⟨a1, a2, N, cs, t, a3.imp id ?_, by simpa [putK] using a4⟩
          rintro ⟨k', o'', e1, e2, e3, e4⟩
          exact ⟨k' + 1, o'', by omega, by simpa using e2, e3, by simpa using e4⟩
    · obtain ⟨ks, hl, h1, h2, h3, h4⟩ := ih _ _ _ h
      refine ⟨.new cs t st :: ks, by simp [hl], fun k o' v' ho hk => ?_, fun k o' cs' t' st' ho hk => ?_, fun k o' j c ho hk => ?_, ?_⟩
      · cases k with
        | zero => simp at hk
        | succ k => simpa [putK] using h1 k o' v' (by simpa using ho) (by simpa using hk)
      · cases k with
        | zero =>
          simp only [List.getElem?_cons_zero, Option.some.injEq, Knd.new.injEq] at ho hk
          subst ho
          obtain ⟨rfl, rfl, rfl⟩ := hk
          exact ⟨by rw [hN]; rfl, hn, by simpa using hd, htb⟩
        | succ k =>
          have := h2 k o' cs' t' st' (by simpa using ho) (by simpa using hk)
          rw [hsh] at this
          simpa [putK] using this
      · cases k with
        | zero => simp at hk
        | succ k =>
          obtain ⟨a1, a2, N', cs', t', a3, a4⟩ := h3 k o' j c (by simpa using ho) (by simpa using hk)
          rw [hsh] at a2 a3
          refine ⟨a1, a2, N', cs', t', ?_, by simpa [putK] using a4⟩
          rcases a3 with a3 | ⟨k', o'', e1, e2, e3, e4⟩
          · rcases List.mem_append.1 a3 with a3 | a3
            · exact .inl a3
            · rw [List.mem_singleton] at a3
              injection a3 with b1 b2 b3 b4 b5
              refine .inr ⟨0, o, by omega, rfl, by rw [b2]; exact hN, ?_⟩
              rw [b3, b4, b5]; rfl
          · exact .inr ⟨k' + 1, o'', by omega, by simpa using e2, e3, by simpa using e4⟩
      · intro w hS
        have := h4 w hS
        simpa [putK, newsK, hN] using this
    · obtain ⟨ks, hl, h1, h2, h3, h4⟩ := ih _ _ _ h
      refine ⟨.sto p.j c :: ks, by simp [hl], fun k o' v' ho hk => ?_, fun k o' cs t st ho hk => ?_, fun k o' j c' ho hk => ?_, by simpa [putK, newsK] using h4⟩
      · cases k with
        | zero => simp at hk
        | succ k => simpa [putK] using h1 k o' v' (by simpa using ho) (by simpa using hk)
      · cases k with
        | zero => simp at hk
        | succ k =>
          have := h2 k o' cs t st (by simpa using ho) (by simpa using hk)
          rw [hsh] at this
          simpa [putK] using this
      · cases k with
        | zero =>
          simp only [List.getElem?_cons_zero, Option.some.injEq, Knd.sto.injEq] at ho hk
          subst ho
          obtain ⟨rfl, rfl⟩ := hk
          refine ⟨hdn, hptb, p.N, p.cs, p.t, .inl ?_, by simpa using hst⟩
          have : (⟨p.j, p.N, p.cs, p.t, some (off + 0, c)⟩ : Pend) = p := by cases p; simp only at hps; rw [hps]; rfl
          rw [this]
          exact hp
        | succ k =>
          obtain ⟨a1, a2, N, cs, t, a3, a4⟩ := h3 k o' j c' (by simpa using ho) (by simpa using hk)
          rw [hsh] at a2 a3
          refine ⟨a1, a2, N, cs, t, a3.imp id ?_, by simpa [putK] using a4⟩
          rintro ⟨k', o'', e1, e2, e3, e4⟩
          exact ⟨k' + 1, o'', by omega, by simpa using e2, e3, by simpa using e4⟩
theorem putK_size (b : Act) (p : Oper × Knd) : (putK b p).tmps.size = b.tmps.size := by
  unfold putK
  split
  · cases p.1.dst <;> simp [Act.put]
  · rfl
theorem putK_defers (b : Act) (p : Oper × Knd) : (putK b p).defers = b.defers := by
  unfold putK
  split
  · cases p.1.dst <;> rfl
  · rfl
theorem put_slot (b : Act) (dst : Option Tmp) (v : Value) {t : Tmp} (h : dst ≠ some t) : (b.put dst v).tmps[t]? = b.tmps[t]? := by
  cases dst with
  | none => rfl
  | some d =>
    simp only [Act.put]
    exact Array.getElem?_setIfInBounds_ne fun e => h (by rw [e])
theorem put_at (b : Act) (d : Tmp) (v : Value) : (b.put (some d) v).tmps[d]? = if d < b.tmps.size then some v else none := by
  simp only [Act.put]
  rw [Array.getElem?_setIfInBounds_self]
theorem foldK_size (L : List (Oper × Knd)) : ∀ b : Act, (L.foldl putK b).tmps.size = b.tmps.size ∧ (L.foldl putK b).defers = b.defers := by
  induction L with
  | nil => exact fun b => ⟨rfl, rfl⟩
  | cons p L ih =>
    intro b
    rw [List.foldl_cons]
    exact ⟨(ih _).1.trans (putK_size b p), (ih _).2.trans (putK_defers b p)⟩
theorem foldK_slot (t : Tmp) (L : List (Oper × Knd)) : ∀ b : Act, (∀ p ∈ L, ∀ v, p.2 = .det v → p.1.dst ≠ some t) → (L.foldl putK b).tmps[t]? = b.tmps[t]? := by
  induction L with
  | nil => intro b _; rfl
  | cons p L ih =>
    intro b h
    rw [List.foldl_cons, ih _ fun q hq => h q (List.mem_cons_of_mem _ hq)]
    unfold putK
    split
    · rename_i v hv
      exact put_slot b _ _ (h p List.mem_cons_self v hv)
    · rfl
theorem foldK_at (L : List (Oper × Knd)) (b : Act) {k : Nat} {o : Oper} {v : Value} {d : Tmp} (hk : L[k]? = some (o, .det v)) (hd : o.dst = some d) (h : ∀ j p, k < j → L[j]? = some p → p.1.dst ≠ some d) :
    (L.foldl putK b).tmps[d]? = if d < b.tmps.size then some v else none := by
  have hkl := (List.getElem?_eq_some_iff.1 hk).1
  have e : L = L.take k ++ (o, .det v) :: L.drop (k + 1) := by
    rw [← (List.getElem?_eq_some_iff.1 hk).2, ← List.drop_eq_getElem_cons hkl, List.take_append_drop]
  rw [e, List.foldl_append, List.foldl_cons, foldK_slot d _ _ fun p hp v' _ => ?_]
  · show ((List.foldl putK b (List.take k L)).put o.dst v).tmps[d]? = _
    rw [hd, put_at, (foldK_size _ _).1]
  · obtain ⟨j, hj, rfl⟩ := List.mem_iff_getElem.1 hp
    rw [List.length_drop] at hj
    rw [List.getElem_drop]
    exact h (k + 1 + j) _ (by omega) (List.getElem?_eq_getElem (by omega))
/-- The blocks' pointers are put. -/
def putNews (G : Nat → Nat) : Nat → List (Oper × Knd) → Act → Act
  | _, [], b => b
  | off, p :: L, b => putNews G (off + 1) L (match p.2 with
    | .new _ t _ => b.put p.1.dst (nv t.2 (G off))
    | _ => b)
theorem putNews_size (G : Nat → Nat) (L : List (Oper × Knd)) : ∀ (off : Nat) (b : Act), (putNews G off L b).tmps.size = b.tmps.size ∧ (putNews G off L b).defers = b.defers := by
  induction L with
  | nil => exact fun _ b => ⟨rfl, rfl⟩
  | cons p L ih =>
    intro off b
    unfold putNews
    obtain ⟨h1, h2⟩ := ih (off + 1) (match p.2 with
      | .new _ t _ => b.put p.1.dst (nv t.2 (G off))
      | _ => b)
    rw [h1, h2]
    split
    · cases p.1.dst <;> simp [Act.put]
    · exact ⟨rfl, rfl⟩
theorem putNews_slot (G : Nat → Nat) (t : Tmp) (L : List (Oper × Knd)) : ∀ (off : Nat) (b : Act), (∀ p ∈ L, ∀ cs tt st, p.2 = .new cs tt st → p.1.dst ≠ some t) → (putNews G off L b).tmps[t]? = b.tmps[t]? := by
  induction L with
  | nil => exact fun _ b _ => rfl
  | cons p L ih =>
    intro off b h
    unfold putNews
    rw [ih _ _ fun q hq => h q (List.mem_cons_of_mem _ hq)]
    split
    · rename_i c tt st hc
      exact put_slot b _ _ (h p List.mem_cons_self c tt st hc)
    · rfl
theorem putNews_at (G : Nat → Nat) (L : List (Oper × Knd)) : ∀ (off : Nat) (b : Act) {k : Nat} {o : Oper} {cs : Array Value} {tt : TypeId × Nat} {st : Option (Nat × Array Value)} {d : Tmp}, L[k]? = some (o, .new cs tt st) → o.dst = some d → (∀ j p, k < j → L[j]? = some p → p.1.dst ≠ some d) →
    (putNews G off L b).tmps[d]? = if d < b.tmps.size then some (nv tt.2 (G (off + k))) else none := by
  induction L with
  | nil => intro off b k o cs tt st d hk; simp at hk
  | cons p L ih =>
    intro off b k o cs tt st d hk hd h
    cases k with
    | zero =>
      simp only [List.getElem?_cons_zero, Option.some.injEq] at hk
      subst hk
      unfold putNews
      rw [putNews_slot G d L _ _ fun q hq _ _ _ _ => ?_]
      · show (b.put o.dst (nv tt.2 (G off))).tmps[d]? = _
        rw [hd, put_at]; rfl
      · obtain ⟨j, hj, rfl⟩ := List.mem_iff_getElem.1 hq
        exact h (j + 1) _ (by omega) (by simp [List.getElem?_eq_getElem hj])
    | succ k =>
      unfold putNews
      have := ih (off + 1) (match p.2 with
        | .new _ t _ => b.put p.1.dst (nv t.2 (G off))
        | _ => b) (k := k) (by simpa using hk) hd (fun j q hj hq => h (j + 1) q (by omega) (by simpa using hq))
      rw [this, show off + 1 + k = off + (k + 1) by omega]
      congr 1
      split
      · cases p.1.dst <;> simp [Act.put]
      · rfl
theorem endG_open {K : Act → World → Prop} {n0 : Nat} {w : World} (G : Nat → Nat) (L : List (Oper × Knd)) : ∀ (off : Nat) (av : List Nat) (b : Act), endG K n0 (newsK off L) av b w →
    (∀ k o cs t st, L[k]? = some (o, .new cs t st) → (∃ d, o.dst = some d) ∧ w.heap[G (off + k)]? = some (.cells (contE cs st) t.1 (0, 0)) ∧ n0 ≤ G (off + k) ∧ G (off + k) ∉ av) →
    (∀ k k' o o' cs t st cs' t' st', k < k' → L[k]? = some (o, .new cs t st) → L[k']? = some (o', .new cs' t' st') → G (off + k') ≠ G (off + k)) → K (putNews G off L b) w := by
  induction L with
  | nil => intro off av b h _ _; exact h
  | cons p L ih =>
    intro off av b h h1 h2
    obtain ⟨o, kd⟩ := p
    have step : ∀ (b' : Act), putNews G off ((o, kd) :: L) b = putNews G (off + 1) L b' → newsK off ((o, kd) :: L) = newsK (off + 1) L → b' = b → K (putNews G off ((o, kd) :: L) b) w := by
      intro b' e1 e2 e3
      rw [e1, e3]
      rw [e2] at h
      refine ih (off + 1) av b h (fun k o' cs t st hk => ?_) (fun k k' o o' cs t st cs' t' st' hlt hk hk' => ?_)
      · have := h1 (k + 1) o' cs t st (by simpa using hk)
        rwa [show off + (k + 1) = off + 1 + k by omega] at this
      · have := h2 (k + 1) (k' + 1) o o' cs t st cs' t' st' (by omega) (by simpa using hk) (by simpa using hk')
        rwa [show off + (k + 1) = off + 1 + k by omega, show off + (k' + 1) = off + 1 + k' by omega] at this
    cases kd with
    | det v => exact step b rfl (by simp [newsK]) rfl
    | sto j c => exact step b rfl (by simp [newsK]) rfl
    | new cs t st =>
      obtain ⟨⟨d, hd⟩, hb, hn, hav⟩ := h1 0 o cs t st rfl
      have e : newsK off ((o, Knd.new cs t st) :: L) = ⟨off, d, cs, t, st⟩ :: newsK (off + 1) L := by
        simp [newsK, hd]
      rw [e] at h
      have h' := endG_cons h (G off) hav hb hn
      have := ih (off + 1) (G off :: av) _ h' (fun k o' cs' t' st' hk => ?_) (fun k k' o o' cs t st cs' t' st' hlt hk hk' => ?_)
      · show K (putNews G (off + 1) L (b.put o.dst _)) w
        rw [hd]
        exact this
      · have h3 := h1 (k + 1) o' cs' t' st' (by simpa using hk)
        have h4 := h2 0 (k + 1) o o' cs t st cs' t' st' (by omega) rfl (by simpa using hk)
        rw [show off + (k + 1) = off + 1 + k by omega] at h3 h4
        refine ⟨h3.1, h3.2.1, h3.2.2.1, ?_⟩
        rw [List.mem_cons]
        rintro (e | e)
        · exact h4 e
        · exact h3.2.2.2 e
      · have := h2 (k + 1) (k' + 1) o o' cs t st cs' t' st' (by omega) (by simpa using hk) (by simpa using hk')
        rwa [show off + (k + 1) = off + 1 + k by omega, show off + (k' + 1) = off + 1 + k' by omega] at this
/-- THE REGION: its first m operations in their own order, each shown once; then the last ones. -/
theorem seq_ {id : Nat} {a : Act} {w : World} (m : Nat) (n0 : Nat) (tb : List (Nat × Nat)) (hm : P.follows .mixedOrders = true) (hc : allB .any ops m tb = true) (hSw : S w.drew) (hS : ∀ w w1, S w → Below n0 w w1 → S w1) (hn0 : ∀ w, S w → n0 ≤ w.heap.size)
    (h : wpSeq P ops S (fun a w => wpAnyLast P .any ops Q (fun _ => True) [] (ops.size - m) (bm ops.size (2 ^ m - 1)) a w) n0 tb (ops.toList.take m) 0 a []) : (Code.region id ops true).wp P Q a w := by
  have hle := allB_le hc
  obtain ⟨ks, hl, h1, h2, h5, h3⟩ := wpSeq_vals _ 0 a [] h
  have hl' : ks.length = m := by rw [hl, List.length_take]; simp; omega
  have hos : ∀ i, i < m → (ops.toList.take m)[i]? = ops[i]? := by
    intro i hi
    rw [List.getElem?_take, if_pos hi]; simp
  have hks : ∀ i, i < m → ks[i]? = some (ks.getD i (.det undef)) := by
    intro i hi
    rw [List.getD_eq_getElem?_getD, List.getElem?_eq_getElem (by omega)]; rfl
  have hzl : ((ops.toList.take m).zip ks).length = m := by simp [hl']; omega
  have hz : ∀ i oi, i < m → ops[i]? = some oi → ((ops.toList.take m).zip ks)[i]? = some (oi, ks.getD i (.det undef)) := by
    intro i oi hi hoi
    rw [List.getElem?_zip_eq_some]
    exact ⟨(hos i hi).trans hoi, hks i hi⟩
  have hzo : ∀ i p, ((ops.toList.take m).zip ks)[i]? = some p → i < m ∧ ops[i]? = some p.1 ∧ ks.getD i (.det undef) = p.2 := by
    intro i p hp
    have hi : i < m := by have := (List.getElem?_eq_some_iff.1 hp).1; omega
    rw [List.getElem?_zip_eq_some] at hp
    refine ⟨hi, (hos i hi).symm.trans hp.1, ?_⟩
    exact Option.some.inj ((hks i hi).symm.trans hp.2)
  -- a slot that an operation looks at, but for a block's
  have hdet : ∀ (G : Nat → Nat) i oi, i < m → ops[i]? = some oi → ∀ t, t ∈ oi.looksAt ops → (∀ j oj, j < m → ops[j]? = some oj → oj.dst = some t → isNew oj = false) → ((((ops.toList.take m).zip ks).take i).foldl putK a).tmps[t]? = (putVals ops (fun i => valOf G i (ks.getD i (.det undef))) a m).tmps[t]? := by
    intro G i oi hi hoi t ht hnn
    have sp := putVals_spec hc (fun i => valOf G i (ks.getD i (.det undef))) a m (Nat.le_refl m)
    by_cases hex : ∃ j oj, j < m ∧ ops[j]? = some oj ∧ oj.dst = some t
    · obtain ⟨j, oj, hj, hoj, hdj⟩ := hex
      obtain ⟨hlt, hlk⟩ := allB_at hc hi hoi
      obtain ⟨_, e, he, hb, hon⟩ := (hlk j oj t hj hoj hdj).2 ht
      have hnj := hnn j oj hj hoj hdj
      have hji : j < i := by rw [← hon]; exact hlt e he hb
      rw [sp.2.2.2 j oj t hj hoj hdj]
      cases hkj : ks.getD j (.det undef) with
      | new cs tt st =>
        have := (h2 j oj cs tt st ((hos j hj).trans hoj) (by rw [hks j hj, hkj])).2.1
        rw [hnj] at this
        cases this
      | sto j' c =>
        have := (h5 j oj j' c ((hos j hj).trans hoj) (by rw [hks j hj, hkj])).1
        rw [hdj] at this
        cases this
      | det v =>
        refine foldK_at _ _ (k := j) (o := oj) (v := v) ?_ hdj fun k p hk hp => ?_
        · rw [List.getElem?_take, if_pos hji, hz j oj hj hoj, hkj]
        · have hki : k < i := by
            have := (List.getElem?_eq_some_iff.1 hp).1
            rw [List.length_take] at this; omega
          rw [List.getElem?_take, if_pos hki] at hp
          obtain ⟨hkm, hok, _⟩ := hzo k p hp
          exact ((allB_at hc hkm hok).2 j oj t hj hoj hdj).1 (by omega)
    · rw [sp.2.2.1 t fun j oj hj hoj hdj => absurd ⟨j, oj, hj, hoj, hdj⟩ hex]
      refine foldK_slot t _ _ fun p hp v _ hd => hex ?_
      obtain ⟨k, hk, rfl⟩ := List.mem_iff_getElem.1 hp
      rw [List.length_take] at hk
      rw [List.getElem_take] at hd
      obtain ⟨hkm, hok, _⟩ := hzo k _ (List.getElem?_eq_getElem (by omega))
      exact ⟨k, _, hkm, hok, hd⟩
  -- an operation that writes a slot looks at no block's
  have hno : ∀ i oi, i < m → ops[i]? = some oi → oi.dst.isSome = true → ∀ t, t ∈ oi.looksAt ops → ∀ j oj, j < m → ops[j]? = some oj → oj.dst = some t → isNew oj = false := by
    intro i oi hi hoi hs t ht j oj hj hoj hdj
    rcases (((allB_at hc hi hoi).2 j oj t hj hoj hdj).2 ht).1 with h | h
    · exact h
    · obtain ⟨_, _, ⟨o, ho, hdn, _⟩, _⟩ := allB_tb hc h
      rw [hoi] at ho
      obtain rfl := Option.some.inj ho
      rw [hdn] at hs
      cases hs
  have hKinds : Kinds P ops S m tb a (fun i => ks.getD i (.det undef)) n0 := by
    refine ⟨fun G i oi v hi hoi hk => ?_, fun G i oi cs t st hi hoi hk => ?_, fun G i oi j c hi hoi hk => ?_, fun i oi hi hoi hdn => ?_⟩
    · obtain ⟨hs, _, hd⟩ := h1 i oi v ((hos i hi).trans hoi) (by rw [hks i hi, hk])
      obtain ⟨hex, hwa⟩ := looks_congr (fun cs b => Region.noSelect_spec (allB_select hc) i oi cs b hoi) (fun t ht => hdet G i oi hi hoi t ht (hno i oi hi hoi hs t ht))
      unfold Does at *
      rw [← hex, ← hwa]
      exact hd
    · obtain ⟨hs, _, hd, htb⟩ := h2 i oi cs t st ((hos i hi).trans hoi) (by rw [hks i hi, hk])
      obtain ⟨hex, hwa⟩ := looks_congr (fun cs b => Region.noSelect_spec (allB_select hc) i oi cs b hoi) (fun t ht => hdet G i oi hi hoi t ht (hno i oi hi hoi hs t ht))
      rw [Nat.zero_add] at htb
      refine ⟨hs, ?_, htb⟩
      unfold News at *
      rw [← hex, ← hwa]
      exact hd
    · obtain ⟨hdn, hjtb, N, cs, t, hor, hst⟩ := h5 i oi j c ((hos i hi).trans hoi) (by rw [hks i hi, hk])
      rw [Nat.zero_add] at hjtb hor
      rcases hor with hor | ⟨k', o', e1, e2, e3, e4⟩
      · cases hor
      have e1 : k' = j := by omega
      subst e1
      have hjm : k' < m := (allB_tb hc hjtb).1
      rw [hos k' hjm] at e2
      rw [hks k' hjm] at e4
      have e4 := Option.some.inj e4
      refine ⟨hdn, hjtb, cs, t, e4, ?_⟩
      have sp := putVals_spec hc (fun i => valOf G i (ks.getD i (.det undef))) a m (Nat.le_refl m)
      obtain ⟨hex, hwa⟩ := looks_congr (a := ((((ops.toList.take m).zip ks).take i).foldl putK a).put (some N) (nv t.2 (G k'))) (b := putVals ops (fun i => valOf G i (ks.getD i (.det undef))) a m) (fun cs b => Region.noSelect_spec (allB_select hc) i oi cs b hoi) (fun t' ht' => by
        by_cases htN : t' = N
        · subst htN
          rw [put_at, (foldK_size _ _).1, sp.2.2.2 k' o' t' hjm e2 e3, e4]
          rfl
        · rw [put_slot _ _ _ (fun e => htN (Option.some.inj e).symm)]
          refine hdet G i oi hi hoi t' ht' fun j' oj' hj' hoj' hdj' => ?_
          rcases (((allB_at hc hi hoi).2 j' oj' t' hj' hoj' hdj').2 ht').1 with h | h
          · exact h
          · have := (allB_tb hc hjtb).2.2.2 j' h
            subst this
            rw [e2] at hoj'
            obtain rfl := Option.some.inj hoj'
            rw [e3] at hdj'
            exact absurd (Option.some.inj hdj').symm htN)
      have := hst (G k')
      unfold Stores at *
      rw [← hex, ← hwa]
      exact this
    · cases hki : ks.getD i (.det undef) with
      | det v =>
        have := (h1 i oi v ((hos i hi).trans hoi) (by rw [hks i hi, hki])).1
        rw [hdn] at this
        cases this
      | new cs t st =>
        have := (h2 i oi cs t st ((hos i hi).trans hoi) (by rw [hks i hi, hki])).1
        rw [hdn] at this
        cases this
      | sto j c => exact ⟨j, c, rfl⟩
  refine wp_region_any hm ?_
  suffices key : wpAny P .any ops Q (m + (ops.size - m)) (Array.replicate ops.size false) a w.drew by
    rw [show m + (ops.size - m) = ops.size by omega] at key
    exact key
  refine all_go (Q := Q) hc a (fun i => ks.getD i (.det undef)) n0 hS hn0 hKinds (fun G w hSw hb hap => ?_) m (Array.replicate ops.size false) (fun _ => 0) a w.drew (by simp) ?_ ?_ hSw
  · have h4 := endG_open G _ 0 [] _ (by simpa using h3 w hSw) (fun k o cs t st hk => ?_) (fun k k' o o' cs t st cs' t' st' hlt hk hk' => ?_)
    · have e : putNews G 0 ((ops.toList.take m).zip ks) (((ops.toList.take m).zip ks).foldl putK a) = putVals ops (fun i => valOf G i (ks.getD i (.det undef))) a m := by
        have sp := putVals_spec hc (fun i => valOf G i (ks.getD i (.det undef))) a m (Nat.le_refl m)
        have z1 := putNews_size G ((ops.toList.take m).zip ks) 0 (((ops.toList.take m).zip ks).foldl putK a)
        have z2 := foldK_size ((ops.toList.take m).zip ks) a
        have hslot : ∀ t : Tmp, (putNews G 0 ((ops.toList.take m).zip ks) (((ops.toList.take m).zip ks).foldl putK a)).tmps[t]? = (putVals ops (fun i => valOf G i (ks.getD i (.det undef))) a m).tmps[t]? := by
          intro t
          by_cases hex : ∃ j oj, j < m ∧ ops[j]? = some oj ∧ oj.dst = some t
          · obtain ⟨j, oj, hj, hoj, hdj⟩ := hex
            have honly : ∀ k p, ((ops.toList.take m).zip ks)[k]? = some p → k ≠ j → p.1.dst ≠ some t := by
              intro k p hp hkj
              obtain ⟨hkm, hok, _⟩ := hzo k p hp
              exact ((allB_at hc hkm hok).2 j oj t hj hoj hdj).1 (Ne.symm hkj)
            rw [sp.2.2.2 j oj t hj hoj hdj]
            cases hkj : ks.getD j (.det undef) with
            | new cs tt st =>
              rw [putNews_at G _ 0 _ (k := j) (o := oj) (cs := cs) (tt := tt) (st := st) (d := t) (by rw [hz j oj hj hoj, hkj]) hdj (fun k p hk hp => honly k p hp (by omega)), z2.1, Nat.zero_add]
              rfl
            | sto j' c =>
              have := (h5 j oj j' c ((hos j hj).trans hoj) (by rw [hks j hj, hkj])).1
              rw [hdj] at this
              cases this
            | det v =>
              rw [putNews_slot G t _ _ _ fun p hp cs tt st hc' => ?_]
              · exact foldK_at _ _ (k := j) (v := v) (by rw [hz j oj hj hoj, hkj]) hdj (fun k p hk hp => honly k p hp (by omega))
              · obtain ⟨k, hk, rfl⟩ := List.mem_iff_getElem.1 hp
                have hp2 := List.getElem?_eq_getElem hk
                refine honly k _ hp2 ?_
                rintro rfl
                obtain ⟨_, _, hk3⟩ := hzo k _ hp2
                rw [hkj] at hk3
                rw [← hk3] at hc'
                cases hc'
          · rw [sp.2.2.1 t fun j oj hj hoj hdj => absurd ⟨j, oj, hj, hoj, hdj⟩ hex]
            have hno : ∀ p ∈ (ops.toList.take m).zip ks, p.1.dst ≠ some t := by
              intro p hp hd
              obtain ⟨k, hk, rfl⟩ := List.mem_iff_getElem.1 hp
              obtain ⟨hkm, hok, _⟩ := hzo k _ (List.getElem?_eq_getElem hk)
              exact hex ⟨k, _, hkm, hok, hd⟩
            rw [putNews_slot G t _ _ _ fun p hp _ _ _ _ => hno p hp, foldK_slot t _ _ fun p hp _ _ => hno p hp]
        generalize putNews G 0 ((ops.toList.take m).zip ks) (((ops.toList.take m).zip ks).foldl putK a) = x at z1 hslot ⊢
        have s2 := sp.2.1
        generalize putVals ops (fun i => valOf G i (ks.getD i (.det undef))) a m = y at s2 hslot ⊢
        have hde : x.defers = y.defers := z1.2.trans (z2.2.trans s2.symm)
        cases x with | mk xt xd => cases y with | mk yt yd =>
        simp only at hslot hde
        subst hde
        congr 1
        exact Array.ext_getElem? hslot
      rw [e] at h4
      exact wpAny_of_last _ _ _ _ h4
    · obtain ⟨hkm, hok, hk3⟩ := hzo k _ hk
      have hb' := hb k cs t st hkm hk3
      have hs := (h2 k o cs t st ((hos k hkm).trans hok) (by rw [hks k hkm, hk3])).1
      exact ⟨Option.isSome_iff_exists.1 hs, by rw [Nat.zero_add]; exact hb'.1, by rw [Nat.zero_add]; exact hb'.2, by simp⟩
    · obtain ⟨hkm, _, hk3⟩ := hzo k _ hk
      obtain ⟨hkm', _, hk3'⟩ := hzo k' _ hk'
      rw [Nat.zero_add, Nat.zero_add]
      exact hap k' k cs' t' st' cs t st hkm' hkm (by omega) hk3' hk3
  · unfold unl
    rw [Array.toList_replicate, List.take_replicate, List.countP_replicate]
    simp
    omega
  · have sp := putVals_spec hc (fun i => valOf (fun _ => 0) i (ks.getD i (.det undef))) a m (Nat.le_refl m)
    have hf : ∀ i, (Array.replicate ops.size false).getD i false = false := by
      intro i
      by_cases hi : i < ops.size
      · simp [Array.getD_eq_getD_getElem?, hi]
      · simp [Array.getD_eq_getD_getElem?, hi]
    refine ⟨sp.1.symm, sp.2.1.symm, fun t ht => (sp.2.2.1 t fun i oi him hoi hd => ?_).symm, fun i _ => hf i, fun i oi _ hl' => ?_, fun i cs t st _ hl' => ?_, fun i j cs t st cs' t' st' _ _ _ hl' => ?_⟩
    · have := ht i oi him hoi hd
      rw [hf] at this
      cases this
    · rw [hf] at hl'; cases hl'
    · rw [hf] at hl'; cases hl'
    · rw [hf] at hl'; cases hl'
/-! ### its steps, by the operations' numbers -/
def wpAt (P : Program) (ops : Array Oper) (S : World → Prop) (K : Act → World → Prop) (n0 : Nat) (tb : List (Nat × Nat)) (m i : Nat) (a : Act) (ps : List Pend) : Prop := wpSeq P ops S K n0 tb ((ops.toList.take m).drop i) i a ps
theorem drop_at {m i : Nat} {o : Oper} (hi : ops[i]? = some o) (him : i < m) : (ops.toList.take m).drop i = o :: (ops.toList.take m).drop (i + 1) := by
  obtain ⟨h1, h2⟩ := Array.getElem?_eq_some_iff.1 hi
  have hl : i < (ops.toList.take m).length := by rw [List.length_take]; simp; omega
  rw [List.drop_eq_getElem_cons hl]
  simp [h2]
theorem region_ {id : Nat} {a : Act} {w : World} (m : Nat) (n0 : Nat) (tb : List (Nat × Nat)) (hm : P.follows .mixedOrders = true) (hc : allB .any ops m tb = true) (hSw : S w.drew) (hS : ∀ w w1, S w → Below n0 w w1 → S w1) (hn0 : ∀ w, S w → n0 ≤ w.heap.size)
    (h : wpAt P ops S (fun a w => wpAnyLast P .any ops Q (fun _ => True) [] (ops.size - m) (bm ops.size (2 ^ m - 1)) a w) n0 tb m 0 a []) : (Code.region id ops true).wp P Q a w := seq_ m n0 tb hm hc hSw hS hn0 h
section
variable {K : Act → World → Prop} {n0 m i j : Nat} {tb : List (Nat × Nat)} {ps : List Pend} {o : Oper} {a a' : Act} {N : Tmp}
theorem atV_ (v : Value) (hi : ops[i]? = some o) (hd : o.dst = some N) (hn : (!isNew o && decide (i < m)) = true) (hj : i + 1 = j) (hw : Region.wanted o (yielded ops a.tmps) = true) (hy : ∀ w, S w → (execOp a.eval o).run P w = .ok (.value v) w)
    (ha : a.put (some N) v = a') (h : wpAt P ops S K n0 tb m j a' ps) : wpAt P ops S K n0 tb m i a ps := by
  simp only [Bool.and_eq_true, Bool.not_eq_true', decide_eq_true_eq] at hn
  subst hj
  unfold wpAt
  rw [drop_at hi hn.2]
  exact .inl ⟨v, by rw [hd]; rfl, hn.1, .inr ⟨hw, fun w hS => .inl (hy w hS)⟩, by rw [hd, ha]; exact h⟩
theorem atO_ (hi : ops[i]? = some o) (hd : o.dst = some N) (hn : (!isNew o && decide (i < m)) = true) (hj : i + 1 = j) (hw : Region.wanted o (yielded ops a.tmps) = false)
    (ha : a.put (some N) undef = a') (h : wpAt P ops S K n0 tb m j a' ps) : wpAt P ops S K n0 tb m i a ps := by
  simp only [Bool.and_eq_true, Bool.not_eq_true', decide_eq_true_eq] at hn
  subst hj
  unfold wpAt
  rw [drop_at hi hn.2]
  exact .inl ⟨undef, by rw [hd]; rfl, hn.1, .inl ⟨hw, rfl⟩, by rw [hd, ha]; exact h⟩
theorem atN_ (cs : Array Value) (t : TypeId) (st : Option (Nat × Array Value)) (hi : ops[i]? = some o) (hd : o.dst = some N) (hn : (isNew o && decide (i < m) && (st.all fun p => tb.contains (i, p.1))) = true) (hj : i + 1 = j) (hw : Region.wanted o (yielded ops a.tmps) = true)
    (hy : ∀ w, S w → (execOp a.eval o).run P w = .ok (.value (.pointer (some ⟨w.heap.size, 0, none⟩))) (w.alloc (.cells cs t (0, 0)))) (h : wpAt P ops S K n0 tb m j a (ps ++ [⟨i, N, cs, (t, 0), st⟩])) : wpAt P ops S K n0 tb m i a ps := by
  simp only [Bool.and_eq_true, decide_eq_true_eq] at hn
  subst hj
  unfold wpAt
  rw [drop_at hi hn.1.2]
  refine .inr (.inl ⟨N, cs, (t, 0), st, hd, hn.1.1, ⟨hw, hy⟩, fun s c e => ?_, h⟩)
  subst e
  exact List.contains_iff_mem.1 hn.2
/-- A new slice, all of a new block. -/
theorem atB_ (cs : Array Value) (t : TypeId) (n : Nat) (hi : ops[i]? = some o) (hd : o.dst = some N) (hn : (isNew o && decide (i < m)) = true) (hj : i + 1 = j) (hw : Region.wanted o (yielded ops a.tmps) = true)
    (hy : ∀ w, S w → (execOp a.eval o).run P w = .ok (.value (.slice (some ⟨w.heap.size, 0, none⟩) n n)) (w.alloc (.cells cs t (0, 0)))) (h : wpAt P ops S K n0 tb m j a (ps ++ [⟨i, N, cs, (t, n + 1), none⟩])) : wpAt P ops S K n0 tb m i a ps := by
  simp only [Bool.and_eq_true, decide_eq_true_eq] at hn
  subst hj
  unfold wpAt
  rw [drop_at hi hn.2]
  exact .inr (.inl ⟨N, cs, (t, n + 1), none, hd, hn.1, ⟨hw, hy⟩, (fun s c e => by cases e), h⟩)
theorem atC_ (v : Value) {f : FuncId} {fn : Func} {zs : Array Operand} {ts : Array TypeId} (hi : ops[i]? = some o) (hop : o.op = .call { callee := .value (.func f), args := zs, argTypes := ts }) (hf : P.funcs[f]? = some fn) (hd : o.dst = some N) (hn : (!isNew o && decide (i < m)) = true) (hj : i + 1 = j) (hw : Region.wanted o (yielded ops a.tmps) = true)
    (hname : (fn.name == "runtime.NumGoroutine") = false) (hb : fn.body.isSome = true) (args : Array Value) (hargs : zs.map a.eval = args) (hcall : ∀ w, S w → Calls P f args w fun e w1 => e = .returned v ∧ Below w.heap.size w w1)
    (ha : a.put (some N) v = a') (h : wpAt P ops S K n0 tb m j a' ps) : wpAt P ops S K n0 tb m i a ps := by
  simp only [Bool.and_eq_true, Bool.not_eq_true', decide_eq_true_eq] at hn
  subst hj
  unfold wpAt
  rw [drop_at hi hn.2]
  refine .inl ⟨v, by rw [hd]; rfl, hn.1, .inr ⟨hw, fun w hS => .inr ⟨f, args, ?_, hcall w hS⟩⟩, by rw [hd, ha]; exact h⟩
  have he := enters_ hf hname hb args w
  unfold execOp
  simp [hop, resolve, Deferred.ofValue, invoke, Act.eval, hargs, he]
/-- The store into the block that is the k-th of those made. -/
theorem atS_ (k : Nat) {p : Pend} {c : Array Value} (hp : ps[k]? = some p) (hst : p.st = some (i, c)) (hi : ops[i]? = some o) (hd : o.dst = none) (hn : (decide (i < m) && tb.contains (p.j, i)) = true) (hj : i + 1 = j)
    (hw : ∀ g, Region.wanted o (yielded ops (a.put (some p.N) (.pointer (some ⟨g, 0, none⟩))).tmps) = true)
    (hy : ∀ g w, S w → w.heap[g]? = some (.cells p.cs p.t.1 (0, 0)) → n0 ≤ g → ∃ w1, (execOp (a.put (some p.N) (.pointer (some ⟨g, 0, none⟩))).eval o).run P w = .ok .skip w1 ∧ Mut g w w1 ∧ w1.heap[g]? = some (.cells c p.t.1 (0, 0)))
    (h : wpAt P ops S K n0 tb m j a ps) (h0 : p.t.2 = 0 := by rfl) : wpAt P ops S K n0 tb m i a ps := by
  simp only [Bool.and_eq_true, decide_eq_true_eq] at hn
  subst hj
  unfold wpAt
  rw [drop_at hi hn.1]
  refine .inr (.inr ⟨p, c, List.mem_of_getElem? hp, hst, hd, List.contains_iff_mem.1 hn.2, fun g => ?_, h⟩)
  rw [h0]
  exact ⟨hw g, hy g⟩
theorem atEnd_ (h : ∀ w, S w → endG K n0 ps [] a w) : wpAt P ops S K n0 tb m m a ps := by
  unfold wpAt
  rw [List.drop_of_length_le (by rw [List.length_take]; omega)]
  exact h
end
/-- A cell that is there stays. -/
theorem cell_ {w w1 : World} {p : Addr} {v : Value} (hb : Below w.heap.size w w1) (h : w.cell? p = some v) : w1.cell? p = some v := (hb.cell (World.block_lt_of_cell? _ _ h)).trans h
end
end Go.Proofs.Ytldcckcljjlglaa.P

namespace Go.Proofs.Ytldcckcljjlglaa.P
open Go.RowKit Go.Proofs.YtldcckcljjlglaaW.PrintWords Go.Proofs.YtldcckcljjlglaaW.PrintLast Go.Proofs.YtldcckcljjlglaaW.PrintMore
attribute [local go_sem] max2_int min2_int max_two min_two max_three min_three max_four min_four   -- for this text's walks alone
set_option linter.unusedVariables false
set_option linter.unusedSimpArgs false

/-! ### spec_PappusOf: function 68 -/
abbrev TRq := S72
def trP (q : List TRq) (i : Int) : TRq := rd_T72 q i
def crossP (k : Nat) (a b : TRq) : Option (Int × Int × Int) := spec_CrossOf.f k a.f0 a.f1 a.f2 b.f0 b.f1 b.f2
theorem fourP_ (W : World) (o1 o2 o3 o4 : Obj) : ((((W.alloc o1).alloc o2).alloc o3).alloc o4).heap[W.heap.size]? = some o1 ∧ ((((W.alloc o1).alloc o2).alloc o3).alloc o4).heap[W.heap.size + 1]? = some o2 ∧ ((((W.alloc o1).alloc o2).alloc o3).alloc o4).heap[W.heap.size + 2]? = some o3 ∧ ((((W.alloc o1).alloc o2).alloc o3).alloc o4).heap[W.heap.size + 3]? = some o4 ∧ ((((W.alloc o1).alloc o2).alloc o3).alloc o4).heap.size = W.heap.size + 4 := by
 have e : ((((W.alloc o1).alloc o2).alloc o3).alloc o4).heap = (((W.heap.push o1).push o2).push o3).push o4 := rfl
 rw [e]
 refine ⟨?_, ?_, ?_, ?_, by simp⟩ <;> simp only [Array.getElem?_push, Array.size_push] <;> (repeat' (first | rfl | rw [if_pos (by omega)] | rw [if_neg (by omega)]))
/-- The table of points whose lines meet. -/
def pp (i j : Nat) : Nat := if i = 0 then (if j = 0 then 0 else if j = 1 then 4 else if j = 2 then 1 else 3) else if i = 1 then (if j = 0 then 0 else if j = 1 then 5 else if j = 2 then 2 else 3) else (if j = 0 then 1 else if j = 1 then 5 else if j = 2 then 2 else 4)
theorem pp_lt (i j : Nat) : pp i j < 6 := by unfold pp; repeat' (first | split | decide)
def onT (q : List TRq) (i j k : Int) : Option Bool := spec_AreOnOne.f (trP q i).f0 (trP q i).f1 (trP q i).f2 (trP q j).f0 (trP q j).f1 (trP q j).f2 (trP q k).f0 (trP q k).f1 (trP q k).f2
def spec_PappusOf.l1 : Nat → List TRq → List TRq → Nat → Option (List TRq × Bool)
 | 0, _, _, _ => none
 | k + 1, q, out, i => if i < 3 then (crossP k (trP q (pp i 0)) (trP q (pp i 1))).bind fun t => (crossP k (trP q (pp i 2)) (trP q (pp i 3))).bind fun u => (spec_CrossOf.f k t.1 t.2.1 t.2.2 u.1 u.2.1 u.2.2).bind fun c => (if out.length < 1000000 then spec_PappusOf.l1 k q (out ++ [⟨c.1, c.2.1, c.2.2⟩]) (i + 1) else none) else some (out, true)
def spec_PappusOf.l0 : Nat → List TRq → (Int × Int × Int) → (Int × Int × Int) → Nat → Option (List TRq × Bool)
 | 0, _, _, _, _ => none
 | k + 1, q, l, m, i => if i < 3 then (onT q 3 4 (i : Int)).bind fun a => (if a = true then some ([], false) else (onT q 0 1 (3 + (i : Int))).bind fun b => (if b = true then some ([], false) else spec_PappusOf.l0 k q l m (i + 1))) else (spec_l26Equal.f k l.1 l.2.1 l.2.2 m.1 m.2.1 m.2.2).bind fun z => (if z = true then some ([], false) else spec_PappusOf.l1 k q [] 0)
def spec_PappusOf.f (k : Nat) (l0 : List S80) : Option (List TRq × Bool) := (spec_l26Six.f k l0).bind fun s => if s.2 = true then (if s.1.length = 6 then (onT s.1 0 1 2).bind fun x => (if x = true then (onT s.1 3 4 5).bind fun y => (if y = true then (crossP k (trP s.1 0) (trP s.1 1)).bind fun l => (crossP k (trP s.1 3) (trP s.1 4)).bind fun m => spec_PappusOf.l0 k s.1 l m 0 else some ([], false)) else some ([], false)) else none) else some ([], false)
def PairsAt4 (W : World) (g : Nat) : Prop := (∀ i : Nat, i < 3 → (∀ j : Nat, j < 4 → W.cell? ⟨g + i, j, none⟩ = some (.int .i64 (pp i j))) ∧ W.cell? ⟨g + 3, i, none⟩ = some (.slice (some ⟨g + i, 0, none⟩) 4 4)) ∧ g + 4 ≤ W.heap.size
theorem PairsAt4.to {W W' : World} {g : Nat} (h : PairsAt4 W g) (hs : W.heap.size ≤ W'.heap.size) (hb : ∀ k, g ≤ k → k < g + 4 → W'.heap[k]? = W.heap[k]?) : PairsAt4 W' g := by
 refine ⟨fun i hi => ?_, by have := h.2; omega⟩
 obtain ⟨h1, h2⟩ := h.1 i hi
 have e : ∀ (b j : Nat), g ≤ b → b < g + 4 → W'.cell? ⟨b, j, none⟩ = W.cell? ⟨b, j, none⟩ := by
  intro b j hb1 hb2
  simp only [World.cell?, hb b hb1 hb2]
 exact ⟨fun j hj => (e _ _ (by omega) (by omega)).trans (h1 j hj), (e _ _ (by omega) (by omega)).trans h2⟩
theorem pairs4_made (W : World) : PairsAt4 ((((W.alloc (.cells #[.int .i64 0, .int .i64 4, .int .i64 1, .int .i64 3] 3)).alloc (.cells #[.int .i64 0, .int .i64 5, .int .i64 2, .int .i64 3] 3)).alloc (.cells #[.int .i64 1, .int .i64 5, .int .i64 2, .int .i64 4] 3)).alloc (.cells #[.slice (some ⟨W.heap.size, 0, none⟩) 4 4, .slice (some ⟨W.heap.size + 1, 0, none⟩) 4 4, .slice (some ⟨W.heap.size + 1 + 1, 0, none⟩) 4 4] 29)) W.heap.size := by
 obtain ⟨h1, h2, h3, h4, h5⟩ := fourP_ W (.cells #[.int .i64 0, .int .i64 4, .int .i64 1, .int .i64 3] 3) (.cells #[.int .i64 0, .int .i64 5, .int .i64 2, .int .i64 3] 3) (.cells #[.int .i64 1, .int .i64 5, .int .i64 2, .int .i64 4] 3) (.cells #[.slice (some ⟨W.heap.size, 0, none⟩) 4 4, .slice (some ⟨W.heap.size + 1, 0, none⟩) 4 4, .slice (some ⟨W.heap.size + 1 + 1, 0, none⟩) 4 4] 29)
 generalize ((((W.alloc (.cells #[.int .i64 0, .int .i64 4, .int .i64 1, .int .i64 3] 3)).alloc (.cells #[.int .i64 0, .int .i64 5, .int .i64 2, .int .i64 3] 3)).alloc (.cells #[.int .i64 1, .int .i64 5, .int .i64 2, .int .i64 4] 3)).alloc (.cells #[.slice (some ⟨W.heap.size, 0, none⟩) 4 4, .slice (some ⟨W.heap.size + 1, 0, none⟩) 4 4, .slice (some ⟨W.heap.size + 1 + 1, 0, none⟩) 4 4] 29)) = V at h1 h2 h3 h4 h5 ⊢
 refine ⟨fun i hi => ?_, by omega⟩
 have : i = 0 ∨ i = 1 ∨ i = 2 := by omega
 rcases this with rfl | rfl | rfl
 ·refine ⟨fun j hj => ?_, by simp [World.cell?, h4]⟩
  have : j = 0 ∨ j = 1 ∨ j = 2 ∨ j = 3 := by omega
  rcases this with rfl | rfl | rfl | rfl <;> simp [World.cell?, h1, pp]
 ·refine ⟨fun j hj => ?_, by simp [World.cell?, h4]⟩
  have : j = 0 ∨ j = 1 ∨ j = 2 ∨ j = 3 := by omega
  rcases this with rfl | rfl | rfl | rfl <;> simp [World.cell?, h2, pp]
 ·refine ⟨fun j hj => ?_, by simp [World.cell?, h4]⟩
  have : j = 0 ∨ j = 1 ∨ j = 2 ∨ j = 3 := by omega
  rcases this with rfl | rfl | rfl | rfl <;> simp [World.cell?, h3, pp]
theorem spec_PappusOf.mono_1 : ∀ k q out i, LeO (spec_PappusOf.l1 k q out i) (spec_PappusOf.l1 (k + 1) q out i)
 | 0 => fun _ _ _ r h => by simp [spec_PappusOf.l1] at h
 | k + 1 => by
  have ih := spec_PappusOf.mono_1 k
  intro q out i
  unfold spec_PappusOf.l1 crossP
  repeat' first
   | (with_reducible exact ih _ _ _)
   | (with_reducible exact spec_CrossOf.mono _ _ _ _ _ _ _)
   | (with_reducible exact LeO.refl _)
   | (with_reducible exact LeO.none _)
   | (with_reducible refine LeO.ite ?_ ?_)
   | (with_reducible refine LeO.bind ?_ (fun _ => ?_))
theorem spec_PappusOf.mono_0 : ∀ k q l m i, LeO (spec_PappusOf.l0 k q l m i) (spec_PappusOf.l0 (k + 1) q l m i)
 | 0 => fun _ _ _ _ r h => by simp [spec_PappusOf.l0] at h
 | k + 1 => by
  have ih := spec_PappusOf.mono_0 k
  intro q l m i
  unfold spec_PappusOf.l0
  repeat' first
   | (with_reducible exact ih _ _ _ _)
   | (with_reducible exact spec_PappusOf.mono_1 _ _ _ _)
   | (with_reducible exact spec_l26Equal.mono _ _ _ _ _ _ _)
   | (with_reducible exact LeO.refl _)
   | (with_reducible exact LeO.none _)
   | (with_reducible refine LeO.ite ?_ ?_)
   | (with_reducible refine LeO.bind ?_ (fun _ => ?_))
theorem spec_PappusOf.mono : ∀ a0 k, LeO (spec_PappusOf.f k a0) (spec_PappusOf.f (k + 1) a0) := by
 intro a0 k
 unfold spec_PappusOf.f crossP
 repeat' first
  | (with_reducible exact spec_PappusOf.mono_0 _ _ _ _ _)
  | (with_reducible exact spec_l26Six.mono _ _)
  | (with_reducible exact spec_CrossOf.mono _ _ _ _ _ _ _)
  | (with_reducible exact LeO.refl _)
  | (with_reducible exact LeO.none _)
  | (with_reducible refine LeO.ite ?_ ?_)
  | (with_reducible refine LeO.bind ?_ (fun _ => ?_))
set_option maxHeartbeats 8000000 in
set_option maxRecDepth 100000 in
theorem spec_PappusOf.calls (k : Nat) (A0 : Option Addr) (c0 : Nat) (l0 : List S80) (r1 : List TRq) (r2 : Bool) (w : World) (hr0 : Kd.C k80 w A0 l0.length l0) (hc0 : l0.length ≤ c0) (h : spec_PappusOf.f k l0 = some (r1, r2)) :
  Calls Try.prog 68 #[.slice A0 l0.length c0] w fun e w' => ∃ v0_ : Value, e = .returned (.tuple #[v0_, .bool r2]) ∧ Kd.R k72 72 w' w.heap.size (fun _ => True) v0_ r1 ∧ Below w.heap.size w w' := by
 have HR := Aside0.mk hr0
 have HC := Aside0.mk hc0
 have HB := Aside0.mk (Below.refl w.heap.size w)
 unfold spec_PappusOf.f at h
 obtain ⟨⟨q, b⟩, hs, h⟩ := Option.bind_eq_some_iff.mp h
 have HA1 := Aside0.mk hs
 clear hr0 hc0 hs
 have hup := Try.underlying80
 have hut := Try.underlying72
 cases b with
 | false =>
  obtain ⟨rfl, rfl⟩ := Prod.mk.inj (Option.some.inj (show some (([] : List TRq), false) = some (r1, r2) from h))
  clear h
  go_enter Try.func68, Try.ntmps68
  go_wp2_with (first | (go_at_call 122; (with_reducible refine (spec_l26Six.calls k A0 c0 l0 q false _ (Kd.C_below HR.out HB.out) HC.out HA1.out).mono ?_); rintro e w1 ⟨v1_, rfl, ho1, hb1⟩; obtain ⟨A1, c1, rfl⟩ := Kd.R_slice ho1; have HQ := Aside0.mk ho1; have m0_ := Aside0.mk (below_step HB.out hb1); clear HB; have HB := m0_; clear m0_; clear ho1 hb1))
  generalize hw1 : w1 = W1 at HB HQ ⊢
  clear hw1
  refine region_ (S := fun w' => Below W1.heap.size W1 w') 28 W1.heap.size [] (by kernel_rfl) (by kernel_rfl) (below_drew (Below.refl _ _)) (fun _ _ h1 h2 => h1.trans h2) (fun _ h1 => h1.size) ?_
  iterate 28 (first
   | (refine atV_ (v := ?_) (a' := ?_) rfl rfl rfl rfl (by rfl) ?_ ?_ ?_; rotate_left 2; (· rintro w' hb'; go_simp; with_reducible rfl); (· simp only [Act.put, List.setIfInBounds_toArray, List.set_cons_zero, List.set_cons_succ, i64_w, i32_w]; rfl))
   | (refine atO_ (a' := ?_) rfl rfl rfl rfl (by rfl) ?_ ?_; rotate_left; (· simp only [Act.put, List.setIfInBounds_toArray, List.set_cons_zero, List.set_cons_succ, i64_w, i32_w]; rfl)))
  refine atEnd_ ?_
  intro w2 hb2
  refine done_ (by kernel_rfl) ?_
  have m0_ := Aside0.mk (below_then HB.out (below_size HB.out) hb2)
  clear HB hb2
  have HB := m0_
  clear m0_
  go_wp2_with (first
   | ((with_reducible refine gate_dst (N := 47) rfl ?_); refine Kd.R_lit k72 _ 72 ?hg (N := 47) ?hd (xs := ([] : List TRq)) (inner := []) (ok := fun _ => True) (okp := fun _ => True) ?hr ?hp (fun _ hk => hk) trivial (Below.refl _ _) (Nat.le_refl _) (by simp) ?_; (case hd => rfl); (case hg => rfl); (case hr => first | (go_simp; done) | (go_simp; rfl)); (case hp => exact (Reps.none _ _)); intro v9 w9 ho9 hb9 hg_ hnew_; have HO9 := Aside0.mk (Kd.R_lower ho9 (below_size HB.out)); have HB9 := Aside0.mk (below_step HB.out hb9); clear hg_ hnew_ ho9 hb9))
  go_ret2
  exact ⟨_, rfl, HO9.out, HB9.out⟩
 | true =>
  rw [if_pos rfl] at h
  by_cases h6 : q.length = 6
  case neg => rw [if_neg h6] at h; cases h
  rw [if_pos h6] at h
  obtain ⟨x, hx, h⟩ := Option.bind_eq_some_iff.mp h
  have H6 := Aside0.mk h6
  have HAX := Aside0.mk (show spec_AreOnOne.f (rd_T72 q 0).f0 (rd_T72 q 0).f1 (rd_T72 q 0).f2 (rd_T72 q 1).f0 (rd_T72 q 1).f1 (rd_T72 q 1).f2 (rd_T72 q 2).f0 (rd_T72 q 2).f1 (rd_T72 q 2).f2 = some x from hx)
  have HH := Aside0.mk h
  clear h6 hx h
  go_enter Try.func68, Try.ntmps68
  go_wp2_with (first | (go_at_call 122; (with_reducible refine (spec_l26Six.calls k A0 c0 l0 q true _ (Kd.C_below HR.out HB.out) HC.out HA1.out).mono ?_); rintro e w1 ⟨v1_, rfl, ho1, hb1⟩; obtain ⟨A1, c1, rfl⟩ := Kd.R_slice ho1; have HQ := Aside0.mk ho1; have m0_ := Aside0.mk (below_step HB.out hb1); clear HB; have HB := m0_; clear m0_; clear ho1 hb1))
  generalize hw1 : w1 = W1 at HB HQ ⊢
  clear hw1
  rw [H6.out]
  obtain ⟨ad0, eA, hp0, hp1, hp2⟩ := at_T72 (Kd.R_reads' HQ.out).2.2 0 (by omega) (by have := H6.out; omega)
  subst eA
  obtain ⟨ad1, eA, hp3, hp4, hp5⟩ := at_T72 (Kd.R_reads' HQ.out).2.2 1 (by omega) (by have := H6.out; omega)
  cases eA
  obtain ⟨ad2, eA, hp6, hp7, hp8⟩ := at_T72 (Kd.R_reads' HQ.out).2.2 2 (by omega) (by have := H6.out; omega)
  cases eA
  obtain ⟨ad3, eA, hp9, hp10, hp11⟩ := at_T72 (Kd.R_reads' HQ.out).2.2 3 (by omega) (by have := H6.out; omega)
  cases eA
  obtain ⟨ad4, eA, hp12, hp13, hp14⟩ := at_T72 (Kd.R_reads' HQ.out).2.2 4 (by omega) (by have := H6.out; omega)
  cases eA
  obtain ⟨ad5, eA, hp15, hp16, hp17⟩ := at_T72 (Kd.R_reads' HQ.out).2.2 5 (by omega) (by have := H6.out; omega)
  cases eA
  simp only [Int.reduceToNat, Nat.reduceMul, Addr.add_zero'] at hp0 hp1 hp2
  simp only [Int.reduceToNat, Nat.reduceMul, Nat.reduceEqDiff, Nat.add_assoc, Nat.reduceAdd, Go.Addr.add, ↓reduceIte] at hp3 hp4 hp5 hp6 hp7 hp8 hp9 hp10 hp11 hp12 hp13 hp14 hp15 hp16 hp17
  cases x with
  | false =>
   have h := HH.out
   rw [if_neg (by decide)] at h
   obtain ⟨rfl, rfl⟩ := Prod.mk.inj (Option.some.inj (show some (([] : List TRq), false) = some (r1, r2) from h))
   clear h HH
   refine region_ (S := fun w' => Below W1.heap.size W1 w') 28 W1.heap.size [] (by kernel_rfl) (by kernel_rfl) (below_drew (Below.refl _ _)) (fun _ _ h1 h2 => h1.trans h2) (fun _ h1 => h1.size) ?_
   iterate 28 (first
    | (refine atV_ (v := ?_) (a' := ?_) rfl rfl rfl rfl (by rfl) ?_ ?_ ?_; rotate_left 2; (· rintro w' hb'; go_simp; with_reducible rfl); (· simp only [Act.put, List.setIfInBounds_toArray, List.set_cons_zero, List.set_cons_succ, i64_w, i32_w]; rfl))
    | (refine atV_ (v := ?_) (a' := ?_) rfl rfl rfl rfl (by rfl) ?_ ?_ ?_; rotate_left 2; (· rintro w' hb'; have s0 := cell_ hb' hp0; have s1 := cell_ hb' hp1; have s2 := cell_ hb' hp2; have s3 := cell_ hb' hp3; have s4 := cell_ hb' hp4; have s5 := cell_ hb' hp5; have s6 := cell_ hb' hp6; have s7 := cell_ hb' hp7; have s8 := cell_ hb' hp8; have s9 := cell_ hb' hp9; have s10 := cell_ hb' hp10; have s11 := cell_ hb' hp11; have s12 := cell_ hb' hp12; have s13 := cell_ hb' hp13; have s14 := cell_ hb' hp14; have s15 := cell_ hb' hp15; have s16 := cell_ hb' hp16; have s17 := cell_ hb' hp17; go_simp; with_reducible rfl); (· simp only [Act.put, List.setIfInBounds_toArray, List.set_cons_zero, List.set_cons_succ, i64_w, i32_w]; rfl))
    | (refine atC_ (a' := ?_) (.bool false) rfl rfl Try.func84 rfl rfl rfl (by rfl) (by kernel_rfl) rfl #[.agg #[.int .i64 (rd_T72 q 0).f0, .int .i64 (rd_T72 q 0).f1, .int .i64 (rd_T72 q 0).f2], .agg #[.int .i64 (rd_T72 q 1).f0, .int .i64 (rd_T72 q 1).f1, .int .i64 (rd_T72 q 1).f2], .agg #[.int .i64 (rd_T72 q 2).f0, .int .i64 (rd_T72 q 2).f1, .int .i64 (rd_T72 q 2).f2]] (by (try simp only [List.map_toArray, List.map_cons, List.map_nil]); rfl) ?_ ?_ ?_; rotate_left; (· rintro w' hb'; with_reducible refine (spec_AreOnOne.calls _ _ _ _ _ _ _ _ _ _ _ HAX.out).mono ?_; rintro e w1 ⟨rfl, hb1⟩; exact ⟨rfl, hb1⟩); (· simp only [Act.put, List.setIfInBounds_toArray, List.set_cons_zero, List.set_cons_succ, i64_w, i32_w]; rfl))
    | (refine atO_ (a' := ?_) rfl rfl rfl rfl (by rfl) ?_ ?_; rotate_left; (· simp only [Act.put, List.setIfInBounds_toArray, List.set_cons_zero, List.set_cons_succ, i64_w, i32_w]; rfl)))
   refine atEnd_ ?_
   intro w2 hb2
   refine done_ (by kernel_rfl) ?_
   have m0_ := Aside0.mk (below_then HB.out (below_size HB.out) hb2)
   clear HB hb2
   have HB := m0_
   clear m0_
   go_wp2_with (first
    | ((with_reducible refine gate_dst (N := 47) rfl ?_); refine Kd.R_lit k72 _ 72 ?hg (N := 47) ?hd (xs := ([] : List TRq)) (inner := []) (ok := fun _ => True) (okp := fun _ => True) ?hr ?hp (fun _ hk => hk) trivial (Below.refl _ _) (Nat.le_refl _) (by simp) ?_; (case hd => rfl); (case hg => rfl); (case hr => first | (go_simp; done) | (go_simp; rfl)); (case hp => exact (Reps.none _ _)); intro v9 w9 ho9 hb9 hg_ hnew_; have HO9 := Aside0.mk (Kd.R_lower ho9 (below_size HB.out)); have HB9 := Aside0.mk (below_step HB.out hb9); clear hg_ hnew_ ho9 hb9))
   go_ret2
   exact ⟨_, rfl, HO9.out, HB9.out⟩
  | true =>
   have h := HH.out
   rw [if_pos rfl] at h
   obtain ⟨y, hy, h⟩ := Option.bind_eq_some_iff.mp h
   have HAY := Aside0.mk (show spec_AreOnOne.f (rd_T72 q 3).f0 (rd_T72 q 3).f1 (rd_T72 q 3).f2 (rd_T72 q 4).f0 (rd_T72 q 4).f1 (rd_T72 q 4).f2 (rd_T72 q 5).f0 (rd_T72 q 5).f1 (rd_T72 q 5).f2 = some y from hy)
   clear hy HH
   cases y with
   | false =>
    rw [if_neg (by decide)] at h
    obtain ⟨rfl, rfl⟩ := Prod.mk.inj (Option.some.inj (show some (([] : List TRq), false) = some (r1, r2) from h))
    clear h
    refine region_ (S := fun w' => Below W1.heap.size W1 w') 28 W1.heap.size [] (by kernel_rfl) (by kernel_rfl) (below_drew (Below.refl _ _)) (fun _ _ h1 h2 => h1.trans h2) (fun _ h1 => h1.size) ?_
    iterate 28 (first
     | (refine atV_ (v := ?_) (a' := ?_) rfl rfl rfl rfl (by rfl) ?_ ?_ ?_; rotate_left 2; (· rintro w' hb'; go_simp; with_reducible rfl); (· simp only [Act.put, List.setIfInBounds_toArray, List.set_cons_zero, List.set_cons_succ, i64_w, i32_w]; rfl))
     | (refine atV_ (v := ?_) (a' := ?_) rfl rfl rfl rfl (by rfl) ?_ ?_ ?_; rotate_left 2; (· rintro w' hb'; have s0 := cell_ hb' hp0; have s1 := cell_ hb' hp1; have s2 := cell_ hb' hp2; have s3 := cell_ hb' hp3; have s4 := cell_ hb' hp4; have s5 := cell_ hb' hp5; have s6 := cell_ hb' hp6; have s7 := cell_ hb' hp7; have s8 := cell_ hb' hp8; have s9 := cell_ hb' hp9; have s10 := cell_ hb' hp10; have s11 := cell_ hb' hp11; have s12 := cell_ hb' hp12; have s13 := cell_ hb' hp13; have s14 := cell_ hb' hp14; have s15 := cell_ hb' hp15; have s16 := cell_ hb' hp16; have s17 := cell_ hb' hp17; go_simp; with_reducible rfl); (· simp only [Act.put, List.setIfInBounds_toArray, List.set_cons_zero, List.set_cons_succ, i64_w, i32_w]; rfl))
     | (refine atC_ (a' := ?_) (.bool true) rfl rfl Try.func84 rfl rfl rfl (by rfl) (by kernel_rfl) rfl #[.agg #[.int .i64 (rd_T72 q 0).f0, .int .i64 (rd_T72 q 0).f1, .int .i64 (rd_T72 q 0).f2], .agg #[.int .i64 (rd_T72 q 1).f0, .int .i64 (rd_T72 q 1).f1, .int .i64 (rd_T72 q 1).f2], .agg #[.int .i64 (rd_T72 q 2).f0, .int .i64 (rd_T72 q 2).f1, .int .i64 (rd_T72 q 2).f2]] (by (try simp only [List.map_toArray, List.map_cons, List.map_nil]); rfl) ?_ ?_ ?_; rotate_left; (· rintro w' hb'; with_reducible refine (spec_AreOnOne.calls _ _ _ _ _ _ _ _ _ _ _ HAX.out).mono ?_; rintro e w1 ⟨rfl, hb1⟩; exact ⟨rfl, hb1⟩); (· simp only [Act.put, List.setIfInBounds_toArray, List.set_cons_zero, List.set_cons_succ, i64_w, i32_w]; rfl))
     | (refine atC_ (a' := ?_) (.bool false) rfl rfl Try.func84 rfl rfl rfl (by rfl) (by kernel_rfl) rfl #[.agg #[.int .i64 (rd_T72 q 3).f0, .int .i64 (rd_T72 q 3).f1, .int .i64 (rd_T72 q 3).f2], .agg #[.int .i64 (rd_T72 q 4).f0, .int .i64 (rd_T72 q 4).f1, .int .i64 (rd_T72 q 4).f2], .agg #[.int .i64 (rd_T72 q 5).f0, .int .i64 (rd_T72 q 5).f1, .int .i64 (rd_T72 q 5).f2]] (by (try simp only [List.map_toArray, List.map_cons, List.map_nil]); rfl) ?_ ?_ ?_; rotate_left; (· rintro w' hb'; with_reducible refine (spec_AreOnOne.calls _ _ _ _ _ _ _ _ _ _ _ HAY.out).mono ?_; rintro e w1 ⟨rfl, hb1⟩; exact ⟨rfl, hb1⟩); (· simp only [Act.put, List.setIfInBounds_toArray, List.set_cons_zero, List.set_cons_succ, i64_w, i32_w]; rfl))
     | (refine atO_ (a' := ?_) rfl rfl rfl rfl (by rfl) ?_ ?_; rotate_left; (· simp only [Act.put, List.setIfInBounds_toArray, List.set_cons_zero, List.set_cons_succ, i64_w, i32_w]; rfl)))
    refine atEnd_ ?_
    intro w2 hb2
    refine done_ (by kernel_rfl) ?_
    have m0_ := Aside0.mk (below_then HB.out (below_size HB.out) hb2)
    clear HB hb2
    have HB := m0_
    clear m0_
    go_wp2_with (first
     | ((with_reducible refine gate_dst (N := 47) rfl ?_); refine Kd.R_lit k72 _ 72 ?hg (N := 47) ?hd (xs := ([] : List TRq)) (inner := []) (ok := fun _ => True) (okp := fun _ => True) ?hr ?hp (fun _ hk => hk) trivial (Below.refl _ _) (Nat.le_refl _) (by simp) ?_; (case hd => rfl); (case hg => rfl); (case hr => first | (go_simp; done) | (go_simp; rfl)); (case hp => exact (Reps.none _ _)); intro v9 w9 ho9 hb9 hg_ hnew_; have HO9 := Aside0.mk (Kd.R_lower ho9 (below_size HB.out)); have HB9 := Aside0.mk (below_step HB.out hb9); clear hg_ hnew_ ho9 hb9))
    go_ret2
    exact ⟨_, rfl, HO9.out, HB9.out⟩
   | true =>
    rw [if_pos rfl] at h
    obtain ⟨⟨t1, t2, t3⟩, ht, h⟩ := Option.bind_eq_some_iff.mp h
    obtain ⟨⟨s1_, s2_, s3_⟩, hu, h⟩ := Option.bind_eq_some_iff.mp h
    have HT := Aside0.mk (show spec_CrossOf.f k (rd_T72 q 0).f0 (rd_T72 q 0).f1 (rd_T72 q 0).f2 (rd_T72 q 1).f0 (rd_T72 q 1).f1 (rd_T72 q 1).f2 = some (t1, t2, t3) from ht)
    have HU := Aside0.mk (show spec_CrossOf.f k (rd_T72 q 3).f0 (rd_T72 q 3).f1 (rd_T72 q 3).f2 (rd_T72 q 4).f0 (rd_T72 q 4).f1 (rd_T72 q 4).f2 = some (s1_, s2_, s3_) from hu)
    have H' := Aside0.mk h
    clear ht hu h
    refine region_ (S := fun w' => Below W1.heap.size W1 w') 28 W1.heap.size [] (by kernel_rfl) (by kernel_rfl) (below_drew (Below.refl _ _)) (fun _ _ h1 h2 => h1.trans h2) (fun _ h1 => h1.size) ?_
    iterate 28 (first
     | (refine atV_ (v := ?_) (a' := ?_) rfl rfl rfl rfl (by rfl) ?_ ?_ ?_; rotate_left 2; (· rintro w' hb'; go_simp; with_reducible rfl); (· simp only [Act.put, List.setIfInBounds_toArray, List.set_cons_zero, List.set_cons_succ, i64_w, i32_w]; rfl))
     | (refine atV_ (v := ?_) (a' := ?_) rfl rfl rfl rfl (by rfl) ?_ ?_ ?_; rotate_left 2; (· rintro w' hb'; have s0 := cell_ hb' hp0; have s1 := cell_ hb' hp1; have s2 := cell_ hb' hp2; have s3 := cell_ hb' hp3; have s4 := cell_ hb' hp4; have s5 := cell_ hb' hp5; have s6 := cell_ hb' hp6; have s7 := cell_ hb' hp7; have s8 := cell_ hb' hp8; have s9 := cell_ hb' hp9; have s10 := cell_ hb' hp10; have s11 := cell_ hb' hp11; have s12 := cell_ hb' hp12; have s13 := cell_ hb' hp13; have s14 := cell_ hb' hp14; have s15 := cell_ hb' hp15; have s16 := cell_ hb' hp16; have s17 := cell_ hb' hp17; go_simp; with_reducible rfl); (· simp only [Act.put, List.setIfInBounds_toArray, List.set_cons_zero, List.set_cons_succ, i64_w, i32_w]; rfl))
     | (refine atC_ (a' := ?_) (.bool true) rfl rfl Try.func84 rfl rfl rfl (by rfl) (by kernel_rfl) rfl #[.agg #[.int .i64 (rd_T72 q 0).f0, .int .i64 (rd_T72 q 0).f1, .int .i64 (rd_T72 q 0).f2], .agg #[.int .i64 (rd_T72 q 1).f0, .int .i64 (rd_T72 q 1).f1, .int .i64 (rd_T72 q 1).f2], .agg #[.int .i64 (rd_T72 q 2).f0, .int .i64 (rd_T72 q 2).f1, .int .i64 (rd_T72 q 2).f2]] (by (try simp only [List.map_toArray, List.map_cons, List.map_nil]); rfl) ?_ ?_ ?_; rotate_left; (· rintro w' hb'; with_reducible refine (spec_AreOnOne.calls _ _ _ _ _ _ _ _ _ _ _ HAX.out).mono ?_; rintro e w1 ⟨rfl, hb1⟩; exact ⟨rfl, hb1⟩); (· simp only [Act.put, List.setIfInBounds_toArray, List.set_cons_zero, List.set_cons_succ, i64_w, i32_w]; rfl))
     | (refine atC_ (a' := ?_) (.bool true) rfl rfl Try.func84 rfl rfl rfl (by rfl) (by kernel_rfl) rfl #[.agg #[.int .i64 (rd_T72 q 3).f0, .int .i64 (rd_T72 q 3).f1, .int .i64 (rd_T72 q 3).f2], .agg #[.int .i64 (rd_T72 q 4).f0, .int .i64 (rd_T72 q 4).f1, .int .i64 (rd_T72 q 4).f2], .agg #[.int .i64 (rd_T72 q 5).f0, .int .i64 (rd_T72 q 5).f1, .int .i64 (rd_T72 q 5).f2]] (by (try simp only [List.map_toArray, List.map_cons, List.map_nil]); rfl) ?_ ?_ ?_; rotate_left; (· rintro w' hb'; with_reducible refine (spec_AreOnOne.calls _ _ _ _ _ _ _ _ _ _ _ HAY.out).mono ?_; rintro e w1 ⟨rfl, hb1⟩; exact ⟨rfl, hb1⟩); (· simp only [Act.put, List.setIfInBounds_toArray, List.set_cons_zero, List.set_cons_succ, i64_w, i32_w]; rfl))
     | (refine atO_ (a' := ?_) rfl rfl rfl rfl (by rfl) ?_ ?_; rotate_left; (· simp only [Act.put, List.setIfInBounds_toArray, List.set_cons_zero, List.set_cons_succ, i64_w, i32_w]; rfl)))
    refine atEnd_ ?_
    intro w2 hb2
    refine done_ (by kernel_rfl) ?_
    have m0_ := Aside0.mk (below_then HB.out (below_size HB.out) hb2)
    have m1_ := Aside0.mk (Kd.R_below HQ.out hb2)
    replace hp0 := cell_ hb2 hp0
    replace hp1 := cell_ hb2 hp1
    replace hp2 := cell_ hb2 hp2
    replace hp3 := cell_ hb2 hp3
    replace hp4 := cell_ hb2 hp4
    replace hp5 := cell_ hb2 hp5
    replace hp6 := cell_ hb2 hp6
    replace hp7 := cell_ hb2 hp7
    replace hp8 := cell_ hb2 hp8
    replace hp9 := cell_ hb2 hp9
    replace hp10 := cell_ hb2 hp10
    replace hp11 := cell_ hb2 hp11
    replace hp12 := cell_ hb2 hp12
    replace hp13 := cell_ hb2 hp13
    replace hp14 := cell_ hb2 hp14
    replace hp15 := cell_ hb2 hp15
    replace hp16 := cell_ hb2 hp16
    replace hp17 := cell_ hb2 hp17
    clear HB HQ hb2
    have HB := m0_
    have HQ := m1_
    clear m0_ m1_
    clear HAX HAY
    go_wp2_with fail
    refine region_ (S := fun w' => Below w2.heap.size w2 w') 9 w2.heap.size [(7, 8)] (by kernel_rfl) (by kernel_rfl) (below_drew (Below.refl _ _)) (fun _ _ h1 h2 => h1.trans h2) (fun _ h1 => h1.size) ?_
    iterate 9 (first
     | (refine atV_ (v := ?_) (a' := ?_) rfl rfl rfl rfl (by rfl) ?_ ?_ ?_; rotate_left 2; (· rintro w' hb'; go_simp; with_reducible rfl); (· simp only [Act.put, List.setIfInBounds_toArray, List.set_cons_zero, List.set_cons_succ, i64_w, i32_w]; rfl))
     | (refine atV_ (v := ?_) (a' := ?_) rfl rfl rfl rfl (by rfl) ?_ ?_ ?_; rotate_left 2; (· rintro w' hb'; have s0 := cell_ hb' hp0; have s1 := cell_ hb' hp1; have s2 := cell_ hb' hp2; have s3 := cell_ hb' hp3; have s4 := cell_ hb' hp4; have s5 := cell_ hb' hp5; have s6 := cell_ hb' hp6; have s7 := cell_ hb' hp7; have s8 := cell_ hb' hp8; have s9 := cell_ hb' hp9; have s10 := cell_ hb' hp10; have s11 := cell_ hb' hp11; have s12 := cell_ hb' hp12; have s13 := cell_ hb' hp13; have s14 := cell_ hb' hp14; have s15 := cell_ hb' hp15; have s16 := cell_ hb' hp16; have s17 := cell_ hb' hp17; go_simp; with_reducible rfl); (· simp only [Act.put, List.setIfInBounds_toArray, List.set_cons_zero, List.set_cons_succ, i64_w, i32_w]; rfl))
     | (refine atC_ (a' := ?_) (.agg #[.int .i64 t1, .int .i64 t2, .int .i64 t3]) rfl rfl Try.func82 rfl rfl rfl (by rfl) (by kernel_rfl) rfl #[.agg #[.int .i64 (rd_T72 q 0).f0, .int .i64 (rd_T72 q 0).f1, .int .i64 (rd_T72 q 0).f2], .agg #[.int .i64 (rd_T72 q 1).f0, .int .i64 (rd_T72 q 1).f1, .int .i64 (rd_T72 q 1).f2]] (by (try simp only [List.map_toArray, List.map_cons, List.map_nil]); rfl) ?_ ?_ ?_; rotate_left; (· rintro w' hb'; with_reducible refine (spec_CrossOf.calls k _ _ _ _ _ _ t1 t2 t3 _ HT.out).mono ?_; rintro e w1 ⟨rfl, hb1⟩; exact ⟨rfl, hb1⟩); (· simp only [Act.put, List.setIfInBounds_toArray, List.set_cons_zero, List.set_cons_succ, i64_w, i32_w]; rfl))
     | (refine atN_ #[.int .i64 0, .int .i64 0, .int .i64 0] 72 (some (8, #[.int .i64 t1, .int .i64 t2, .int .i64 t3])) rfl rfl rfl rfl (by rfl) ?_ ?_; (· rintro w' hb'; first | (go_simp; done) | (go_simp; rfl)))
     | (refine atS_ 0 rfl rfl rfl rfl rfl rfl (fun g => by rfl) ?_ ?_; (· rintro g w' hb' hg hn; have hs0 := (blk_cell hg 0).trans rfl; have hs1 := (blk_cell hg 1).trans rfl; have hs2 := (blk_cell hg 2).trans rfl; have hf0 := blk_frozen hg 0; have hf1 := blk_frozen hg 1; have hf2 := blk_frozen hg 2; refine ⟨_, ?_, (mut3_ hg _ _ _).1, (mut3_ hg _ _ _).2⟩; first | (go_simp; done) | (go_simp; rfl))))
    refine atEnd_ ?_
    intro w3 hb_ g1 _ h_ _
    refine done_ (by kernel_rfl) ?_
    have hg10 : w3.cell? ⟨g1, 0, none⟩ = some (.int .i64 t1) := by simp [World.cell?, h_, contE]
    have hg11 : w3.cell? ⟨g1, 1, none⟩ = some (.int .i64 t2) := by simp [World.cell?, h_, contE]
    have hg12 : w3.cell? ⟨g1, 2, none⟩ = some (.int .i64 t3) := by simp [World.cell?, h_, contE]
    have m0_ := Aside0.mk (below_then HB.out (below_size HB.out) hb_)
    have m1_ := Aside0.mk (Kd.R_below HQ.out hb_)
    replace hp0 := cell_ hb_ hp0
    replace hp1 := cell_ hb_ hp1
    replace hp2 := cell_ hb_ hp2
    replace hp3 := cell_ hb_ hp3
    replace hp4 := cell_ hb_ hp4
    replace hp5 := cell_ hb_ hp5
    replace hp6 := cell_ hb_ hp6
    replace hp7 := cell_ hb_ hp7
    replace hp8 := cell_ hb_ hp8
    replace hp9 := cell_ hb_ hp9
    replace hp10 := cell_ hb_ hp10
    replace hp11 := cell_ hb_ hp11
    replace hp12 := cell_ hb_ hp12
    replace hp13 := cell_ hb_ hp13
    replace hp14 := cell_ hb_ hp14
    replace hp15 := cell_ hb_ hp15
    replace hp16 := cell_ hb_ hp16
    replace hp17 := cell_ hb_ hp17
    clear HB HQ hb_
    have HB := m0_
    have HQ := m1_
    clear m0_ m1_
    clear h_
    go_wp2_with fail
    refine region_ (S := fun w' => Below w3.heap.size w3 w') 9 w3.heap.size [(7, 8)] (by kernel_rfl) (by kernel_rfl) (below_drew (Below.refl _ _)) (fun _ _ h1 h2 => h1.trans h2) (fun _ h1 => h1.size) ?_
    iterate 9 (first
     | (refine atV_ (v := ?_) (a' := ?_) rfl rfl rfl rfl (by rfl) ?_ ?_ ?_; rotate_left 2; (· rintro w' hb'; go_simp; with_reducible rfl); (· simp only [Act.put, List.setIfInBounds_toArray, List.set_cons_zero, List.set_cons_succ, i64_w, i32_w]; rfl))
     | (refine atV_ (v := ?_) (a' := ?_) rfl rfl rfl rfl (by rfl) ?_ ?_ ?_; rotate_left 2; (· rintro w' hb'; have s0 := cell_ hb' hp0; have s1 := cell_ hb' hp1; have s2 := cell_ hb' hp2; have s3 := cell_ hb' hp3; have s4 := cell_ hb' hp4; have s5 := cell_ hb' hp5; have s6 := cell_ hb' hp6; have s7 := cell_ hb' hp7; have s8 := cell_ hb' hp8; have s9 := cell_ hb' hp9; have s10 := cell_ hb' hp10; have s11 := cell_ hb' hp11; have s12 := cell_ hb' hp12; have s13 := cell_ hb' hp13; have s14 := cell_ hb' hp14; have s15 := cell_ hb' hp15; have s16 := cell_ hb' hp16; have s17 := cell_ hb' hp17; go_simp; with_reducible rfl); (· simp only [Act.put, List.setIfInBounds_toArray, List.set_cons_zero, List.set_cons_succ, i64_w, i32_w]; rfl))
     | (refine atC_ (a' := ?_) (.agg #[.int .i64 s1_, .int .i64 s2_, .int .i64 s3_]) rfl rfl Try.func82 rfl rfl rfl (by rfl) (by kernel_rfl) rfl #[.agg #[.int .i64 (rd_T72 q 3).f0, .int .i64 (rd_T72 q 3).f1, .int .i64 (rd_T72 q 3).f2], .agg #[.int .i64 (rd_T72 q 4).f0, .int .i64 (rd_T72 q 4).f1, .int .i64 (rd_T72 q 4).f2]] (by (try simp only [List.map_toArray, List.map_cons, List.map_nil]); rfl) ?_ ?_ ?_; rotate_left; (· rintro w' hb'; with_reducible refine (spec_CrossOf.calls k _ _ _ _ _ _ s1_ s2_ s3_ _ HU.out).mono ?_; rintro e w1 ⟨rfl, hb1⟩; exact ⟨rfl, hb1⟩); (· simp only [Act.put, List.setIfInBounds_toArray, List.set_cons_zero, List.set_cons_succ, i64_w, i32_w]; rfl))
     | (refine atN_ #[.int .i64 0, .int .i64 0, .int .i64 0] 72 (some (8, #[.int .i64 s1_, .int .i64 s2_, .int .i64 s3_])) rfl rfl rfl rfl (by rfl) ?_ ?_; (· rintro w' hb'; first | (go_simp; done) | (go_simp; rfl)))
     | (refine atS_ 0 rfl rfl rfl rfl rfl rfl (fun g => by rfl) ?_ ?_; (· rintro g w' hb' hg hn; have hs0 := (blk_cell hg 0).trans rfl; have hs1 := (blk_cell hg 1).trans rfl; have hs2 := (blk_cell hg 2).trans rfl; have hf0 := blk_frozen hg 0; have hf1 := blk_frozen hg 1; have hf2 := blk_frozen hg 2; refine ⟨_, ?_, (mut3_ hg _ _ _).1, (mut3_ hg _ _ _).2⟩; first | (go_simp; done) | (go_simp; rfl))))
    refine atEnd_ ?_
    intro w4 hb_ g2 _ h_ _
    refine done_ (by kernel_rfl) ?_
    have hg20 : w4.cell? ⟨g2, 0, none⟩ = some (.int .i64 s1_) := by simp [World.cell?, h_, contE]
    have hg21 : w4.cell? ⟨g2, 1, none⟩ = some (.int .i64 s2_) := by simp [World.cell?, h_, contE]
    have hg22 : w4.cell? ⟨g2, 2, none⟩ = some (.int .i64 s3_) := by simp [World.cell?, h_, contE]
    have m0_ := Aside0.mk (below_then HB.out (below_size HB.out) hb_)
    have m1_ := Aside0.mk (Kd.R_below HQ.out hb_)
    replace hg10 := cell_ hb_ hg10
    replace hg11 := cell_ hb_ hg11
    replace hg12 := cell_ hb_ hg12
    clear HB HQ hb_
    have HB := m0_
    have HQ := m1_
    clear m0_ m1_
    clear h_
    clear HT HU hp0 hp1 hp2 hp3 hp4 hp5 hp6 hp7 hp8 hp9 hp10 hp11 hp12 hp13 hp14 hp15 hp16 hp17
    generalize hw4 : w4 = W4 at HB HQ hg10 hg11 hg12 hg20 hg21 hg22 ⊢
    clear hw4
    go_wp2_with fail
    go_loopg [8] k (fun kq v8 wr => ∃ (i : Nat), v8 = .int .i64 i ∧ i ≤ 3 ∧ Aside0 (spec_PappusOf.l0 kq q (t1, t2, t3) (s1_, s2_, s3_) i = some (r1, r2)) ∧ Aside0 (kq ≤ k) ∧ Aside0 (Kd.R k72 72 wr w.heap.size (fun _ => True) (.slice (some ad0) 6 c1) q) ∧ Aside0 (Below w.heap.size w wr) ∧ Aside0 (wr.cell? ⟨g1, 0, none⟩ = some (.int .i64 t1) ∧ wr.cell? ⟨g1, 1, none⟩ = some (.int .i64 t2) ∧ wr.cell? ⟨g1, 2, none⟩ = some (.int .i64 t3) ∧ wr.cell? ⟨g2, 0, none⟩ = some (.int .i64 s1_) ∧ wr.cell? ⟨g2, 1, none⟩ = some (.int .i64 s2_) ∧ wr.cell? ⟨g2, 2, none⟩ = some (.int .i64 s3_)))
    case atStart => exact ⟨0, rfl, Nat.zero_le _, H', ⟨Nat.le_refl _⟩, ⟨by have := HQ.out; rwa [H6.out] at this⟩, HB, ⟨⟨hg10, hg11, hg12, hg20, hg21, hg22⟩⟩⟩
    case round =>
     clear HB HQ H' hg10 hg11 hg12 hg20 hg21 hg22
     obtain ⟨i, rfl, hil, HA, HK1, HQ, HB, HG⟩ := hrel
     cases gk with
     | zero => exact absurd HA.out (by simp [spec_PappusOf.l0])
     | succ k1 =>
      have H := HA.out
      clear HA
      simp only [spec_PappusOf.l0] at H
      by_cases hlt : i < 3
      ·rw [if_pos hlt] at H
       have hltz : (i : Int) < 3 := by omega
       obtain ⟨z3, hz3⟩ : ∃ z : Int, 3 + (i : Int) = z := ⟨_, rfl⟩
       rw [hz3] at H
       have HW3 := Aside0.mk (show wrap64 (3 + (i : Int)) = z3 by unfold wrap64; omega)
       have HZ3 := Aside0.mk (show 0 ≤ z3 ∧ z3 < 6 by omega)
       clear hz3
       obtain ⟨xa, ha, H⟩ := Option.bind_eq_some_iff.mp H
       have HA3 := Aside0.mk (show spec_AreOnOne.f (rd_T72 q 3).f0 (rd_T72 q 3).f1 (rd_T72 q 3).f2 (rd_T72 q 4).f0 (rd_T72 q 4).f1 (rd_T72 q 4).f2 (rd_T72 q (i : Int)).f0 (rd_T72 q (i : Int)).f1 (rd_T72 q (i : Int)).f2 = some xa from ha)
       have HF := Aside0.mk H
       clear ha H
       have hrd := (Kd.R_reads' HQ.out).2.2
       obtain ⟨ad10, eA, hq0, hq1, hq2⟩ := at_T72 hrd 0 (by have := HZ3.out; omega) (by have := HZ3.out; have := H6.out; omega)
       cases eA
       obtain ⟨ad11, eA, hq3, hq4, hq5⟩ := at_T72 hrd 1 (by have := HZ3.out; omega) (by have := HZ3.out; have := H6.out; omega)
       cases eA
       obtain ⟨ad12, eA, hq6, hq7, hq8⟩ := at_T72 hrd 3 (by have := HZ3.out; omega) (by have := HZ3.out; have := H6.out; omega)
       cases eA
       obtain ⟨ad13, eA, hq9, hq10, hq11⟩ := at_T72 hrd 4 (by have := HZ3.out; omega) (by have := HZ3.out; have := H6.out; omega)
       cases eA
       obtain ⟨ad14, eA, hq12, hq13, hq14⟩ := at_T72 hrd (i : Int) (by have := HZ3.out; omega) (by have := HZ3.out; have := H6.out; omega)
       cases eA
       obtain ⟨ad15, eA, hq15, hq16, hq17⟩ := at_T72 hrd z3 (by have := HZ3.out; omega) (by have := HZ3.out; have := H6.out; omega)
       cases eA
       clear hrd
       simp only [Int.reduceToNat, Nat.reduceMul, Addr.add_zero'] at hq0 hq1 hq2
       simp only [Int.reduceToNat, Nat.reduceMul, Nat.reduceEqDiff, Nat.add_assoc, Nat.reduceAdd, Go.Addr.add, ↓reduceIte] at hq3 hq4 hq5 hq6 hq7 hq8 hq9 hq10 hq11
       simp only [Int.toNat_natCast] at hq12 hq13 hq14
       have hu4 : ((i : Int) < 6) = True := eq_true (by omega)
       have hl5 : (0 ≤ z3) = True := eq_true HZ3.out.1
       have hu5 : (z3 < 6) = True := eq_true HZ3.out.2
       go_wp2_with fail
       cases xa with
       | true =>
        have h := HF.out
        rw [if_pos rfl] at h
        obtain ⟨rfl, rfl⟩ := Prod.mk.inj (Option.some.inj (show some (([] : List TRq), false) = some (r1, r2) from h))
        clear h HF
        refine region_ (S := fun w' => Below wr.heap.size wr w') 25 wr.heap.size [] (by kernel_rfl) (by kernel_rfl) (below_drew (Below.refl _ _)) (fun _ _ h1 h2 => h1.trans h2) (fun _ h1 => h1.size) ?_
        iterate 25 (first
         | (refine atV_ (v := .int .i64 z3) (a' := ?_) rfl rfl rfl rfl (by rfl) ?_ ?_ ?_; rotate_left 1; (· rintro w' hb'; go_simp; exact (i64_w _).trans HW3.out); (· simp only [Act.put, List.setIfInBounds_toArray, List.set_cons_zero, List.set_cons_succ, i64_w, i32_w]; rfl))
         | (refine atV_ (v := ?_) (a' := ?_) rfl rfl rfl rfl (by rfl) ?_ ?_ ?_; rotate_left 2; (· rintro w' hb'; go_simp; with_reducible rfl); (· simp only [Act.put, List.setIfInBounds_toArray, List.set_cons_zero, List.set_cons_succ, i64_w, i32_w]; rfl))
         | (refine atV_ (v := ?_) (a' := ?_) rfl rfl rfl rfl (by rfl) ?_ ?_ ?_; rotate_left 2; (· rintro w' hb'; have s0 := cell_ hb' hq0; have s1 := cell_ hb' hq1; have s2 := cell_ hb' hq2; have s3 := cell_ hb' hq3; have s4 := cell_ hb' hq4; have s5 := cell_ hb' hq5; have s6 := cell_ hb' hq6; have s7 := cell_ hb' hq7; have s8 := cell_ hb' hq8; have s9 := cell_ hb' hq9; have s10 := cell_ hb' hq10; have s11 := cell_ hb' hq11; have s12 := cell_ hb' hq12; have s13 := cell_ hb' hq13; have s14 := cell_ hb' hq14; have s15 := cell_ hb' hq15; have s16 := cell_ hb' hq16; have s17 := cell_ hb' hq17; go_simp; with_reducible rfl); (· simp only [Act.put, List.setIfInBounds_toArray, List.set_cons_zero, List.set_cons_succ, i64_w, i32_w]; rfl))
         | (refine atC_ (a' := ?_) (.bool true) rfl rfl Try.func84 rfl rfl rfl (by rfl) (by kernel_rfl) rfl #[.agg #[.int .i64 (rd_T72 q 3).f0, .int .i64 (rd_T72 q 3).f1, .int .i64 (rd_T72 q 3).f2], .agg #[.int .i64 (rd_T72 q 4).f0, .int .i64 (rd_T72 q 4).f1, .int .i64 (rd_T72 q 4).f2], .agg #[.int .i64 (rd_T72 q (i : Int)).f0, .int .i64 (rd_T72 q (i : Int)).f1, .int .i64 (rd_T72 q (i : Int)).f2]] (by (try simp only [List.map_toArray, List.map_cons, List.map_nil]); rfl) ?_ ?_ ?_; rotate_left; (· rintro w' hb'; with_reducible refine (spec_AreOnOne.calls _ _ _ _ _ _ _ _ _ _ _ HA3.out).mono ?_; rintro e w1 ⟨rfl, hb1⟩; exact ⟨rfl, hb1⟩); (· simp only [Act.put, List.setIfInBounds_toArray, List.set_cons_zero, List.set_cons_succ, i64_w, i32_w]; rfl))
         | (refine atO_ (a' := ?_) rfl rfl rfl rfl (by rfl) ?_ ?_; rotate_left; (· simp only [Act.put, List.setIfInBounds_toArray, List.set_cons_zero, List.set_cons_succ, i64_w, i32_w]; rfl)))
        refine atEnd_ ?_
        intro w2 hb2
        refine done_ (by kernel_rfl) ?_
        have m0_ := Aside0.mk (below_then HB.out (below_size HB.out) hb2)
        clear HB hb2
        have HB := m0_
        clear m0_
        go_wp2_with (first
         | ((with_reducible refine gate_dst (N := 91) rfl ?_); refine Kd.R_lit k72 _ 72 ?hg (N := 91) ?hd (xs := ([] : List TRq)) (inner := []) (ok := fun _ => True) (okp := fun _ => True) ?hr ?hp (fun _ hk => hk) trivial (Below.refl _ _) (Nat.le_refl _) (by simp) ?_; (case hd => rfl); (case hg => rfl); (case hr => first | (go_simp; done) | (go_simp; rfl)); (case hp => exact (Reps.none _ _)); intro v9 w9 ho9 hb9 hg_ hnew_; have HO9 := Aside0.mk (Kd.R_lower ho9 (below_size HB.out)); have HB9 := Aside0.mk (below_step HB.out hb9); clear hg_ hnew_ ho9 hb9))
        go_ret2
        exact ⟨_, rfl, HO9.out, HB9.out⟩
       | false =>
        have h := HF.out
        rw [if_neg (by decide)] at h
        obtain ⟨xb, hb_, h⟩ := Option.bind_eq_some_iff.mp h
        have HB3 := Aside0.mk (show spec_AreOnOne.f (rd_T72 q 0).f0 (rd_T72 q 0).f1 (rd_T72 q 0).f2 (rd_T72 q 1).f0 (rd_T72 q 1).f1 (rd_T72 q 1).f2 (rd_T72 q z3).f0 (rd_T72 q z3).f1 (rd_T72 q z3).f2 = some xb from hb_)
        clear hb_ HF
        cases xb with
        | true =>
         rw [if_pos rfl] at h
         obtain ⟨rfl, rfl⟩ := Prod.mk.inj (Option.some.inj (show some (([] : List TRq), false) = some (r1, r2) from h))
         clear h
         refine region_ (S := fun w' => Below wr.heap.size wr w') 25 wr.heap.size [] (by kernel_rfl) (by kernel_rfl) (below_drew (Below.refl _ _)) (fun _ _ h1 h2 => h1.trans h2) (fun _ h1 => h1.size) ?_
         iterate 25 (first
          | (refine atV_ (v := .int .i64 z3) (a' := ?_) rfl rfl rfl rfl (by rfl) ?_ ?_ ?_; rotate_left 1; (· rintro w' hb'; go_simp; exact (i64_w _).trans HW3.out); (· simp only [Act.put, List.setIfInBounds_toArray, List.set_cons_zero, List.set_cons_succ, i64_w, i32_w]; rfl))
          | (refine atV_ (v := ?_) (a' := ?_) rfl rfl rfl rfl (by rfl) ?_ ?_ ?_; rotate_left 2; (· rintro w' hb'; go_simp; with_reducible rfl); (· simp only [Act.put, List.setIfInBounds_toArray, List.set_cons_zero, List.set_cons_succ, i64_w, i32_w]; rfl))
          | (refine atV_ (v := ?_) (a' := ?_) rfl rfl rfl rfl (by rfl) ?_ ?_ ?_; rotate_left 2; (· rintro w' hb'; have s0 := cell_ hb' hq0; have s1 := cell_ hb' hq1; have s2 := cell_ hb' hq2; have s3 := cell_ hb' hq3; have s4 := cell_ hb' hq4; have s5 := cell_ hb' hq5; have s6 := cell_ hb' hq6; have s7 := cell_ hb' hq7; have s8 := cell_ hb' hq8; have s9 := cell_ hb' hq9; have s10 := cell_ hb' hq10; have s11 := cell_ hb' hq11; have s12 := cell_ hb' hq12; have s13 := cell_ hb' hq13; have s14 := cell_ hb' hq14; have s15 := cell_ hb' hq15; have s16 := cell_ hb' hq16; have s17 := cell_ hb' hq17; go_simp; with_reducible rfl); (· simp only [Act.put, List.setIfInBounds_toArray, List.set_cons_zero, List.set_cons_succ, i64_w, i32_w]; rfl))
          | (refine atC_ (a' := ?_) (.bool false) rfl rfl Try.func84 rfl rfl rfl (by rfl) (by kernel_rfl) rfl #[.agg #[.int .i64 (rd_T72 q 3).f0, .int .i64 (rd_T72 q 3).f1, .int .i64 (rd_T72 q 3).f2], .agg #[.int .i64 (rd_T72 q 4).f0, .int .i64 (rd_T72 q 4).f1, .int .i64 (rd_T72 q 4).f2], .agg #[.int .i64 (rd_T72 q (i : Int)).f0, .int .i64 (rd_T72 q (i : Int)).f1, .int .i64 (rd_T72 q (i : Int)).f2]] (by (try simp only [List.map_toArray, List.map_cons, List.map_nil]); rfl) ?_ ?_ ?_; rotate_left; (· rintro w' hb'; with_reducible refine (spec_AreOnOne.calls _ _ _ _ _ _ _ _ _ _ _ HA3.out).mono ?_; rintro e w1 ⟨rfl, hb1⟩; exact ⟨rfl, hb1⟩); (· simp only [Act.put, List.setIfInBounds_toArray, List.set_cons_zero, List.set_cons_succ, i64_w, i32_w]; rfl))
          | (refine atC_ (a' := ?_) (.bool true) rfl rfl Try.func84 rfl rfl rfl (by rfl) (by kernel_rfl) rfl #[.agg #[.int .i64 (rd_T72 q 0).f0, .int .i64 (rd_T72 q 0).f1, .int .i64 (rd_T72 q 0).f2], .agg #[.int .i64 (rd_T72 q 1).f0, .int .i64 (rd_T72 q 1).f1, .int .i64 (rd_T72 q 1).f2], .agg #[.int .i64 (rd_T72 q z3).f0, .int .i64 (rd_T72 q z3).f1, .int .i64 (rd_T72 q z3).f2]] (by (try simp only [List.map_toArray, List.map_cons, List.map_nil]); rfl) ?_ ?_ ?_; rotate_left; (· rintro w' hb'; with_reducible refine (spec_AreOnOne.calls _ _ _ _ _ _ _ _ _ _ _ HB3.out).mono ?_; rintro e w1 ⟨rfl, hb1⟩; exact ⟨rfl, hb1⟩); (· simp only [Act.put, List.setIfInBounds_toArray, List.set_cons_zero, List.set_cons_succ, i64_w, i32_w]; rfl))
          | (refine atO_ (a' := ?_) rfl rfl rfl rfl (by rfl) ?_ ?_; rotate_left; (· simp only [Act.put, List.setIfInBounds_toArray, List.set_cons_zero, List.set_cons_succ, i64_w, i32_w]; rfl)))
         refine atEnd_ ?_
         intro w2 hb2
         refine done_ (by kernel_rfl) ?_
         have m0_ := Aside0.mk (below_then HB.out (below_size HB.out) hb2)
         clear HB hb2
         have HB := m0_
         clear m0_
         go_wp2_with (first
          | ((with_reducible refine gate_dst (N := 91) rfl ?_); refine Kd.R_lit k72 _ 72 ?hg (N := 91) ?hd (xs := ([] : List TRq)) (inner := []) (ok := fun _ => True) (okp := fun _ => True) ?hr ?hp (fun _ hk => hk) trivial (Below.refl _ _) (Nat.le_refl _) (by simp) ?_; (case hd => rfl); (case hg => rfl); (case hr => first | (go_simp; done) | (go_simp; rfl)); (case hp => exact (Reps.none _ _)); intro v9 w9 ho9 hb9 hg_ hnew_; have HO9 := Aside0.mk (Kd.R_lower ho9 (below_size HB.out)); have HB9 := Aside0.mk (below_step HB.out hb9); clear hg_ hnew_ ho9 hb9))
         go_ret2
         exact ⟨_, rfl, HO9.out, HB9.out⟩
        | false =>
         rw [if_neg (by decide)] at h
         have H' := Aside0.mk h
         clear h
         refine region_ (S := fun w' => Below wr.heap.size wr w') 25 wr.heap.size [] (by kernel_rfl) (by kernel_rfl) (below_drew (Below.refl _ _)) (fun _ _ h1 h2 => h1.trans h2) (fun _ h1 => h1.size) ?_
         iterate 25 (first
          | (refine atV_ (v := .int .i64 z3) (a' := ?_) rfl rfl rfl rfl (by rfl) ?_ ?_ ?_; rotate_left 1; (· rintro w' hb'; go_simp; exact (i64_w _).trans HW3.out); (· simp only [Act.put, List.setIfInBounds_toArray, List.set_cons_zero, List.set_cons_succ, i64_w, i32_w]; rfl))
          | (refine atV_ (v := ?_) (a' := ?_) rfl rfl rfl rfl (by rfl) ?_ ?_ ?_; rotate_left 2; (· rintro w' hb'; go_simp; with_reducible rfl); (· simp only [Act.put, List.setIfInBounds_toArray, List.set_cons_zero, List.set_cons_succ, i64_w, i32_w]; rfl))
          | (refine atV_ (v := ?_) (a' := ?_) rfl rfl rfl rfl (by rfl) ?_ ?_ ?_; rotate_left 2; (· rintro w' hb'; have s0 := cell_ hb' hq0; have s1 := cell_ hb' hq1; have s2 := cell_ hb' hq2; have s3 := cell_ hb' hq3; have s4 := cell_ hb' hq4; have s5 := cell_ hb' hq5; have s6 := cell_ hb' hq6; have s7 := cell_ hb' hq7; have s8 := cell_ hb' hq8; have s9 := cell_ hb' hq9; have s10 := cell_ hb' hq10; have s11 := cell_ hb' hq11; have s12 := cell_ hb' hq12; have s13 := cell_ hb' hq13; have s14 := cell_ hb' hq14; have s15 := cell_ hb' hq15; have s16 := cell_ hb' hq16; have s17 := cell_ hb' hq17; go_simp; with_reducible rfl); (· simp only [Act.put, List.setIfInBounds_toArray, List.set_cons_zero, List.set_cons_succ, i64_w, i32_w]; rfl))
          | (refine atC_ (a' := ?_) (.bool false) rfl rfl Try.func84 rfl rfl rfl (by rfl) (by kernel_rfl) rfl #[.agg #[.int .i64 (rd_T72 q 3).f0, .int .i64 (rd_T72 q 3).f1, .int .i64 (rd_T72 q 3).f2], .agg #[.int .i64 (rd_T72 q 4).f0, .int .i64 (rd_T72 q 4).f1, .int .i64 (rd_T72 q 4).f2], .agg #[.int .i64 (rd_T72 q (i : Int)).f0, .int .i64 (rd_T72 q (i : Int)).f1, .int .i64 (rd_T72 q (i : Int)).f2]] (by (try simp only [List.map_toArray, List.map_cons, List.map_nil]); rfl) ?_ ?_ ?_; rotate_left; (· rintro w' hb'; with_reducible refine (spec_AreOnOne.calls _ _ _ _ _ _ _ _ _ _ _ HA3.out).mono ?_; rintro e w1 ⟨rfl, hb1⟩; exact ⟨rfl, hb1⟩); (· simp only [Act.put, List.setIfInBounds_toArray, List.set_cons_zero, List.set_cons_succ, i64_w, i32_w]; rfl))
          | (refine atC_ (a' := ?_) (.bool false) rfl rfl Try.func84 rfl rfl rfl (by rfl) (by kernel_rfl) rfl #[.agg #[.int .i64 (rd_T72 q 0).f0, .int .i64 (rd_T72 q 0).f1, .int .i64 (rd_T72 q 0).f2], .agg #[.int .i64 (rd_T72 q 1).f0, .int .i64 (rd_T72 q 1).f1, .int .i64 (rd_T72 q 1).f2], .agg #[.int .i64 (rd_T72 q z3).f0, .int .i64 (rd_T72 q z3).f1, .int .i64 (rd_T72 q z3).f2]] (by (try simp only [List.map_toArray, List.map_cons, List.map_nil]); rfl) ?_ ?_ ?_; rotate_left; (· rintro w' hb'; with_reducible refine (spec_AreOnOne.calls _ _ _ _ _ _ _ _ _ _ _ HB3.out).mono ?_; rintro e w1 ⟨rfl, hb1⟩; exact ⟨rfl, hb1⟩); (· simp only [Act.put, List.setIfInBounds_toArray, List.set_cons_zero, List.set_cons_succ, i64_w, i32_w]; rfl))
          | (refine atO_ (a' := ?_) rfl rfl rfl rfl (by rfl) ?_ ?_; rotate_left; (· simp only [Act.put, List.setIfInBounds_toArray, List.set_cons_zero, List.set_cons_succ, i64_w, i32_w]; rfl)))
         refine atEnd_ ?_
         intro w2 hb2
         refine done_ (by kernel_rfl) ?_
         have HB2 := Aside0.mk (below_then HB.out (below_size HB.out) hb2)
         have HQ2 := Aside0.mk (Kd.R_below HQ.out hb2)
         have HG2 := Aside0.mk (show w2.cell? ⟨g1, 0, none⟩ = some (.int .i64 t1) ∧ w2.cell? ⟨g1, 1, none⟩ = some (.int .i64 t2) ∧ w2.cell? ⟨g1, 2, none⟩ = some (.int .i64 t3) ∧ w2.cell? ⟨g2, 0, none⟩ = some (.int .i64 s1_) ∧ w2.cell? ⟨g2, 1, none⟩ = some (.int .i64 s2_) ∧ w2.cell? ⟨g2, 2, none⟩ = some (.int .i64 s3_) from ⟨cell_ hb2 HG.out.1, cell_ hb2 HG.out.2.1, cell_ hb2 HG.out.2.2.1, cell_ hb2 HG.out.2.2.2.1, cell_ hb2 HG.out.2.2.2.2.1, cell_ hb2 HG.out.2.2.2.2.2⟩)
         clear HB HQ HG hb2 hq0 hq1 hq2 hq3 hq4 hq5 hq6 hq7 hq8 hq9 hq10 hq11 hq12 hq13 hq14 hq15 hq16 hq17 hu4 hl5 hu5 HA3 HB3
         go_wp2
         go_roundg k1
         case measure => have := HK1.out; omega
         case rel => exact ⟨i + 1, by have e9 : wrap64 ((i : Int) + 1) = ((i + 1 : Nat) : Int) := (by unfold wrap64; omega); first | rfl | exact congrArg (Value.int IntTy.i64) e9 | exact congrArg (Value.int IntTy.i64) ((i64_w _).trans e9) | exact congrArg (Value.int IntTy.i64) (by omega), by omega, H', ⟨by have := HK1.out; omega⟩, HQ2, HB2, HG2⟩
      ·rw [if_neg hlt] at H
       have hltz : ¬ (i : Int) < 3 := by omega
       obtain ⟨z, hz, H⟩ := Option.bind_eq_some_iff.mp H
       have HEQ := Aside0.mk (show spec_l26Equal.f k1 t1 t2 t3 s1_ s2_ s3_ = some z from hz)
       have HF := Aside0.mk H
       clear hz H
       have hg10 := HG.out.1
       have hg11 := HG.out.2.1
       have hg12 := HG.out.2.2.1
       have hg20 := HG.out.2.2.2.1
       have hg21 := HG.out.2.2.2.2.1
       have hg22 := HG.out.2.2.2.2.2
       cases z with
       | true =>
        have h := HF.out
        rw [if_pos rfl] at h
        obtain ⟨rfl, rfl⟩ := Prod.mk.inj (Option.some.inj (show some (([] : List TRq), false) = some (r1, r2) from h))
        clear h HF
        go_wp2_with (first
         | (go_at_call 123; (with_reducible refine (spec_l26Equal.calls k1 _ _ _ _ _ _ true _ HEQ.out).mono ?_); rintro e w7 ⟨rfl, hb7⟩; have HB7 := Aside0.mk (below_step HB.out hb7); have HQ7 := Aside0.mk (Kd.R_below HQ.out hb7); clear hb7 HB HQ HG hg10 hg11 hg12 hg20 hg21 hg22)
         | ((with_reducible refine gate_dst (N := 95) rfl ?_); refine Kd.R_lit k72 _ 72 ?hg (N := 95) ?hd (xs := ([] : List TRq)) (inner := []) (ok := fun _ => True) (okp := fun _ => True) ?hr ?hp (fun _ hk => hk) trivial (Below.refl _ _) (Nat.le_refl _) (by simp) ?_; (case hd => rfl); (case hg => rfl); (case hr => first | (go_simp; done) | (go_simp; rfl)); (case hp => exact (Reps.none _ _)); intro v9 w9 ho9 hb9 hg_ hnew_; have HO9 := Aside0.mk (Kd.R_lower ho9 (below_size HB7.out)); have HB9 := Aside0.mk (below_step HB7.out hb9); clear hg_ hnew_ ho9 hb9))
        go_ret2
        exact ⟨_, rfl, HO9.out, HB9.out⟩
       | false =>
        have h := HF.out
        rw [if_neg (by decide)] at h
        have H' := Aside0.mk h
        clear h HF
        go_wp2_with (first
         | (go_at_call 123; (with_reducible refine (spec_l26Equal.calls k1 _ _ _ _ _ _ false _ HEQ.out).mono ?_); rintro e w7 ⟨rfl, hb7⟩; have HB7 := Aside0.mk (below_step HB.out hb7); have HQ7 := Aside0.mk (Kd.R_below HQ.out hb7); clear hb7 HB HQ HG hg10 hg11 hg12 hg20 hg21 hg22)
         | ((with_reducible refine gate_dst (N := 96) rfl ?_); refine Kd.R_lit k72 _ 72 ?hg (N := 96) ?hd (xs := ([] : List TRq)) (inner := []) (ok := fun k_ => k_ = w7.heap.size) (okp := fun k_ => k_ = w7.heap.size) ?hr ?hp (fun _ hk => hk) rfl (Below.refl _ _) (Nat.le_refl _) (by simp) ?_; (case hd => rfl); (case hg => rfl); (case hr => first | (go_simp; done) | (go_simp; rfl)); (case hp => exact (Reps.none _ _)); intro v9 w9 ho9 hb9 hg_ hnew_; have HO9 := Aside0.mk (Kd.R_lower ho9 (below_size HB7.out)); have HB9 := Aside0.mk (below_step HB7.out hb9); have HS9 := Aside0.mk hb9; clear hg_ hnew_ ho9 hb9))
        have HP := Aside0.mk (pairs4_made w9)
        have HQ9 := Aside0.mk (Kd.R_below HQ7.out HS9.out)
        have HQB := Aside0.mk (show ∀ b, (Value.slice (some ad0) 6 c1).ownBlock = some b → b < w7.heap.size from fun b hb => ((Kd.R_bound HQ7.out).1 b hb).2.2.1)
        have HO5 := Aside0.mk (Kd.R_alloc (Kd.R_alloc (Kd.R_alloc (Kd.R_alloc (Kd.R_mono (Kd.R_bound HO9.out) (ok' := fun k_ => some k_ ≠ (Value.slice (some ad0) 6 c1).ownBlock ∧ (k_ < w9.heap.size ∨ w9.heap.size + 4 ≤ k_)) (fun k_ hk => ⟨fun e_ => by have h9 := HQB.out k_ e_.symm; have h8 := hk.1; omega, .inl hk.2.2.1⟩)) (.cells #[.int .i64 0, .int .i64 4, .int .i64 1, .int .i64 3] 3)) (.cells #[.int .i64 0, .int .i64 5, .int .i64 2, .int .i64 3] 3)) (.cells #[.int .i64 1, .int .i64 5, .int .i64 2, .int .i64 4] 3)) (.cells #[.slice (some ⟨w9.heap.size, 0, none⟩) 4 4, .slice (some ⟨w9.heap.size + 1, 0, none⟩) 4 4, .slice (some ⟨w9.heap.size + 1 + 1, 0, none⟩) 4 4] 29))
        have HQ5 := Aside0.mk (Kd.R_alloc (Kd.R_alloc (Kd.R_alloc (Kd.R_alloc HQ9.out (.cells #[.int .i64 0, .int .i64 4, .int .i64 1, .int .i64 3] 3)) (.cells #[.int .i64 0, .int .i64 5, .int .i64 2, .int .i64 3] 3)) (.cells #[.int .i64 1, .int .i64 5, .int .i64 2, .int .i64 4] 3)) (.cells #[.slice (some ⟨w9.heap.size, 0, none⟩) 4 4, .slice (some ⟨w9.heap.size + 1, 0, none⟩) 4 4, .slice (some ⟨w9.heap.size + 1 + 1, 0, none⟩) 4 4] 29))
        have HB5 := Aside0.mk (below_alloc (below_alloc (below_alloc (below_alloc HB9.out (.cells #[.int .i64 0, .int .i64 4, .int .i64 1, .int .i64 3] 3)) (.cells #[.int .i64 0, .int .i64 5, .int .i64 2, .int .i64 3] 3)) (.cells #[.int .i64 1, .int .i64 5, .int .i64 2, .int .i64 4] 3)) (.cells #[.slice (some ⟨w9.heap.size, 0, none⟩) 4 4, .slice (some ⟨w9.heap.size + 1, 0, none⟩) 4 4, .slice (some ⟨w9.heap.size + 1 + 1, 0, none⟩) 4 4] 29))
        have HQG := Aside0.mk (show ∀ b, (Value.slice (some ad0) 6 c1).ownBlock = some b → b < w9.heap.size from fun b hb => ((Kd.R_bound HQ9.out).1 b hb).2.2.1)
        have HGW := Aside0.mk (below_size HB9.out)
        clear HO9 HQ9 HB9 HS9 HQB HB7 HQ7
        rw [show w9.heap.size + 1 + 1 + 1 = w9.heap.size + 3 from rfl]
        generalize ((((w9.alloc (.cells #[.int .i64 0, .int .i64 4, .int .i64 1, .int .i64 3] 3)).alloc (.cells #[.int .i64 0, .int .i64 5, .int .i64 2, .int .i64 3] 3)).alloc (.cells #[.int .i64 1, .int .i64 5, .int .i64 2, .int .i64 4] 3)).alloc (.cells #[.slice (some ⟨w9.heap.size, 0, none⟩) 4 4, .slice (some ⟨w9.heap.size + 1, 0, none⟩) 4 4, .slice (some ⟨w9.heap.size + 1 + 1, 0, none⟩) 4 4] 29)) = W5 at HP HO5 HQ5 HB5 ⊢
        generalize w9.heap.size = g at HP HO5 HQG HGW ⊢
        go_loopg [9, 11] k1 (fun kq v9_ v11_ wr => ∃ (out : List TRq) (i : Nat), v11_ = .int .i64 i ∧ i ≤ 3 ∧ Aside0 (spec_PappusOf.l1 kq q out i = some (r1, r2)) ∧ Aside0 (kq ≤ k1) ∧ Aside0 (Kd.R k72 72 wr w.heap.size (fun k_ => some k_ ≠ (Value.slice (some ad0) 6 c1).ownBlock ∧ (k_ < g ∨ g + 4 ≤ k_)) v9_ out) ∧ Aside0 (Kd.R k72 72 wr w.heap.size (fun _ => True) (.slice (some ad0) 6 c1) q) ∧ Aside0 (PairsAt4 wr g) ∧ Aside0 (Below w.heap.size w wr))
        case atStart => exact ⟨[], 0, rfl, Nat.zero_le _, H', ⟨Nat.le_refl _⟩, HO5, HQ5, HP, HB5⟩
        case round =>
         clear HB5 HO5 HQ5 HP H' HEQ hltz hlt hil
         obtain ⟨out, i, rfl, hil, HA, HK2, HO, HQ, HP, HB⟩ := hrel
         cases gk with
         | zero => exact absurd HA.out (by simp [spec_PappusOf.l1])
         | succ k2 =>
          have H := HA.out
          clear HA
          simp only [spec_PappusOf.l1] at H
          by_cases hlt : i < 3
          ·rw [if_pos hlt] at H
           have hltz : (i : Int) < 3 := by omega
           obtain ⟨⟨t1, t2, t3⟩, ht, H⟩ := Option.bind_eq_some_iff.mp H
           obtain ⟨⟨s1_, s2_, s3_⟩, hu, H⟩ := Option.bind_eq_some_iff.mp H
           obtain ⟨⟨c1', c2_, c3_⟩, hc, H⟩ := Option.bind_eq_some_iff.mp H
           by_cases hol : out.length < 1000000
           case neg => rw [if_neg hol] at H; cases H
           rw [if_pos hol] at H
           obtain ⟨hf, hft⟩ := HP.out.1 i hlt
           have hf0 := hf 0 (by omega)
           have hf1 := hf 1 (by omega)
           have hf2 := hf 2 (by omega)
           have hf3 := hf 3 (by omega)
           have hb0 := pp_lt i 0
           have hb1 := pp_lt i 1
           have hb2 := pp_lt i 2
           have hb3 := pp_lt i 3
           obtain ⟨z0, hz0⟩ : ∃ z : Int, (pp i 0 : Int) = z := ⟨_, rfl⟩
           obtain ⟨z1, hz1⟩ : ∃ z : Int, (pp i 1 : Int) = z := ⟨_, rfl⟩
           obtain ⟨z2, hz2⟩ : ∃ z : Int, (pp i 2 : Int) = z := ⟨_, rfl⟩
           obtain ⟨z3, hz3⟩ : ∃ z : Int, (pp i 3 : Int) = z := ⟨_, rfl⟩
           rw [hz0, hz1] at ht
           rw [hz2, hz3] at hu
           rw [hz0] at hf0
           rw [hz1] at hf1
           rw [hz2] at hf2
           rw [hz3] at hf3
           have HGE := Aside0.mk (show (0 ≤ z0 ∧ z0 < 6) ∧ (0 ≤ z1 ∧ z1 < 6) ∧ (0 ≤ z2 ∧ z2 < 6) ∧ 0 ≤ z3 ∧ z3 < 6 by omega)
           have HT := Aside0.mk (show spec_CrossOf.f k2 (rd_T72 q z0).f0 (rd_T72 q z0).f1 (rd_T72 q z0).f2 (rd_T72 q z1).f0 (rd_T72 q z1).f1 (rd_T72 q z1).f2 = some (t1, t2, t3) from ht)
           have HU := Aside0.mk (show spec_CrossOf.f k2 (rd_T72 q z2).f0 (rd_T72 q z2).f1 (rd_T72 q z2).f2 (rd_T72 q z3).f0 (rd_T72 q z3).f1 (rd_T72 q z3).f2 = some (s1_, s2_, s3_) from hu)
           have HCR := Aside0.mk (show spec_CrossOf.f k2 t1 t2 t3 s1_ s2_ s3_ = some (c1', c2_, c3_) from hc)
           have HOL := Aside0.mk hol
           have H' := Aside0.mk H
           clear ht hu hc H hol hf hz0 hz1 hz2 hz3 hb0 hb1 hb2 hb3
           have hrd := (Kd.R_reads' HQ.out).2.2
           obtain ⟨ad10, eA, hq0, hq1, hq2⟩ := at_T72 hrd z0 (by have := HGE.out; omega) (by have := HGE.out; have := H6.out; omega)
           cases eA
           obtain ⟨ad11, eA, hq3, hq4, hq5⟩ := at_T72 hrd z1 (by have := HGE.out; omega) (by have := HGE.out; have := H6.out; omega)
           cases eA
           obtain ⟨ad12, eA, hq6, hq7, hq8⟩ := at_T72 hrd z2 (by have := HGE.out; omega) (by have := HGE.out; have := H6.out; omega)
           cases eA
           obtain ⟨ad13, eA, hq9, hq10, hq11⟩ := at_T72 hrd z3 (by have := HGE.out; omega) (by have := HGE.out; have := H6.out; omega)
           cases eA
           have hl0 : (0 ≤ z0) = True := eq_true (by have := HGE.out; omega)
           have hu0 : (z0 < 6) = True := eq_true (by have := HGE.out; omega)
           have hl1 : (0 ≤ z1) = True := eq_true (by have := HGE.out; omega)
           have hu1 : (z1 < 6) = True := eq_true (by have := HGE.out; omega)
           have hl2 : (0 ≤ z2) = True := eq_true (by have := HGE.out; omega)
           have hu2 : (z2 < 6) = True := eq_true (by have := HGE.out; omega)
           have hl3 : (0 ≤ z3) = True := eq_true (by have := HGE.out; omega)
           have hu3 : (z3 < 6) = True := eq_true (by have := HGE.out; omega)
           clear hrd
           go_wp2_with fail
           refine region_ (S := fun w' => Below wr.heap.size wr w') 21 wr.heap.size [(19, 20)] (by kernel_rfl) (by kernel_rfl) (below_drew (Below.refl _ _)) (fun _ _ h1 h2 => h1.trans h2) (fun _ h1 => h1.size) ?_
           iterate 21 (first
            | (refine atV_ (v := ?_) (a' := ?_) rfl rfl rfl rfl (by rfl) ?_ ?_ ?_; rotate_left 2; (· rintro w' hb'; go_simp; with_reducible rfl); (· simp only [Act.put, List.setIfInBounds_toArray, List.set_cons_zero, List.set_cons_succ, i64_w, i32_w]; rfl))
            | (refine atV_ (v := ?_) (a' := ?_) rfl rfl rfl rfl (by rfl) ?_ ?_ ?_; rotate_left 2; (· rintro w' hb'; have s0 := cell_ hb' hft; have s1 := cell_ hb' hf0; have s2 := cell_ hb' hf1; have s3 := cell_ hb' hq0; have s4 := cell_ hb' hq1; have s5 := cell_ hb' hq2; have s6 := cell_ hb' hq3; have s7 := cell_ hb' hq4; have s8 := cell_ hb' hq5; go_simp; with_reducible rfl); (· simp only [Act.put, List.setIfInBounds_toArray, List.set_cons_zero, List.set_cons_succ, i64_w, i32_w]; rfl))
            | (refine atC_ (a' := ?_) (.agg #[.int .i64 t1, .int .i64 t2, .int .i64 t3]) rfl rfl Try.func82 rfl rfl rfl (by rfl) (by kernel_rfl) rfl #[.agg #[.int .i64 (rd_T72 q z0).f0, .int .i64 (rd_T72 q z0).f1, .int .i64 (rd_T72 q z0).f2], .agg #[.int .i64 (rd_T72 q z1).f0, .int .i64 (rd_T72 q z1).f1, .int .i64 (rd_T72 q z1).f2]] (by (try simp only [List.map_toArray, List.map_cons, List.map_nil]); rfl) ?_ ?_ ?_; rotate_left; (· rintro w' hb'; with_reducible refine (spec_CrossOf.calls k2 _ _ _ _ _ _ t1 t2 t3 _ HT.out).mono ?_; rintro e w1 ⟨rfl, hb1⟩; exact ⟨rfl, hb1⟩); (· simp only [Act.put, List.setIfInBounds_toArray, List.set_cons_zero, List.set_cons_succ, i64_w, i32_w]; rfl))
            | (refine atN_ #[.int .i64 0, .int .i64 0, .int .i64 0] 72 (some (20, #[.int .i64 t1, .int .i64 t2, .int .i64 t3])) rfl rfl rfl rfl (by rfl) ?_ ?_; (· rintro w' hb'; first | (go_simp; done) | (go_simp; rfl)))
            | (refine atS_ 0 rfl rfl rfl rfl rfl rfl (fun g => by rfl) ?_ ?_; (· rintro g w' hb' hg hn; have hs0 := (blk_cell hg 0).trans rfl; have hs1 := (blk_cell hg 1).trans rfl; have hs2 := (blk_cell hg 2).trans rfl; have hf0 := blk_frozen hg 0; have hf1 := blk_frozen hg 1; have hf2 := blk_frozen hg 2; refine ⟨_, ?_, (mut3_ hg _ _ _).1, (mut3_ hg _ _ _).2⟩; first | (go_simp; done) | (go_simp; rfl))))
           refine atEnd_ ?_
           intro w5 hb5 g1 _ h1 _
           refine done_ (by kernel_rfl) ?_
           have HG1 := Aside0.mk h1
           have HB5 := Aside0.mk (below_then HB.out (below_size HB.out) hb5)
           have HO5 := Aside0.mk (Kd.R_below HO.out hb5)
           have HQ5 := Aside0.mk (Kd.R_below HQ.out hb5)
           have HP5 := Aside0.mk (HP.out.to hb5.size (fun k_ _ hk_ => hb5.block k_ (by have := HP.out.2; omega)))
           replace hft := cell_ hb5 hft
           replace hf2 := cell_ hb5 hf2
           replace hf3 := cell_ hb5 hf3
           replace hq6 := cell_ hb5 hq6
           replace hq7 := cell_ hb5 hq7
           replace hq8 := cell_ hb5 hq8
           replace hq9 := cell_ hb5 hq9
           replace hq10 := cell_ hb5 hq10
           replace hq11 := cell_ hb5 hq11
           clear hb5 h1 HB HO HQ HP hf0 hf1 HT hq0 hq1 hq2 hq3 hq4 hq5
           go_wp2_with fail
           refine region_ (S := fun w' => Below w5.heap.size w5 w') 21 w5.heap.size [(19, 20)] (by kernel_rfl) (by kernel_rfl) (below_drew (Below.refl _ _)) (fun _ _ h1 h2 => h1.trans h2) (fun _ h1 => h1.size) ?_
           iterate 21 (first
            | (refine atV_ (v := ?_) (a' := ?_) rfl rfl rfl rfl (by rfl) ?_ ?_ ?_; rotate_left 2; (· rintro w' hb'; go_simp; with_reducible rfl); (· simp only [Act.put, List.setIfInBounds_toArray, List.set_cons_zero, List.set_cons_succ, i64_w, i32_w]; rfl))
            | (refine atV_ (v := ?_) (a' := ?_) rfl rfl rfl rfl (by rfl) ?_ ?_ ?_; rotate_left 2; (· rintro w' hb'; have s0 := cell_ hb' hft; have s1 := cell_ hb' hf2; have s2 := cell_ hb' hf3; have s3 := cell_ hb' hq6; have s4 := cell_ hb' hq7; have s5 := cell_ hb' hq8; have s6 := cell_ hb' hq9; have s7 := cell_ hb' hq10; have s8 := cell_ hb' hq11; go_simp; with_reducible rfl); (· simp only [Act.put, List.setIfInBounds_toArray, List.set_cons_zero, List.set_cons_succ, i64_w, i32_w]; rfl))
            | (refine atC_ (a' := ?_) (.agg #[.int .i64 s1_, .int .i64 s2_, .int .i64 s3_]) rfl rfl Try.func82 rfl rfl rfl (by rfl) (by kernel_rfl) rfl #[.agg #[.int .i64 (rd_T72 q z2).f0, .int .i64 (rd_T72 q z2).f1, .int .i64 (rd_T72 q z2).f2], .agg #[.int .i64 (rd_T72 q z3).f0, .int .i64 (rd_T72 q z3).f1, .int .i64 (rd_T72 q z3).f2]] (by (try simp only [List.map_toArray, List.map_cons, List.map_nil]); rfl) ?_ ?_ ?_; rotate_left; (· rintro w' hb'; with_reducible refine (spec_CrossOf.calls k2 _ _ _ _ _ _ s1_ s2_ s3_ _ HU.out).mono ?_; rintro e w1 ⟨rfl, hb1⟩; exact ⟨rfl, hb1⟩); (· simp only [Act.put, List.setIfInBounds_toArray, List.set_cons_zero, List.set_cons_succ, i64_w, i32_w]; rfl))
            | (refine atN_ #[.int .i64 0, .int .i64 0, .int .i64 0] 72 (some (20, #[.int .i64 s1_, .int .i64 s2_, .int .i64 s3_])) rfl rfl rfl rfl (by rfl) ?_ ?_; (· rintro w' hb'; first | (go_simp; done) | (go_simp; rfl)))
            | (refine atS_ 0 rfl rfl rfl rfl rfl rfl (fun g => by rfl) ?_ ?_; (· rintro g w' hb' hg hn; have hs0 := (blk_cell hg 0).trans rfl; have hs1 := (blk_cell hg 1).trans rfl; have hs2 := (blk_cell hg 2).trans rfl; have hf0 := blk_frozen hg 0; have hf1 := blk_frozen hg 1; have hf2 := blk_frozen hg 2; refine ⟨_, ?_, (mut3_ hg _ _ _).1, (mut3_ hg _ _ _).2⟩; first | (go_simp; done) | (go_simp; rfl))))
           refine atEnd_ ?_
           intro w6 hb6 g2 _ h2 _
           refine done_ (by kernel_rfl) ?_
           have HG1' := Aside0.mk ((hb6.block g1 (Array.getElem?_eq_some_iff.1 HG1.out).1).trans HG1.out)
           have HG2 := Aside0.mk h2
           have HB6 := Aside0.mk (below_then HB5.out (below_size HB5.out) hb6)
           have HO6 := Aside0.mk (Kd.R_below HO5.out hb6)
           have HQ6 := Aside0.mk (Kd.R_below HQ5.out hb6)
           have HP6 := Aside0.mk (HP5.out.to hb6.size (fun k_ _ hk_ => hb6.block k_ (by have := HP5.out.2; omega)))
           clear hb6 h2 HG1 HB5 HO5 HQ5 HP5 hft hf2 hf3 HU hq6 hq7 hq8 hq9 hq10 hq11 hl0 hl1 hl2 hl3 hu0 hu1 hu2 hu3
           have hg10 : w6.cell? ⟨g1, 0, none⟩ = some (.int .i64 t1) := by simp [World.cell?, HG1'.out, contE]
           have hg11 : w6.cell? ⟨g1, 1, none⟩ = some (.int .i64 t2) := by simp [World.cell?, HG1'.out, contE]
           have hg12 : w6.cell? ⟨g1, 2, none⟩ = some (.int .i64 t3) := by simp [World.cell?, HG1'.out, contE]
           have hg20 : w6.cell? ⟨g2, 0, none⟩ = some (.int .i64 s1_) := by simp [World.cell?, HG2.out, contE]
           have hg21 : w6.cell? ⟨g2, 1, none⟩ = some (.int .i64 s2_) := by simp [World.cell?, HG2.out, contE]
           have hg22 : w6.cell? ⟨g2, 2, none⟩ = some (.int .i64 s3_) := by simp [World.cell?, HG2.out, contE]
           go_wp2_with (first
            | (go_at_call 82; (with_reducible refine (spec_CrossOf.calls k2 _ _ _ _ _ _ c1' c2_ c3_ _ HCR.out).mono ?_); rintro e w8 ⟨rfl, hb8⟩; have HB8 := Aside0.mk (below_step HB6.out hb8); have HO8 := Aside0.mk (Kd.R_below HO6.out hb8); have HQ8 := Aside0.mk (Kd.R_below HQ6.out hb8); have HP8 := Aside0.mk (HP6.out.to hb8.size (fun k_ _ hk_ => hb8.block k_ (by have := HP6.out.2; omega))); clear hb8 HB6 HO6 HQ6 HP6)
            | ((with_reducible refine gate_builtin (b := .append) (xs := #[.tmp 143, .tmp 147]) rfl ?_); at_builtin; refine Kd.R_append k72 (w0 := w) w.heap.size rfl (.tmp 143) (.tmp 147) 65 72 (.agg #[(.int .i64 0), (.int .i64 0), (.int .i64 0)]) 24 rfl Try.underlying65 info72 rfl (by decide) (by omega) u9 out (⟨c1', c2_, c3_⟩ : TRq) [.int .i64 c1', .int .i64 c2_, .int .i64 c3_] (fun k_ => some k_ ≠ (Value.slice (some ad0) 6 c1).ownBlock ∧ (k_ < g ∨ g + 4 ≤ k_)) (fun _ => False) rfl rfl ?aP (fun _ hk => hk.elim) ?aF HO8.out HB8.out (below_size HB8.out) ?aL ?_; (case aP => exact k72_mkM _ _ _ (⟨c1', c2_, c3_⟩ : TRq)); (case aF => exact (fun k_ hk => ⟨fun e_ => by have h9 := ((Kd.R_bound HQ8.out).1 k_ e_.symm).2.2.1; omega, .inr (by have := HP8.out.2; omega)⟩)); (case aL => have := HOL.out; omega); intro v9 w9 ho hb hg hat; have HB9 := Aside0.mk hb; have HO9 := Aside0.mk ho; have HQ9 := Aside0.mk (Kd.R_grown2 HQ8.out rfl hg (fun k_ hk_ => (HO8.out.1 k_ hk_).1)); have HP9 := Aside0.mk (HP8.out.to hg.size (fun k_ hk1 hk2 => hg.block k_ (by have := HP8.out.2; omega) (fun e_ => by have h9 := (HO8.out.1 k_ e_.symm).2; omega))); clear ho hb hg hat HB8 HO8 HQ8 HP8))
           go_roundg k2
           case measure => have := HK2.out; omega
           case rel => exact ⟨out ++ [⟨c1', c2_, c3_⟩], i + 1, by have e9 : wrap64 ((i : Int) + 1) = ((i + 1 : Nat) : Int) := (by unfold wrap64; omega); first | rfl | exact congrArg (Value.int IntTy.i64) e9 | exact congrArg (Value.int IntTy.i64) ((i64_w _).trans e9) | exact congrArg (Value.int IntTy.i64) (by omega), by omega, H', ⟨by have := HK2.out; omega⟩, HO9, HQ9, HP9, HB9⟩
          ·have hltz : ¬ (i : Int) < 3 := by omega
           rw [if_neg hlt] at H
           obtain ⟨rfl, rfl⟩ := Prod.mk.inj (Option.some.inj H)
           have HOZ := Aside0.mk (Kd.R_mono HO.out (ok' := fun _ => True) (fun _ _ => trivial))
           clear H HQ HO HP
           go_wp2
           go_ret2
           exact ⟨_, rfl, HOZ.out, HB.out⟩

end Go.Proofs.Ytldcckcljjlglaa.P

namespace Go.Proofs.Ytldcckcljjlglaa.P
open Go.RowKit Go.Proofs.YtldcckcljjlglaaW.PrintWords Go.Proofs.YtldcckcljjlglaaW.PrintLast Go.Proofs.YtldcckcljjlglaaW.PrintMore
attribute [local go_sem] max2_int min2_int max_two min_two max_three min_three max_four min_four   -- for this text's walks alone
set_option linter.unusedVariables false
set_option linter.unusedSimpArgs false

/-! ### impl_divisor: function 103 -/
mutual
def impl_divisor.l0 : Nat → Int → List Int → Int → Int → Option (Int)
 | 0, _, _, _, _ => none
 | k + 1, x3, x6, x7, x8 => if x8 < x7 then (if 0 ≤ x8 then (if x8 < (x6.length : Int) then (impl_divisor.l1 k x3 (rd x6 x8) x6 x7 x8) else (none)) else (none)) else (some (mx x3 (wrap64 (-x3))))
def impl_divisor.l1 : Nat → Int → Int → List Int → Int → Int → Option (Int)
 | 0, _, _, _, _, _ => none
 | k + 1, x3, x5, x6, x7, x8 => if x5 = 0 then (impl_divisor.l0 k x3 x6 x7 (wrap64 (x8 + 1))) else (impl_divisor.l1 k x5 (Int.tmod x3 x5) x6 x7 x8)
end
def impl_divisor.f (k : Nat) (l0 : List Int) : Option (Int) := impl_divisor.l0 k 0 l0 (l0.length : Int) 0
theorem impl_divisor.mono_l : ∀ k, (∀ y0 y1 y2 y3, LeO (impl_divisor.l0 k y0 y1 y2 y3) (impl_divisor.l0 (k + 1) y0 y1 y2 y3)) ∧ (∀ y0 y1 y2 y3 y4, LeO (impl_divisor.l1 k y0 y1 y2 y3 y4) (impl_divisor.l1 (k + 1) y0 y1 y2 y3 y4))
 | 0 => ⟨fun _ _ _ _ r h => by simp [impl_divisor.l0] at h, fun _ _ _ _ _ r h => by simp [impl_divisor.l1] at h⟩
 | k + 1 => by
  obtain ⟨ih0, ih1⟩ := impl_divisor.mono_l k
  refine ⟨?_, ?_⟩
  ·intro y0 y1 y2 y3
   unfold impl_divisor.l0
   repeat' first
   | (with_reducible exact ih0 _ _ _ _)
   | (with_reducible exact ih1 _ _ _ _ _)
   | (with_reducible exact LeO.refl _)
   | (with_reducible exact LeO.none _)
   | (with_reducible refine LeO.ite ?_ ?_)
   | (with_reducible refine LeO.bind ?_ (fun _ => ?_))
   | exact ih0 _ _ _ _
   | exact ih1 _ _ _ _ _
   | exact LeO.none _
   | refine LeO.ite ?_ ?_
   | refine LeO.bind ?_ (fun _ => ?_)
  ·intro y0 y1 y2 y3 y4
   unfold impl_divisor.l1
   repeat' first
   | (with_reducible exact ih0 _ _ _ _)
   | (with_reducible exact ih1 _ _ _ _ _)
   | (with_reducible exact LeO.refl _)
   | (with_reducible exact LeO.none _)
   | (with_reducible refine LeO.ite ?_ ?_)
   | (with_reducible refine LeO.bind ?_ (fun _ => ?_))
   | exact ih0 _ _ _ _
   | exact ih1 _ _ _ _ _
   | exact LeO.none _
   | refine LeO.ite ?_ ?_
   | refine LeO.bind ?_ (fun _ => ?_)
theorem impl_divisor.mono : ∀ a0 k, LeO (impl_divisor.f k a0) (impl_divisor.f (k + 1) a0) := by
 intro a0 k
 obtain ⟨ih0, ih1⟩ := impl_divisor.mono_l k
 unfold impl_divisor.f
 repeat' first
   | (with_reducible exact ih0 _ _ _ _)
   | (with_reducible exact ih1 _ _ _ _ _)
   | (with_reducible exact LeO.refl _)
   | (with_reducible exact LeO.none _)
   | (with_reducible refine LeO.ite ?_ ?_)
   | (with_reducible refine LeO.bind ?_ (fun _ => ?_))
   | exact ih0 _ _ _ _
   | exact ih1 _ _ _ _ _
   | exact LeO.none _
   | refine LeO.ite ?_ ?_
   | refine LeO.bind ?_ (fun _ => ?_)
set_option maxHeartbeats 8000000 in
set_option maxRecDepth 100000 in
theorem impl_divisor.calls (k : Nat) (A0 : Option Addr) (c0 : Nat) (l0 : List Int) (r : Int) (w : World) (hr0 : Kd.C (Kd.int .i64) w A0 l0.length l0) (hc0 : l0.length ≤ c0) (h : impl_divisor.f k l0 = some r) :
  Calls Try.prog 103 #[.slice A0 l0.length c0] w fun e w' => e = .returned (.int .i64 r) ∧ Below w.heap.size w w' := by
 have HR0 := Aside0.mk hr0
 have HC0 := Aside0.mk hc0
 clear hr0 hc0
 have HB := Aside0.mk (Below.refl w.heap.size w)
 have H : (impl_divisor.l0 k 0 l0 (l0.length : Int) 0) = some r := h
 clear h
 have H' := Aside0.mk H
 clear H
 go_enter Try.func103, Try.ntmps103
 go_wp2
 repeat (go_quiet (fail); try go_wp2)
 go_loopg [3, 8] k (fun kq v3 v8 w' => ∃ (x3_1 : Int) (x8_1 : Int), v3 = .int .i64 x3_1 ∧ v8 = .int .i64 x8_1 ∧ Aside0 (impl_divisor.l0 kq x3_1 l0 (l0.length : Int) x8_1 = some r) ∧ Aside0 (kq ≤ k) ∧ Aside0 (Below w.heap.size w w'))
 case atStart => exact ⟨(0), (0), (by first | rfl | (simp; done) | (simp [*]; done)), (by first | rfl | (simp; done) | (simp [*]; done)), H', ⟨Nat.le_refl _⟩, ⟨by repeat (first | (with_reducible first | exact HB.out | apply below_alloc | apply pw_below_drewN | apply below_drew1) | exact HB.out)⟩⟩
 case round =>
  clear H'
  try clear c1
  obtain ⟨x3_1, x8_1, rfl, rfl, HA, HK1, HB⟩ := hrel
  cases gk with
  | zero => exact absurd HA.out (by simp [impl_divisor.l0])
  | succ k1 =>
   have H := HA.out
   clear HA
   simp only [impl_divisor.l0] at H
   by_cases c2 : x8_1 < (l0.length : Int)
   ·rw [if_pos c2] at H
    have c2b0 : decide (x8_1 < (l0.length : Int)) = true := decide_eq_true c2
    clear c2
    by_cases c3 : 0 ≤ x8_1
    ·rw [if_pos c3] at H
     have c3b0 : decide (0 ≤ x8_1) = true := decide_eq_true c3
     clear c3
     by_cases c4 : x8_1 < (l0.length : Int)
     ·rw [if_pos c4] at H
      have c4b0 : decide (x8_1 < (l0.length : Int)) = true := decide_eq_true c4
      clear c4
      have H' := Aside0.mk H
      clear H
      have p101 : 0 ≤ (x8_1 : Int) := of_decide_eq_true (by first | (with_reducible assumption) | assumption)
      have q101 : x8_1 < (l0.length : Int) := of_decide_eq_true (by first | (with_reducible assumption) | assumption)
      obtain ⟨ad101, e101, hx101_0⟩ := Kd.at_int HR0.out x8_1 p101 q101
      cases e101
      replace hx101_0 := (HB.out.cell (World.block_lt_of_cell? w _ hx101_0)).trans hx101_0
      replace p101 := eq_true p101
      replace q101 := eq_true q101
      go_wp2
      repeat (go_quiet (fail); try go_wp2)
      go_loopg [3, 5] k1 (fun kq v3 v5 w' => ∃ (x3_2 : Int) (x5_2 : Int), v3 = .int .i64 x3_2 ∧ v5 = .int .i64 x5_2 ∧ Aside0 (impl_divisor.l1 kq x3_2 x5_2 l0 (l0.length : Int) x8_1 = some r) ∧ Aside0 (kq ≤ k1) ∧ Aside0 (Below w.heap.size w w'))
      case atStart => exact ⟨(x3_1), (rd l0 x8_1), (by first | rfl | (simp; done) | (simp [*]; done)), (by first | rfl | (simp; done) | (simp [*]; done)), H', ⟨Nat.le_refl _⟩, ⟨by repeat (first | (with_reducible first | exact HB.out | apply below_alloc | apply pw_below_drewN | apply below_drew1) | exact HB.out)⟩⟩
      case round =>
       clear H'
       try clear c1
       try clear p1
       try clear q1
       try clear hx1
       try clear c2
       try clear c2b0
       try clear p2
       try clear c3
       try clear c3b0
       try clear c4
       try clear c4b0
       try clear hx101_0
       try clear p101
       try clear q101
       obtain ⟨x3_2, x5_2, rfl, rfl, HA, HK2, HB⟩ := hrel
       cases gk with
       | zero => exact absurd HA.out (by simp [impl_divisor.l1])
       | succ k2 =>
        have H := HA.out
        clear HA
        simp only [impl_divisor.l1] at H
        by_cases c5 : x5_2 = 0
        ·rw [if_pos c5] at H
         have c5b0 : (x5_2 == 0) = true := beq_iff_eq.mpr c5
         have c5b1 : (x5_2 != 0) = false := bne_eq_false_iff_eq.mpr c5
         clear c5
         have H' := Aside0.mk H
         clear H
         go_wp2
         repeat (go_quiet (fail); try go_wp2)
         go_roundg k2
         case measure => have := HK1.out; have := HK2.out; omega
         case rel => exact ⟨(x3_2), (wrap64 (x8_1 + 1)), (by first | rfl | (simp; done) | (simp [*]; done)), (by first | rfl | (simp; done) | (simp [*]; done)), H', ⟨by have := HK1.out; have := HK2.out; omega⟩, ⟨by repeat (first | (with_reducible first | exact HB.out | apply below_alloc | apply pw_below_drewN | apply below_drew1) | exact HB.out)⟩⟩
        ·rw [if_neg c5] at H
         have c5b0 : (x5_2 == 0) = false := beq_eq_false_iff_ne.mpr c5
         have c5b1 : (x5_2 != 0) = true := bne_iff_ne.mpr c5
         have H' := Aside0.mk H
         clear H
         go_wp2
         repeat (go_quiet (fail); try go_wp2)
         go_roundg k2
         case measure => have := HK1.out; have := HK2.out; omega
         case rel => exact ⟨(x5_2), (Int.tmod x3_2 x5_2), (by first | rfl | (simp; done) | (simp [*]; done)), (by first | rfl | (simp; done) | (simp [*]; done)), H', ⟨by have := HK1.out; have := HK2.out; omega⟩, ⟨by repeat (first | (with_reducible first | exact HB.out | apply below_alloc | apply pw_below_drewN | apply below_drew1) | exact HB.out)⟩⟩
     ·rw [if_neg c4] at H
      exact absurd H (by simp)
    ·rw [if_neg c3] at H
     exact absurd H (by simp)
   ·rw [if_neg c2] at H
    have c2b0 : decide (x8_1 < (l0.length : Int)) = false := decide_eq_false c2
    clear c2
    obtain ⟨ji6, hji6⟩ : ∃ j_ : Int, (mx x3_1 (wrap64 (-x3_1))) = j_ := ⟨_, rfl⟩
    replace H : (some ji6) = some r := by first | (rw [hji6] at H; exact H) | (simp only [hji6] at H ⊢; exact H)
    have hji6_ : (if x3_1 < (wrap64 (-x3_1)) then (wrap64 (-x3_1)) else x3_1) = ji6 := hji6
    obtain rfl := Option.some.inj H
    go_wp2
    repeat (go_quiet (fail); try go_wp2)
    go_ret
    exact ⟨by first | rfl | (simp [errW_none, errW_some] <;> rfl) | (simp only [← hji6]; first | rfl | (simp [errW_none, errW_some] <;> rfl)) | (simp [*, errW_none, errW_some] <;> rfl), by repeat (first | (with_reducible first | exact HB.out | apply below_alloc | apply pw_below_drewN | apply below_drew1) | exact HB.out)⟩

end Go.Proofs.Ytldcckcljjlglaa.P

namespace Go.Proofs.Ytldcckcljjlglaa.P
open Go.RowKit Go.Proofs.YtldcckcljjlglaaW.PrintWords Go.Proofs.YtldcckcljjlglaaW.PrintLast Go.Proofs.YtldcckcljjlglaaW.PrintMore
attribute [local go_sem] max2_int min2_int max_two min_two max_three min_three max_four min_four   -- for this text's walks alone
set_option linter.unusedVariables false
set_option linter.unusedSimpArgs false

/-! ### impl_isFar: function 95 -/
def impl_isFar.f (a0 : Int) (a1 : Int) : Option (Bool) := if a0 < (wrap64 (-a1)) then (some true) else (some (decide (a0 > a1)))
set_option maxHeartbeats 8000000 in
set_option maxRecDepth 100000 in
theorem impl_isFar.calls (a0 : Int) (a1 : Int) (r : Bool) (w : World) (h : impl_isFar.f a0 a1 = some r) :
  Calls Try.prog 95 #[.int .i64 a0, .int .i64 a1] w fun e w' => e = .returned (.bool r) ∧ Drawn0 w w' := by
 have H : (if a0 < (wrap64 (-a1)) then (some true) else (some (decide (a0 > a1)))) = some r := h
 clear h
 by_cases c3 : a0 < (wrap64 (-a1))
 ·rw [if_pos c3] at H
  have c3b0 : decide (a0 < (wrap64 (-a1))) = true := decide_eq_true c3
  clear c3
  obtain rfl := Option.some.inj H
  go_enter Try.func95, Try.ntmps95
  go_wp2
  go_ret
  exact ⟨by first | rfl | (simp; done) | (simp [*]; done), by repeat (first | exact Drawn0.refl _ | apply Drawn0.step)⟩
 ·rw [if_neg c3] at H
  have c3b0 : decide (a0 < (wrap64 (-a1))) = false := decide_eq_false c3
  clear c3
  obtain rfl := Option.some.inj H
  go_enter Try.func95, Try.ntmps95
  go_wp2
  go_ret
  exact ⟨by first | rfl | (simp; done) | (simp [*]; done), by repeat (first | exact Drawn0.refl _ | apply Drawn0.step)⟩
def farB (n most : Int) : Bool := (impl_isFar.f n most).getD false
theorem isFar_some (n most : Int) : impl_isFar.f n most = some (farB n most) := by
 unfold farB impl_isFar.f; split <;> rfl
theorem isFar_is (n most : Int) {b : Bool} (h : farB n most = b) : impl_isFar.f n most = some b := by rw [isFar_some, h]

end Go.Proofs.Ytldcckcljjlglaa.P

namespace Go.Proofs.Ytldcckcljjlglaa.P
open Go.RowKit Go.Proofs.YtldcckcljjlglaaW.PrintWords Go.Proofs.YtldcckcljjlglaaW.PrintLast Go.Proofs.YtldcckcljjlglaaW.PrintMore
attribute [local go_sem] max2_int min2_int max_two min_two max_three min_three max_four min_four   -- for this text's walks alone
set_option linter.unusedVariables false
set_option linter.unusedSimpArgs false

/-! ### impl_Triple_170: function 170 -/
/-- What is asked of a predicate on elements of this kind. -/
def PredTriple (g : Nat) (lb : Array Value) (p : S72 → Bool) (w : World) : Prop :=
 ∀ (W : World) (x : S72), Below w.heap.size w W → Calls Try.prog g (#[.agg #[.int .i64 x.f0, .int .i64 x.f1, .int .i64 x.f2]] ++ lb) W fun e w' => e = .returned (.bool (p x)) ∧ Below W.heap.size W w'
def idxTriple (p : S72 → Bool) : List S72 → Nat → Int
 | [], _ => -1
 | x :: l, i => if p x then i else idxTriple p l (i + 1)
theorem idxTriple_skip (p : S72 → Bool) (l : List S72) (k i : Nat) (h : ∀ j, j < k → j < l.length → p (l.getD j z72) = false) (hk : k ≤ l.length) : idxTriple p l i = idxTriple p (l.drop k) (i + k) := by
 induction k generalizing l i with
 | zero => simp
 | succ k ih =>
  cases l with
  | nil => simp at hk
  | cons x l =>
   have hx : p x = false := by simpa using h 0 (by omega) (by simp)
   simp only [idxTriple, hx, List.drop_succ_cons]
   rw [if_neg (by decide), ih l (i + 1) (fun j hj hl => by simpa using h (j + 1) (by omega) (by simpa using hl)) (by simpa using hk)]
   simp [Nat.add_assoc, Nat.add_comm 1 k]
theorem idxTriple_any (p : S72 → Bool) (l : List S72) (i : Nat) : decide (0 ≤ idxTriple p l i) = l.any p := by
 induction l generalizing i with
 | nil => rfl
 | cons x l ih =>
  simp only [idxTriple, List.any_cons]
  by_cases h : p x = true
  ·simp [h]
  ·simp [h, ih]
set_option maxHeartbeats 1000000 in
set_option maxRecDepth 100000 in
theorem indexTriple_calls (g : Nat) (lb : Array Value) (eg : ∀ args w, (callFunc g args).run Try.prog w = .ok (.enter g args) w) (p : S72 → Bool) (A : Option Addr) (c : Nat) (l : List S72) (w : World) (hr : Kd.C k72 w A l.length l) (hc : l.length ≤ c) (hp : PredTriple g lb p w) :
  Calls Try.prog 170 #[.slice A l.length c, .func (.func g) #[] lb] w fun e w' => e = .returned (.int .i64 (idxTriple p l 0)) ∧ Below w.heap.size w w' := by
 have hu72 := Try.underlying72
 have hmax : l.length ≤ 9223372036854775807 := hr.2.1
 have HR := Aside0.mk hr
 have HP := Aside0.mk hp
 clear hr hp
 go_enter Try.func170, Try.ntmps170
 go_wp2_with fail
 go_loopg [5, 8] l.length (fun gg _ s8 wr => ∃ kk : Nat, kk ≤ l.length ∧ l.length - kk ≤ gg ∧ s8 = .int .i64 kk ∧ Aside0 (Below w.heap.size w wr) ∧ Aside0 (∀ j, j < kk → j < l.length → p (l.getD j z72) = false))
 case atStart => exact ⟨0, Nat.zero_le _, by omega, rfl, ⟨Below.refl _ w⟩, ⟨fun j hj => absurd hj (Nat.not_lt_zero _)⟩⟩
 case round =>
  obtain ⟨kk, hkk, hg, rfl, BW, AA⟩ := hrel
  by_cases hlt : kk < l.length
  ·have hltz : (kk : Int) < (l.length : Int) := by omega
   obtain ⟨ad, rfl, hx0, hx1, hx2⟩ := at_T72 (Kd.C_below HR.out BW.out) (kk : Int) (by omega) hltz
   simp only [Int.toNat_natCast] at hx0 hx1 hx2
   have hcall := HP.out wr (rd_T72 l (kk : Int)) BW.out
   have hrdk : rd_T72 l (kk : Int) = l.getD kk z72 := rfl
   generalize hy : rd_T72 l (kk : Int) = y at hx0 hx1 hx2 hcall hrdk
   have HY := Aside0.mk hrdk
   clear hrdk hy
   cases hq : p y with
   | true =>
    rw [hq] at hcall
    have HQ := Aside0.mk hq
    clear hq
    go_wp2_with (go_at_fn g; refine hcall.mono ?_; rintro e w' ⟨rfl, hb'⟩)
    go_ret
    refine ⟨?_, below_step BW.out hb'⟩
    rw [idxTriple_skip p l kk 0 AA.out hkk, List.drop_eq_getElem_cons hlt]
    have hyy : l[kk] = y := by rw [HY.out]; simp [List.getD, List.getElem?_eq_getElem hlt]
    simp only [idxTriple, hyy, HQ.out]
    simp
   | false =>
    rw [hq] at hcall
    have HQ := Aside0.mk hq
    clear hq
    go_wp2_with (go_at_fn g; refine hcall.mono ?_; rintro e w' ⟨rfl, hb'⟩)
    go_roundg (l.length - (kk + 1))
    case measure => omega
    case rel =>
     refine ⟨kk + 1, by omega, by omega, by go_num, ⟨below_step BW.out hb'⟩, ⟨fun j hj hjl => ?_⟩⟩
     by_cases e : j = kk
     ·subst e
      rw [← HY.out]; exact HQ.out
     ·exact AA.out j (by omega) hjl
  ·have hltz : ¬ (kk : Int) < (l.length : Int) := by omega
   have hkl : kk = l.length := by omega
   subst hkl
   go_wp2_with fail
   go_ret
   refine ⟨?_, BW.out⟩
   rw [idxTriple_skip p l l.length 0 AA.out (Nat.le_refl _), List.drop_length]
   rfl

end Go.Proofs.Ytldcckcljjlglaa.P

namespace Go.Proofs.Ytldcckcljjlglaa.P
open Go.RowKit Go.Proofs.YtldcckcljjlglaaW.PrintWords Go.Proofs.YtldcckcljjlglaaW.PrintLast Go.Proofs.YtldcckcljjlglaaW.PrintMore
attribute [local go_sem] max2_int min2_int max_two min_two max_three min_three max_four min_four   -- for this text's walks alone
set_option linter.unusedVariables false
set_option linter.unusedSimpArgs false

/-! ### impl_Triple_152: function 152 -/
theorem containsTriple_calls (g : Nat) (lb : Array Value) (eg : ∀ args w, (callFunc g args).run Try.prog w = .ok (.enter g args) w) (p : S72 → Bool) (A : Option Addr) (c : Nat) (l : List S72) (w : World) (hr : Kd.C k72 w A l.length l) (hc : l.length ≤ c) (hp : PredTriple g lb p w) :
  Calls Try.prog 152 #[.slice A l.length c, .func (.func g) #[] lb] w fun e w' => e = .returned (.bool (l.any p)) ∧ Below w.heap.size w w' := by
 have HR := Aside0.mk hr
 have HP := Aside0.mk hp
 have HA := Aside0.mk (idxTriple_any p l 0)
 clear hr hp
 go_enter Try.func152, Try.ntmps152
 go_wp2_with fail
 (with_reducible refine (indexTriple_calls g lb eg p A c l _ HR.out hc HP.out).mono ?_); rintro e w1 ⟨rfl, hb⟩
 go_wp2_with fail
 go_ret
 exact ⟨by rw [← HA.out]; rfl, hb⟩

end Go.Proofs.Ytldcckcljjlglaa.P

namespace Go.Proofs.Ytldcckcljjlglaa.P
open Go.RowKit Go.Proofs.YtldcckcljjlglaaW.PrintWords Go.Proofs.YtldcckcljjlglaaW.PrintLast Go.Proofs.YtldcckcljjlglaaW.PrintMore
attribute [local go_sem] max2_int min2_int max_two min_two max_three min_three max_four min_four   -- for this text's walks alone
set_option linter.unusedVariables false
set_option linter.unusedSimpArgs false

/-! ### impl_isLimited_1: function 153 -/
set_option maxHeartbeats 400000 in
theorem isLimited_lit (x y z most : Int) (B : Nat) (w : World) (hB : B < w.heap.size) (hc : w.cell? ⟨B, 0, none⟩ = some (.int .i64 most)) :
  Calls Try.prog 153 #[.agg #[.int .i64 x, .int .i64 y, .int .i64 z], .pointer (some ⟨B, 0, none⟩)] w fun e w' => e = .returned (.bool (farB x most || farB y most || farB z most)) ∧ Below w.heap.size w w' := by
 have hu72 := Try.underlying72
 cases h0 : farB x most with
 | true =>
  have H0 := Aside0.mk h0
  clear h0
  go_enter Try.func153, Try.ntmps153
  go_wp2_with fail
  (with_reducible refine (impl_isFar.calls x most true _ (isFar_is x most H0.out)).mono ?_); rintro e w0 ⟨rfl, ⟨n0, rfl⟩⟩
  go_wp2_with fail
  go_ret
  exact ⟨rfl, by repeat (first | exact Below.refl _ _ | apply below_alloc | apply pw_below_drewN | apply below_drew1)⟩
 | false =>
  have H0 := Aside0.mk h0
  clear h0
  cases h1 : farB y most with
  | true =>
   have H1 := Aside0.mk h1
   clear h1
   go_enter Try.func153, Try.ntmps153
   go_wp2_with fail
   (with_reducible refine (impl_isFar.calls x most false _ (isFar_is x most H0.out)).mono ?_); rintro e w0 ⟨rfl, ⟨n0, rfl⟩⟩
   go_wp2_with fail
   (with_reducible refine (impl_isFar.calls y most true _ (isFar_is y most H1.out)).mono ?_); rintro e w1 ⟨rfl, ⟨n1, rfl⟩⟩
   go_wp2_with fail
   go_ret
   exact ⟨rfl, by repeat (first | exact Below.refl _ _ | apply below_alloc | apply pw_below_drewN | apply below_drew1)⟩
  | false =>
   have H1 := Aside0.mk h1
   clear h1
   cases h2 : farB z most <;> have H2 := Aside0.mk h2 <;> clear h2
   all_goals
    go_enter Try.func153, Try.ntmps153
    go_wp2_with fail
    (with_reducible refine (impl_isFar.calls x most false _ (isFar_is x most H0.out)).mono ?_); rintro e w0 ⟨rfl, ⟨n0, rfl⟩⟩
    go_wp2_with fail
    (with_reducible refine (impl_isFar.calls y most false _ (isFar_is y most H1.out)).mono ?_); rintro e w1 ⟨rfl, ⟨n1, rfl⟩⟩
    go_wp2_with fail
    (with_reducible refine (impl_isFar.calls z most _ _ (isFar_is z most H2.out)).mono ?_); rintro e w2 ⟨rfl, ⟨n2, rfl⟩⟩
    go_wp2_with fail
    go_ret
    exact ⟨rfl, by repeat (first | exact Below.refl _ _ | apply below_alloc | apply pw_below_drewN | apply below_drew1)⟩

end Go.Proofs.Ytldcckcljjlglaa.P

namespace Go.Proofs.Ytldcckcljjlglaa.P
open Go.RowKit Go.Proofs.YtldcckcljjlglaaW.PrintWords Go.Proofs.YtldcckcljjlglaaW.PrintLast Go.Proofs.YtldcckcljjlglaaW.PrintMore
attribute [local go_sem] max2_int min2_int max_two min_two max_three min_three max_four min_four   -- for this text's walks alone
set_option linter.unusedVariables false
set_option linter.unusedSimpArgs false

/-! ### impl_isLimited: function 136 -/
def outTriple (most : Int) (p : S72) : Bool := farB p.f0 most || farB p.f1 most || farB p.f2 most
def impl_isLimited.f (a0 : Int) (l1 : List S72) : Option Bool := some (!l1.any (outTriple a0))
set_option maxHeartbeats 400000 in
theorem impl_isLimited.calls (a0 : Int) (A1 : Option Addr) (c1 : Nat) (l1 : List S72) (r : Bool) (w : World) (hr1 : Kd.C k72 w A1 l1.length l1) (hc1 : l1.length ≤ c1) (h : impl_isLimited.f a0 l1 = some r) :
  Calls Try.prog 136 #[.int .i64 a0, .slice A1 l1.length c1] w fun e w' => e = .returned (.bool r) ∧ Below w.heap.size w w' := by
 have H : (!l1.any (outTriple a0)) = r := Option.some.inj h
 have HH := Aside0.mk H
 clear H h
 have HR := Aside0.mk hr1
 clear hr1
 have eg : ∀ (args : Array Value) (w : World), (callFunc 153 args).run Try.prog w = .ok (.enter 153 args) w := enters_of Try.func153 (by kernel_rfl) rfl
 go_enter Try.func136, Try.ntmps136
 go_wp2_with fail
 (with_reducible refine (containsTriple_calls 153 _ eg (outTriple a0) A1 c1 l1 _ ?side1 hc1 ?side2).mono ?_)
 case side1 => repeat (first | exact HR.out | (with_reducible refine Kd.C_alloc ?_ _) | (with_reducible refine Kd.C_drewN ?_ _) | (with_reducible refine Kd.C_drew ?_))
 case side2 =>
  intro W x hb
  have hlt : w.heap.size < W.heap.size := by have := hb.size; simp at this; omega
  exact isLimited_lit x.f0 x.f1 x.f2 a0 w.heap.size W hlt ((hb.cell (p := ⟨w.heap.size, 0, none⟩) (by simp)).trans (by simp))
 rintro e w1 ⟨rfl, hb⟩
 go_wp2_with fail
 go_ret
 exact ⟨by rw [← HH.out]; rfl, below_step (by repeat (first | exact Below.refl _ _ | apply below_alloc | apply pw_below_drewN | apply below_drew1)) hb⟩

end Go.Proofs.Ytldcckcljjlglaa.P

