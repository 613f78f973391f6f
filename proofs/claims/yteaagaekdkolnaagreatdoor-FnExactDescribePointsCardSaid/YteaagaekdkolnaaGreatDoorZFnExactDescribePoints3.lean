/- A part of the proof of FnExactDescribePoints: printed contracts and plain laws, joined by a program of this session. -/
import Derived.Test.YteaagaekdkolnaaGreatDoorZFnExactDescribePoints2
import Derived.Shelf.Strings.Builder1
import Derived.Shelf.Strings.Builder2
import Derived.Shelf.Strings.OnBuilder
import Derived.Shelf.Strings.BuilderF
import Derived.Shelf.Strings.BuilderK
import Derived.Shelf.Strings.Builder2Cap
import Derived.Shelf.Strconv.Itoa0
import Derived.Shelf.Strconv.Itoa1
import Derived.Shelf.Strconv.Itoa2
import Derived.Shelf.Strconv.Itoa3
import Derived.Shelf.Strings.BuilderCap
import Derived.Test.YteaagaekdkolnaaGreatDoorProg
import Derived.Lib.AppendIntMem
namespace Go.Proofs.YteaagaekdkolnaaGreatDoor.P
open Go.RowKit Go.Proofs.YteaagaekdkolnaaGreatDoorW.PrintWords Go.Proofs.YteaagaekdkolnaaGreatDoorW.PrintLast Go.Proofs.YteaagaekdkolnaaGreatDoorW.PrintMore
attribute [local go_sem] max2_int min2_int max_two min_two max_three min_three max_four min_four   -- for this text's walks alone
set_option linter.unusedVariables false
set_option linter.unusedSimpArgs false
/-! ### spec_AreFree: function 15 -/
mutual
def spec_AreFree.j0 : Nat → List (S34) → Bool → Option (Bool)
 | 0, _, _ => none
 | k + 1, x0, x14 => if x14 = true then (some false) else (spec_AreFree.l0 k x0 0)
def spec_AreFree.l0 : Nat → List (S34) → Int → Option (Bool)
 | 0, _, _ => none
 | k + 1, x0, x3 => if x3 < (x0.length : Int) then (spec_AreFree.l1 k x0 x3 0) else (some true)
def spec_AreFree.l1 : Nat → List (S34) → Int → Int → Option (Bool)
 | 0, _, _, _ => none
 | k + 1, x0, x3, x4 => if x4 < x3 then (spec_AreFree.l2 k x0 x3 x4 0) else (spec_AreFree.l0 k x0 (wrap64 (x3 + 1)))
def spec_AreFree.l2 : Nat → List (S34) → Int → Int → Int → Option (Bool)
 | 0, _, _, _, _ => none
 | k + 1, x0, x3, x4, x5 => if x5 < x4 then (spec_AreFree.l3 k x0 x3 x4 x5 0) else (spec_AreFree.l1 k x0 x3 (wrap64 (x4 + 1)))
def spec_AreFree.l3 : Nat → List (S34) → Int → Int → Int → Int → Option (Bool)
 | 0, _, _, _, _, _ => none
 | k + 1, x0, x3, x4, x5, x6 => if x6 < x5 then (if 0 ≤ x6 then (if x6 < (x0.length : Int) then (if 0 ≤ x5 then (if x5 < (x0.length : Int) then (if 0 ≤ x4 then (if x4 < (x0.length : Int) then (if 0 ≤ x3 then (if x3 < (x0.length : Int) then ((spec_l29Side.f ((rd_T34 x0 x6).f0) ((rd_T34 x0 x6).f1) ((rd_T34 x0 x5).f0) ((rd_T34 x0 x5).f1) ((rd_T34 x0 x4).f0) ((rd_T34 x0 x4).f1) ((rd_T34 x0 x3).f0) ((rd_T34 x0 x3).f1)).bind fun t106 => (if t106 = 0 then (some false) else (spec_AreFree.l3 k x0 x3 x4 x5 (wrap64 (x6 + 1))))) else (none)) else (none)) else (none)) else (none)) else (none)) else (none)) else (none)) else (none)) else (spec_AreFree.l2 k x0 x3 x4 (wrap64 (x5 + 1)))
end
def spec_AreFree.f (k : Nat) (l0 : List (S34)) : Option (Bool) := (spec_ArePoints.f k l0).bind fun t101 => (if t101 = true then (spec_AreFree.j0 k l0 (decide ((l0.length : Int) > 6))) else (spec_AreFree.j0 k l0 true))
def spec_AreFree.T15 : Bool × List (List Nat × List Nat) := (true, [([], []), ([], []), ([0, 1], [0, 1]), ([2], [2]), ([], []), ([], []), ([4, 5], [4, 5]), ([6], [6]), ([], []), ([], []), ([8, 9], [8, 9]), ([10], [10]), ([], []), ([], []), ([12, 13], [12, 13]), ([14], [14]), ([3, 7, 11, 15], [3, 7, 11, 15]), ([16], [16])])
def spec_AreFree.B15 : List Nat := [0, 0, 3, 7, 0, 0, 48, 112, 0, 0, 768, 1792, 0, 0, 12288, 28672, 65535, 131071]
theorem spec_AreFree.tab15 : rtab .any (opsOf Tryz.f15 15) = spec_AreFree.T15 := by kernel_rfl
theorem spec_AreFree.bits15 : waitsOk spec_AreFree.T15.2 spec_AreFree.B15 = true := by kernel_rfl
set_option maxHeartbeats 8000000 in
set_option maxRecDepth 100000 in
theorem spec_AreFree.calls (k : Nat) (A0 : Option Addr) (c0 : Nat) (l0 : List (S34)) (r : Bool) (w : World) (hr0 : Kd.C k34 w A0 l0.length l0) (hc0 : l0.length ≤ c0) (h : spec_AreFree.f k l0 = some r) :
  Calls Tryz.prog 15 #[.slice A0 l0.length c0] w fun e w' => e = .returned (.bool r) ∧ Below w.heap.size w w' := by
 have hu34 := Tryz.underlying34
 have HR0 := aM_ hr0
 have HC0 := aM_ hc0
 clear hr0 hc0
 have HB := aM_ (Below.refl w.heap.size w)
 have H : ((spec_ArePoints.f k l0).bind fun t101 => (if t101 = true then (spec_AreFree.j0 k l0 (decide ((l0.length : Int) > 6))) else (spec_AreFree.j0 k l0 true))) = some r := h
 clear h
 have HC2 := aM_ H
 clear H
 go_enter Tryz.func15, Tryz.ntmps15
 go_upto_region 1 with (fail)
 go_cut [14] (fun v14 wc => ∃ (kq : Nat) (x14_1 : Bool), v14 = .bool x14_1 ∧ Aside0 (spec_AreFree.j0 kq l0 x14_1 = some r) ∧ Aside0 (kq ≤ k) ∧ Aside0 (Below w.heap.size w wc))
 case first =>
  have H := HC2.out
  clear HC2
  replace H := oB_ H
  obtain ⟨t101, A30, H⟩ := H
  have A3 := aM_ A30
  clear A30
  by_cases c4 : t101 = true
  ·subst c4
   rw [if_pos rfl] at H
   have H' := aM_ H
   clear H
   go_wp2_with (first | ((with_reducible refine gate_callee (f := 9) rfl ?_); refine goesM_ (some 8) Tryz.func9 #[.slice A0 l0.length c0] ?_; (with_reducible refine (spec_ArePoints.calls k _ _ l0 true _ ?side1 ?side2 A3.out).mono ?_); (case side1 => repeat (first | exact (Kd.C_below HR0.out HB.out) | (with_reducible refine Kd.C_alloc ?_ _) | (with_reducible refine Kd.C_drewN ?_ _) | (with_reducible refine Kd.C_drew ?_))); (case side2 => exact HC0.out); rintro e w5 ⟨rfl, hb⟩; refine ⟨_, rfl, ?_⟩; replace HB := aM_ (below_step (bB_ HB) hb); (try clear hb)))
   go_meet
   case rel => exact ⟨_, (decide ((l0.length : Int) > 6)), veq_, H', ⟨by first | omega | exact Nat.le_refl _⟩, ⟨bB_ HB⟩⟩
  ·replace c4 := Bool.eq_false_iff.mpr c4
   subst c4
   rw [if_neg (show ¬ (false = true) by decide)] at H
   have H' := aM_ H
   clear H
   go_wp2_with (first | ((with_reducible refine gate_callee (f := 9) rfl ?_); refine goesM_ (some 8) Tryz.func9 #[.slice A0 l0.length c0] ?_; (with_reducible refine (spec_ArePoints.calls k _ _ l0 false _ ?side1 ?side2 A3.out).mono ?_); (case side1 => repeat (first | exact (Kd.C_below HR0.out HB.out) | (with_reducible refine Kd.C_alloc ?_ _) | (with_reducible refine Kd.C_drewN ?_ _) | (with_reducible refine Kd.C_drew ?_))); (case side2 => exact HC0.out); rintro e w6 ⟨rfl, hb⟩; refine ⟨_, rfl, ?_⟩; replace HB := aM_ (below_step (bB_ HB) hb); (try clear hb)))
   go_meet
   case rel => exact ⟨_, (true), veq_, H', ⟨by first | omega | exact Nat.le_refl _⟩, ⟨bB_ HB⟩⟩
 case rest =>
  clear HC2
  try clear c4
  obtain ⟨kq, x14_1, rfl, HA, HJ1, HB⟩ := hcut
  cases kq with
  | zero => exact absurd HA.out (by simp [spec_AreFree.j0])
  | succ kj1 =>
   have H := HA.out
   clear HA
   simp only [spec_AreFree.j0] at H
   by_cases c7 : x14_1 = true
   ·subst c7
    rw [if_pos rfl] at H
    obtain rfl := Option.some.inj H
    go_wp2
    go_ret
    exact ⟨verr_, bB_ HB⟩
   ·replace c7 := Bool.eq_false_iff.mpr c7
    subst c7
    rw [if_neg (show ¬ (false = true) by decide)] at H
    have H' := aM_ H
    clear H
    go_wp2
    go_loopg [3] kj1 (fun kq v3 w' => ∃ (x3_2 : Int), v3 = .int .i64 x3_2 ∧ Aside0 (spec_AreFree.l0 kq l0 x3_2 = some r) ∧ Aside0 (kq ≤ kj1) ∧ Aside0 (Below w.heap.size w w'))
    case atStart => exact ⟨(0), veq_, H', ⟨Nat.le_refl _⟩, ⟨bB_ HB⟩⟩
    case round =>
     clear H'
     try clear c4
     try clear c7
     obtain ⟨x3_2, rfl, HA, HK2, HB⟩ := hrel
     cases gk with
     | zero => exact absurd HA.out (by simp [spec_AreFree.l0])
     | succ k2 =>
      have H := HA.out
      clear HA
      simp only [spec_AreFree.l0] at H
      rcases ifd_ H with ⟨c8b0, H⟩ | ⟨c8b0, H⟩
      ·have H' := aM_ H
       clear H
       go_wp2
       go_loopg [4] k2 (fun kq v4 w' => ∃ (x4_3 : Int), v4 = .int .i64 x4_3 ∧ Aside0 (spec_AreFree.l1 kq l0 x3_2 x4_3 = some r) ∧ Aside0 (kq ≤ k2) ∧ Aside0 (Below w.heap.size w w'))
       case atStart => exact ⟨(0), veq_, H', ⟨Nat.le_refl _⟩, ⟨bB_ HB⟩⟩
       case round =>
        clear H'
        try clear c4
        try clear c7
        try clear c8b0
        obtain ⟨x4_3, rfl, HA, HK3, HB⟩ := hrel
        cases gk with
        | zero => exact absurd HA.out (by simp [spec_AreFree.l1])
        | succ k3 =>
         have H := HA.out
         clear HA
         simp only [spec_AreFree.l1] at H
         rcases ifd_ H with ⟨c9b0, H⟩ | ⟨c9b0, H⟩
         ·have H' := aM_ H
          clear H
          go_wp2
          go_loopg [5] k3 (fun kq v5 w' => ∃ (x5_4 : Int), v5 = .int .i64 x5_4 ∧ Aside0 (spec_AreFree.l2 kq l0 x3_2 x4_3 x5_4 = some r) ∧ Aside0 (kq ≤ k3) ∧ Aside0 (Below w.heap.size w w'))
          case atStart => exact ⟨(0), veq_, H', ⟨Nat.le_refl _⟩, ⟨bB_ HB⟩⟩
          case round =>
           clear H'
           try clear c4
           try clear c7
           try clear c8b0
           try clear c9b0
           obtain ⟨x5_4, rfl, HA, HK4, HB⟩ := hrel
           cases gk with
           | zero => exact absurd HA.out (by simp [spec_AreFree.l2])
           | succ k4 =>
            have H := HA.out
            clear HA
            simp only [spec_AreFree.l2] at H
            rcases ifd_ H with ⟨c10b0, H⟩ | ⟨c10b0, H⟩
            ·have H' := aM_ H
             clear H
             go_wp2
             go_loopg [6] k4 (fun kq v6 w' => ∃ (x6_5 : Int), v6 = .int .i64 x6_5 ∧ Aside0 (spec_AreFree.l3 kq l0 x3_2 x4_3 x5_4 x6_5 = some r) ∧ Aside0 (kq ≤ k4) ∧ Aside0 (Below w.heap.size w w'))
             case atStart => exact ⟨(0), veq_, H', ⟨Nat.le_refl _⟩, ⟨bB_ HB⟩⟩
             case round =>
              clear H'
              try clear c4
              try clear c7
              try clear c8b0
              try clear c9b0
              try clear c10b0
              obtain ⟨x6_5, rfl, HA, HK5, HB⟩ := hrel
              cases gk with
              | zero => exact absurd HA.out (by simp [spec_AreFree.l3])
              | succ k5 =>
               have H := HA.out
               clear HA
               simp only [spec_AreFree.l3] at H
               rcases ifd_ H with ⟨c11b0, H⟩ | ⟨c11b0, H⟩
               ·obtain ⟨c12b0, H⟩ := ifn_ H
                obtain ⟨c13b0, H⟩ := ifn_ H
                obtain ⟨c14b0, H⟩ := ifn_ H
                obtain ⟨c15b0, H⟩ := ifn_ H
                obtain ⟨c16b0, H⟩ := ifn_ H
                obtain ⟨c17b0, H⟩ := ifn_ H
                obtain ⟨c18b0, H⟩ := ifn_ H
                obtain ⟨c19b0, H⟩ := ifn_ H
                replace H := oB_ H
                obtain ⟨t106, A200, H⟩ := H
                have A20 := aM_ A200
                clear A200
                rcases ifc_ H with ⟨c21, H⟩ | ⟨c21, H⟩
                ·have c21b0 : (t106 == 0) = true := beq_iff_eq.mpr c21
                 have c21b1 : (t106 != 0) = false := bne_eq_false_iff_eq.mpr c21
                 clear c21
                 obtain rfl := Option.some.inj H
                 try go_wp2
                 replace HB := aM_ (bD_ HB.out)
                 have p102 : 0 ≤ (x6_5 : Int) := ode_
                 have q102 : x6_5 < (l0.length : Int) := ode_
                 obtain ⟨ad102, e102, hx102_0, hx102_1⟩ := at_T34 HR0.out x6_5 p102 q102
                 have hw102_1 := hx102_1
                 have hw102_0 := hx102_0
                 cases e102
                 replace hx102_0 := hbc_ HB hx102_0
                 replace hx102_1 := hbc_ HB hx102_1
                 replace p102 := eq_true p102
                 replace q102 := eq_true q102
                 have p103 : 0 ≤ (x5_4 : Int) := ode_
                 have q103 : x5_4 < (l0.length : Int) := ode_
                 obtain ⟨ad103, e103, hx103_0, hx103_1⟩ := at_T34 HR0.out x5_4 p103 q103
                 have hw103_1 := hx103_1
                 have hw103_0 := hx103_0
                 obtain rfl : ad102 = ad103 := (by injection e103)
                 replace hx103_0 := hbc_ HB hx103_0
                 replace hx103_1 := hbc_ HB hx103_1
                 replace p103 := eq_true p103
                 replace q103 := eq_true q103
                 have p104 : 0 ≤ (x4_3 : Int) := ode_
                 have q104 : x4_3 < (l0.length : Int) := ode_
                 obtain ⟨ad104, e104, hx104_0, hx104_1⟩ := at_T34 HR0.out x4_3 p104 q104
                 have hw104_1 := hx104_1
                 have hw104_0 := hx104_0
                 obtain rfl : ad102 = ad104 := (by injection e104)
                 replace hx104_0 := hbc_ HB hx104_0
                 replace hx104_1 := hbc_ HB hx104_1
                 replace p104 := eq_true p104
                 replace q104 := eq_true q104
                 have p105 : 0 ≤ (x3_2 : Int) := ode_
                 have q105 : x3_2 < (l0.length : Int) := ode_
                 obtain ⟨ad105, e105, hx105_0, hx105_1⟩ := at_T34 HR0.out x3_2 p105 q105
                 have hw105_1 := hx105_1
                 have hw105_0 := hx105_0
                 obtain rfl : ad102 = ad105 := (by injection e105)
                 replace hx105_0 := hbc_ HB hx105_0
                 replace hx105_1 := hbc_ HB hx105_1
                 replace p105 := eq_true p105
                 replace q105 := eq_true q105
                 refine start_ (n := 18) (S := fun w' => w'.cell? (ad102.add ((x6_5).toNat * 2)) = some (.int .i64 ((rd_T34 l0 x6_5).f0)) ∧ w'.cell? ⟨(ad102.add ((x6_5).toNat * 2)).block, (ad102.add ((x6_5).toNat * 2)).off + 1, none⟩ = some (.int .i64 ((rd_T34 l0 x6_5).f1)) ∧ w'.cell? (ad102.add ((x5_4).toNat * 2)) = some (.int .i64 ((rd_T34 l0 x5_4).f0)) ∧ w'.cell? ⟨(ad102.add ((x5_4).toNat * 2)).block, (ad102.add ((x5_4).toNat * 2)).off + 1, none⟩ = some (.int .i64 ((rd_T34 l0 x5_4).f1)) ∧ w'.cell? (ad102.add ((x4_3).toNat * 2)) = some (.int .i64 ((rd_T34 l0 x4_3).f0)) ∧ w'.cell? ⟨(ad102.add ((x4_3).toNat * 2)).block, (ad102.add ((x4_3).toNat * 2)).off + 1, none⟩ = some (.int .i64 ((rd_T34 l0 x4_3).f1)) ∧ w'.cell? (ad102.add ((x3_2).toNat * 2)) = some (.int .i64 ((rd_T34 l0 x3_2).f0)) ∧ w'.cell? ⟨(ad102.add ((x3_2).toNat * 2)).block, (ad102.add ((x3_2).toNat * 2)).off + 1, none⟩ = some (.int .i64 ((rd_T34 l0 x3_2).f1))) (ds := []) (bm 18 0) (by kernel_rfl) rfl rfl ⟨(hbc_ HB hw102_0), (hbc_ HB hw102_1), (hbc_ HB hw103_0), (hbc_ HB hw103_1), (hbc_ HB hw104_0), (hbc_ HB hw104_1), (hbc_ HB hw105_0), (hbc_ HB hw105_1)⟩ (fun hHeld => ?_); refine with_tabW spec_AreFree.tab15 spec_AreFree.bits15 (fun HT_ HW_ => ?_)
                 generalize wr.drew = w22 at HB hx102_0 hx102_1 hx103_0 hx103_1 hx104_0 hx104_1 hx105_0 hx105_1 hHeld ⊢
                 refine plan_ ((0, 0, 36, 1) :: (0, 1, 37, 3) :: (0, 2, 38, 7) :: (0, 4, 40, 23) :: (0, 5, 41, 55) :: (0, 6, 42, 119) :: (0, 8, 44, 375) :: (0, 9, 45, 887) :: (0, 10, 46, 1911) :: (0, 12, 48, 6007) :: (0, 13, 49, 14199) :: (0, 14, 50, 30583) :: (2, 3, 39, 30591) :: (2, 7, 43, 30719) :: (2, 11, 47, 32767) :: (2, 15, 51, 65535) :: []) ?_
                 iterate 16 (first | refine pV_ HT_ ?_ | refine pT_ HT_ HW_ hHeld ?_)
                 refine planEnd_ ?_
                 refine one_ (i := 16) (N := some 52) (bm 18 131071) rfl rfl (one_of HT_.out (by kernel_rfl)) (by decide) (fun K hK => ?_)
                 refine goesO_ Tryz.func36 #[.agg #[.int .i64 ((rd_T34 l0 x6_5).f0), .int .i64 ((rd_T34 l0 x6_5).f1)], .agg #[.int .i64 ((rd_T34 l0 x5_4).f0), .int .i64 ((rd_T34 l0 x5_4).f1)], .agg #[.int .i64 ((rd_T34 l0 x4_3).f0), .int .i64 ((rd_T34 l0 x4_3).f1)], .agg #[.int .i64 ((rd_T34 l0 x3_2).f0), .int .i64 ((rd_T34 l0 x3_2).f1)]] ?_
                 with_reducible refine (spec_l29Side.calls ((rd_T34 l0 x6_5).f0) ((rd_T34 l0 x6_5).f1) ((rd_T34 l0 x5_4).f0) ((rd_T34 l0 x5_4).f1) ((rd_T34 l0 x4_3).f0) ((rd_T34 l0 x4_3).f1) ((rd_T34 l0 x3_2).f0) ((rd_T34 l0 x3_2).f1) t106 _ A20.out).mono ?_
                 rintro e w23 ⟨rfl, hb⟩
                 refine ⟨_, rfl, ?_⟩
                 replace HB := aM_ (below_step (bB_ HB) hb)
                 (try clear hb)
                 refine hK.out _ _ ⟨(hbc_ HB hw102_0), (hbc_ HB hw102_1), (hbc_ HB hw103_0), (hbc_ HB hw103_1), (hbc_ HB hw104_0), (hbc_ HB hw104_1), (hbc_ HB hw105_0), (hbc_ HB hw105_1)⟩ (fun hHeld => ?_)
                 clear hK K
                 refine nrm_ ?_
                 refine plan_ ((0, 17, 53, 262143) :: []) ?_
                 iterate 1 (first | refine pV_ HT_ ?_)
                 refine planEnd_ ?_
                 refine done_ (done_of HT_.out (by kernel_rfl)) ?_
                 try go_wp2
                 go_ret
                 exact ⟨verr_, bB_ HB⟩
                ·have c21b0 : (t106 == 0) = false := beq_eq_false_iff_ne.mpr c21
                 have c21b1 : (t106 != 0) = true := bne_iff_ne.mpr c21
                 have H' := aM_ H
                 clear H
                 try go_wp2
                 replace HB := aM_ (bD_ HB.out)
                 have p102 : 0 ≤ (x6_5 : Int) := ode_
                 have q102 : x6_5 < (l0.length : Int) := ode_
                 obtain ⟨ad102, e102, hx102_0, hx102_1⟩ := at_T34 HR0.out x6_5 p102 q102
                 have hw102_1 := hx102_1
                 have hw102_0 := hx102_0
                 cases e102
                 replace hx102_0 := hbc_ HB hx102_0
                 replace hx102_1 := hbc_ HB hx102_1
                 replace p102 := eq_true p102
                 replace q102 := eq_true q102
                 have p103 : 0 ≤ (x5_4 : Int) := ode_
                 have q103 : x5_4 < (l0.length : Int) := ode_
                 obtain ⟨ad103, e103, hx103_0, hx103_1⟩ := at_T34 HR0.out x5_4 p103 q103
                 have hw103_1 := hx103_1
                 have hw103_0 := hx103_0
                 obtain rfl : ad102 = ad103 := (by injection e103)
                 replace hx103_0 := hbc_ HB hx103_0
                 replace hx103_1 := hbc_ HB hx103_1
                 replace p103 := eq_true p103
                 replace q103 := eq_true q103
                 have p104 : 0 ≤ (x4_3 : Int) := ode_
                 have q104 : x4_3 < (l0.length : Int) := ode_
                 obtain ⟨ad104, e104, hx104_0, hx104_1⟩ := at_T34 HR0.out x4_3 p104 q104
                 have hw104_1 := hx104_1
                 have hw104_0 := hx104_0
                 obtain rfl : ad102 = ad104 := (by injection e104)
                 replace hx104_0 := hbc_ HB hx104_0
                 replace hx104_1 := hbc_ HB hx104_1
                 replace p104 := eq_true p104
                 replace q104 := eq_true q104
                 have p105 : 0 ≤ (x3_2 : Int) := ode_
                 have q105 : x3_2 < (l0.length : Int) := ode_
                 obtain ⟨ad105, e105, hx105_0, hx105_1⟩ := at_T34 HR0.out x3_2 p105 q105
                 have hw105_1 := hx105_1
                 have hw105_0 := hx105_0
                 obtain rfl : ad102 = ad105 := (by injection e105)
                 replace hx105_0 := hbc_ HB hx105_0
                 replace hx105_1 := hbc_ HB hx105_1
                 replace p105 := eq_true p105
                 replace q105 := eq_true q105
                 refine start_ (n := 18) (S := fun w' => w'.cell? (ad102.add ((x6_5).toNat * 2)) = some (.int .i64 ((rd_T34 l0 x6_5).f0)) ∧ w'.cell? ⟨(ad102.add ((x6_5).toNat * 2)).block, (ad102.add ((x6_5).toNat * 2)).off + 1, none⟩ = some (.int .i64 ((rd_T34 l0 x6_5).f1)) ∧ w'.cell? (ad102.add ((x5_4).toNat * 2)) = some (.int .i64 ((rd_T34 l0 x5_4).f0)) ∧ w'.cell? ⟨(ad102.add ((x5_4).toNat * 2)).block, (ad102.add ((x5_4).toNat * 2)).off + 1, none⟩ = some (.int .i64 ((rd_T34 l0 x5_4).f1)) ∧ w'.cell? (ad102.add ((x4_3).toNat * 2)) = some (.int .i64 ((rd_T34 l0 x4_3).f0)) ∧ w'.cell? ⟨(ad102.add ((x4_3).toNat * 2)).block, (ad102.add ((x4_3).toNat * 2)).off + 1, none⟩ = some (.int .i64 ((rd_T34 l0 x4_3).f1)) ∧ w'.cell? (ad102.add ((x3_2).toNat * 2)) = some (.int .i64 ((rd_T34 l0 x3_2).f0)) ∧ w'.cell? ⟨(ad102.add ((x3_2).toNat * 2)).block, (ad102.add ((x3_2).toNat * 2)).off + 1, none⟩ = some (.int .i64 ((rd_T34 l0 x3_2).f1))) (ds := []) (bm 18 0) (by kernel_rfl) rfl rfl ⟨(hbc_ HB hw102_0), (hbc_ HB hw102_1), (hbc_ HB hw103_0), (hbc_ HB hw103_1), (hbc_ HB hw104_0), (hbc_ HB hw104_1), (hbc_ HB hw105_0), (hbc_ HB hw105_1)⟩ (fun hHeld => ?_); refine with_tabW spec_AreFree.tab15 spec_AreFree.bits15 (fun HT_ HW_ => ?_)
                 generalize wr.drew = w24 at HB hx102_0 hx102_1 hx103_0 hx103_1 hx104_0 hx104_1 hx105_0 hx105_1 hHeld ⊢
                 refine plan_ ((0, 0, 36, 1) :: (0, 1, 37, 3) :: (0, 2, 38, 7) :: (0, 4, 40, 23) :: (0, 5, 41, 55) :: (0, 6, 42, 119) :: (0, 8, 44, 375) :: (0, 9, 45, 887) :: (0, 10, 46, 1911) :: (0, 12, 48, 6007) :: (0, 13, 49, 14199) :: (0, 14, 50, 30583) :: (2, 3, 39, 30591) :: (2, 7, 43, 30719) :: (2, 11, 47, 32767) :: (2, 15, 51, 65535) :: []) ?_
                 iterate 16 (first | refine pV_ HT_ ?_ | refine pT_ HT_ HW_ hHeld ?_)
                 refine planEnd_ ?_
                 refine one_ (i := 16) (N := some 52) (bm 18 131071) rfl rfl (one_of HT_.out (by kernel_rfl)) (by decide) (fun K hK => ?_)
                 refine goesO_ Tryz.func36 #[.agg #[.int .i64 ((rd_T34 l0 x6_5).f0), .int .i64 ((rd_T34 l0 x6_5).f1)], .agg #[.int .i64 ((rd_T34 l0 x5_4).f0), .int .i64 ((rd_T34 l0 x5_4).f1)], .agg #[.int .i64 ((rd_T34 l0 x4_3).f0), .int .i64 ((rd_T34 l0 x4_3).f1)], .agg #[.int .i64 ((rd_T34 l0 x3_2).f0), .int .i64 ((rd_T34 l0 x3_2).f1)]] ?_
                 with_reducible refine (spec_l29Side.calls ((rd_T34 l0 x6_5).f0) ((rd_T34 l0 x6_5).f1) ((rd_T34 l0 x5_4).f0) ((rd_T34 l0 x5_4).f1) ((rd_T34 l0 x4_3).f0) ((rd_T34 l0 x4_3).f1) ((rd_T34 l0 x3_2).f0) ((rd_T34 l0 x3_2).f1) t106 _ A20.out).mono ?_
                 rintro e w25 ⟨rfl, hb⟩
                 refine ⟨_, rfl, ?_⟩
                 replace HB := aM_ (below_step (bB_ HB) hb)
                 (try clear hb)
                 refine hK.out _ _ ⟨(hbc_ HB hw102_0), (hbc_ HB hw102_1), (hbc_ HB hw103_0), (hbc_ HB hw103_1), (hbc_ HB hw104_0), (hbc_ HB hw104_1), (hbc_ HB hw105_0), (hbc_ HB hw105_1)⟩ (fun hHeld => ?_)
                 clear hK K
                 refine nrm_ ?_
                 refine plan_ ((0, 17, 53, 262143) :: []) ?_
                 iterate 1 (first | refine pV_ HT_ ?_)
                 refine planEnd_ ?_
                 refine done_ (done_of HT_.out (by kernel_rfl)) ?_
                 try go_wp2
                 go_roundg k5
                 case measure => have := HJ1.out; have := HK2.out; have := HK3.out; have := HK4.out; have := HK5.out; omega
                 case rel => exact ⟨(wrap64 (x6_5 + 1)), veq_, H', ⟨by have := HJ1.out; have := HK2.out; have := HK3.out; have := HK4.out; have := HK5.out; omega⟩, ⟨bB_ HB⟩⟩
               ·have H' := aM_ H
                clear H
                go_wp2
                go_roundg k5
                case measure => have := HJ1.out; have := HK2.out; have := HK3.out; have := HK4.out; have := HK5.out; omega
                case rel => exact ⟨(wrap64 (x5_4 + 1)), veq_, H', ⟨by have := HJ1.out; have := HK2.out; have := HK3.out; have := HK4.out; have := HK5.out; omega⟩, ⟨bB_ HB⟩⟩
            ·have H' := aM_ H
             clear H
             go_wp2
             go_roundg k4
             case measure => have := HJ1.out; have := HK2.out; have := HK3.out; have := HK4.out; omega
             case rel => exact ⟨(wrap64 (x4_3 + 1)), veq_, H', ⟨by have := HJ1.out; have := HK2.out; have := HK3.out; have := HK4.out; omega⟩, ⟨bB_ HB⟩⟩
         ·have H' := aM_ H
          clear H
          go_wp2
          go_roundg k3
          case measure => have := HJ1.out; have := HK2.out; have := HK3.out; omega
          case rel => exact ⟨(wrap64 (x3_2 + 1)), veq_, H', ⟨by have := HJ1.out; have := HK2.out; have := HK3.out; omega⟩, ⟨bB_ HB⟩⟩
      ·obtain rfl := Option.some.inj H
       go_wp2
       go_ret
       exact ⟨verr_, bB_ HB⟩
end Go.Proofs.YteaagaekdkolnaaGreatDoor.P

namespace Go.Proofs.YteaagaekdkolnaaGreatDoor.P
open Go.RowKit Go.Proofs.YteaagaekdkolnaaGreatDoorW.PrintWords Go.Proofs.YteaagaekdkolnaaGreatDoorW.PrintLast Go.Proofs.YteaagaekdkolnaaGreatDoorW.PrintMore
attribute [local go_sem] max2_int min2_int max_two min_two max_three min_three max_four min_four   -- for this text's walks alone
set_option linter.unusedVariables false
set_option linter.unusedSimpArgs false
/-! ### spec_DescribePoints: function 5 -/
def spec_DescribePoints.f (k : Nat) (l0 : List (S34)) : Option (ByteArray) := (spec_ArePoints.f k l0).bind fun t101 => (if t101 = true then ((spec_HullArea.f k l0).bind fun t102 => ((spec_FormatInt.f k t102).bind fun t103 => (if 5 + t103.size ≤ 9223372036854775807 then (if ((⟨#[97, 114, 101, 97, 32]⟩ : ByteArray) ++ t103).size + 6 ≤ 9223372036854775807 then ((spec_EdgePoints.f k l0).bind fun t104 => ((spec_FormatInt.f k t104).bind fun t105 => (if (((⟨#[97, 114, 101, 97, 32]⟩ : ByteArray) ++ t103) ++ (⟨#[32, 101, 100, 103, 101, 32]⟩ : ByteArray)).size + t105.size ≤ 9223372036854775807 then (if ((((⟨#[97, 114, 101, 97, 32]⟩ : ByteArray) ++ t103) ++ (⟨#[32, 101, 100, 103, 101, 32]⟩ : ByteArray)) ++ t105).size + 7 ≤ 9223372036854775807 then ((spec_InnerPoints.f k l0).bind fun t106 => ((spec_FormatInt.f k t106).bind fun t107 => (if (((((⟨#[97, 114, 101, 97, 32]⟩ : ByteArray) ++ t103) ++ (⟨#[32, 101, 100, 103, 101, 32]⟩ : ByteArray)) ++ t105) ++ (⟨#[32, 105, 110, 110, 101, 114, 32]⟩ : ByteArray)).size + t107.size ≤ 9223372036854775807 then (if ((((((⟨#[97, 114, 101, 97, 32]⟩ : ByteArray) ++ t103) ++ (⟨#[32, 101, 100, 103, 101, 32]⟩ : ByteArray)) ++ t105) ++ (⟨#[32, 105, 110, 110, 101, 114, 32]⟩ : ByteArray)) ++ t107).size + 6 ≤ 9223372036854775807 then ((spec_AreFree.f k l0).bind fun t108 => ((spec_l31Yes.f t108).bind fun t109 => (if (((((((⟨#[97, 114, 101, 97, 32]⟩ : ByteArray) ++ t103) ++ (⟨#[32, 101, 100, 103, 101, 32]⟩ : ByteArray)) ++ t105) ++ (⟨#[32, 105, 110, 110, 101, 114, 32]⟩ : ByteArray)) ++ t107) ++ (⟨#[32, 102, 114, 101, 101, 32]⟩ : ByteArray)).size + t109.size ≤ 9223372036854775807 then (some ((((((((⟨#[97, 114, 101, 97, 32]⟩ : ByteArray) ++ t103) ++ (⟨#[32, 101, 100, 103, 101, 32]⟩ : ByteArray)) ++ t105) ++ (⟨#[32, 105, 110, 110, 101, 114, 32]⟩ : ByteArray)) ++ t107) ++ (⟨#[32, 102, 114, 101, 101, 32]⟩ : ByteArray)) ++ t109)) else (none)))) else (none)) else (none)))) else (none)) else (none)))) else (none)) else (none)))) else (some (⟨#[]⟩ : ByteArray)))
set_option maxHeartbeats 8000000 in
set_option maxRecDepth 100000 in
theorem spec_DescribePoints.calls (k : Nat) (A0 : Option Addr) (c0 : Nat) (l0 : List (S34)) (r : ByteArray) (w : World) (hr0 : Kd.C k34 w A0 l0.length l0) (hc0 : l0.length ≤ c0) (h : spec_DescribePoints.f k l0 = some r) :
  Calls Tryz.prog 5 #[.slice A0 l0.length c0] w fun e w' => e = .returned (.string r) ∧ Below w.heap.size w w' := by
 have HR0 := aM_ hr0
 have HC0 := aM_ hc0
 clear hr0 hc0
 have HB := aM_ (Below.refl w.heap.size w)
 have H : ((spec_ArePoints.f k l0).bind fun t101 => (if t101 = true then ((spec_HullArea.f k l0).bind fun t102 => ((spec_FormatInt.f k t102).bind fun t103 => (if 5 + t103.size ≤ 9223372036854775807 then (if ((⟨#[97, 114, 101, 97, 32]⟩ : ByteArray) ++ t103).size + 6 ≤ 9223372036854775807 then ((spec_EdgePoints.f k l0).bind fun t104 => ((spec_FormatInt.f k t104).bind fun t105 => (if (((⟨#[97, 114, 101, 97, 32]⟩ : ByteArray) ++ t103) ++ (⟨#[32, 101, 100, 103, 101, 32]⟩ : ByteArray)).size + t105.size ≤ 9223372036854775807 then (if ((((⟨#[97, 114, 101, 97, 32]⟩ : ByteArray) ++ t103) ++ (⟨#[32, 101, 100, 103, 101, 32]⟩ : ByteArray)) ++ t105).size + 7 ≤ 9223372036854775807 then ((spec_InnerPoints.f k l0).bind fun t106 => ((spec_FormatInt.f k t106).bind fun t107 => (if (((((⟨#[97, 114, 101, 97, 32]⟩ : ByteArray) ++ t103) ++ (⟨#[32, 101, 100, 103, 101, 32]⟩ : ByteArray)) ++ t105) ++ (⟨#[32, 105, 110, 110, 101, 114, 32]⟩ : ByteArray)).size + t107.size ≤ 9223372036854775807 then (if ((((((⟨#[97, 114, 101, 97, 32]⟩ : ByteArray) ++ t103) ++ (⟨#[32, 101, 100, 103, 101, 32]⟩ : ByteArray)) ++ t105) ++ (⟨#[32, 105, 110, 110, 101, 114, 32]⟩ : ByteArray)) ++ t107).size + 6 ≤ 9223372036854775807 then ((spec_AreFree.f k l0).bind fun t108 => ((spec_l31Yes.f t108).bind fun t109 => (if (((((((⟨#[97, 114, 101, 97, 32]⟩ : ByteArray) ++ t103) ++ (⟨#[32, 101, 100, 103, 101, 32]⟩ : ByteArray)) ++ t105) ++ (⟨#[32, 105, 110, 110, 101, 114, 32]⟩ : ByteArray)) ++ t107) ++ (⟨#[32, 102, 114, 101, 101, 32]⟩ : ByteArray)).size + t109.size ≤ 9223372036854775807 then (some ((((((((⟨#[97, 114, 101, 97, 32]⟩ : ByteArray) ++ t103) ++ (⟨#[32, 101, 100, 103, 101, 32]⟩ : ByteArray)) ++ t105) ++ (⟨#[32, 105, 110, 110, 101, 114, 32]⟩ : ByteArray)) ++ t107) ++ (⟨#[32, 102, 114, 101, 101, 32]⟩ : ByteArray)) ++ t109)) else (none)))) else (none)) else (none)))) else (none)) else (none)))) else (none)) else (none)))) else (some (⟨#[]⟩ : ByteArray)))) = some r := h
 clear h
 replace H := oB_ H
 obtain ⟨t101, A20, H⟩ := H
 have A2 := aM_ A20
 clear A20
 by_cases c3 : t101 = true
 ·subst c3
  rw [if_pos rfl] at H
  replace H := oB_ H
  obtain ⟨t102, A40, H⟩ := H
  have A4 := aM_ A40
  clear A40
  replace H := oB_ H
  obtain ⟨t103, A50, H⟩ := H
  have A5 := aM_ A50
  clear A50
  obtain ⟨c6, H⟩ := ifp_ H
  have c6b0 := eq_true c6
  have c6b1 := decide_eq_true c6
  try have c6b2 : (9223372036854775807 < 5 + t103.size) = False := eq_false (Nat.not_lt.2 c6)
  obtain ⟨c7, H⟩ := ifp_ H
  have c7b0 := eq_true c7
  have c7b1 := decide_eq_true c7
  try have c7b2 : (9223372036854775807 < ((⟨#[97, 114, 101, 97, 32]⟩ : ByteArray) ++ t103).size + 6) = False := eq_false (Nat.not_lt.2 c7)
  have c7s2 : (9223372036854775807 < 5 + t103.size + 6) = False := eq_false (Nat.not_lt.2 (by have h_ := c7; simp only [ByteArray.size_append] at h_; exact h_))
  replace H := oB_ H
  obtain ⟨t104, A80, H⟩ := H
  have A8 := aM_ A80
  clear A80
  replace H := oB_ H
  obtain ⟨t105, A90, H⟩ := H
  have A9 := aM_ A90
  clear A90
  obtain ⟨c10, H⟩ := ifp_ H
  have c10b0 := eq_true c10
  have c10b1 := decide_eq_true c10
  try have c10b2 : (9223372036854775807 < (((⟨#[97, 114, 101, 97, 32]⟩ : ByteArray) ++ t103) ++ (⟨#[32, 101, 100, 103, 101, 32]⟩ : ByteArray)).size + t105.size) = False := eq_false (Nat.not_lt.2 c10)
  have c10s2 : (9223372036854775807 < 5 + t103.size + 6 + t105.size) = False := eq_false (Nat.not_lt.2 (by have h_ := c10; simp only [ByteArray.size_append] at h_; exact h_))
  obtain ⟨c11, H⟩ := ifp_ H
  have c11b0 := eq_true c11
  have c11b1 := decide_eq_true c11
  try have c11b2 : (9223372036854775807 < ((((⟨#[97, 114, 101, 97, 32]⟩ : ByteArray) ++ t103) ++ (⟨#[32, 101, 100, 103, 101, 32]⟩ : ByteArray)) ++ t105).size + 7) = False := eq_false (Nat.not_lt.2 c11)
  have c11s2 : (9223372036854775807 < 5 + t103.size + 6 + t105.size + 7) = False := eq_false (Nat.not_lt.2 (by have h_ := c11; simp only [ByteArray.size_append] at h_; exact h_))
  replace H := oB_ H
  obtain ⟨t106, A120, H⟩ := H
  have A12 := aM_ A120
  clear A120
  replace H := oB_ H
  obtain ⟨t107, A130, H⟩ := H
  have A13 := aM_ A130
  clear A130
  obtain ⟨c14, H⟩ := ifp_ H
  have c14b0 := eq_true c14
  have c14b1 := decide_eq_true c14
  try have c14b2 : (9223372036854775807 < (((((⟨#[97, 114, 101, 97, 32]⟩ : ByteArray) ++ t103) ++ (⟨#[32, 101, 100, 103, 101, 32]⟩ : ByteArray)) ++ t105) ++ (⟨#[32, 105, 110, 110, 101, 114, 32]⟩ : ByteArray)).size + t107.size) = False := eq_false (Nat.not_lt.2 c14)
  have c14s2 : (9223372036854775807 < 5 + t103.size + 6 + t105.size + 7 + t107.size) = False := eq_false (Nat.not_lt.2 (by have h_ := c14; simp only [ByteArray.size_append] at h_; exact h_))
  obtain ⟨c15, H⟩ := ifp_ H
  have c15b0 := eq_true c15
  have c15b1 := decide_eq_true c15
  try have c15b2 : (9223372036854775807 < ((((((⟨#[97, 114, 101, 97, 32]⟩ : ByteArray) ++ t103) ++ (⟨#[32, 101, 100, 103, 101, 32]⟩ : ByteArray)) ++ t105) ++ (⟨#[32, 105, 110, 110, 101, 114, 32]⟩ : ByteArray)) ++ t107).size + 6) = False := eq_false (Nat.not_lt.2 c15)
  have c15s2 : (9223372036854775807 < 5 + t103.size + 6 + t105.size + 7 + t107.size + 6) = False := eq_false (Nat.not_lt.2 (by have h_ := c15; simp only [ByteArray.size_append] at h_; exact h_))
  replace H := oB_ H
  obtain ⟨t108, A160, H⟩ := H
  have A16 := aM_ A160
  clear A160
  replace H := oB_ H
  obtain ⟨t109, A170, H⟩ := H
  have A17 := aM_ A170
  clear A170
  obtain ⟨c18, H⟩ := ifp_ H
  have c18b0 := eq_true c18
  have c18b1 := decide_eq_true c18
  try have c18b2 : (9223372036854775807 < (((((((⟨#[97, 114, 101, 97, 32]⟩ : ByteArray) ++ t103) ++ (⟨#[32, 101, 100, 103, 101, 32]⟩ : ByteArray)) ++ t105) ++ (⟨#[32, 105, 110, 110, 101, 114, 32]⟩ : ByteArray)) ++ t107) ++ (⟨#[32, 102, 114, 101, 101, 32]⟩ : ByteArray)).size + t109.size) = False := eq_false (Nat.not_lt.2 c18)
  have c18s2 : (9223372036854775807 < 5 + t103.size + 6 + t105.size + 7 + t107.size + 6 + t109.size) = False := eq_false (Nat.not_lt.2 (by have h_ := c18; simp only [ByteArray.size_append] at h_; exact h_))
  obtain rfl := Option.some.inj H
  go_enter Tryz.func5, Tryz.ntmps5
  go_wp2_with (first | ((with_reducible refine gate_callee (f := 9) rfl ?_); refine goesM_ (some 5) Tryz.func9 #[.slice A0 l0.length c0] ?_; (with_reducible refine (spec_ArePoints.calls k _ _ l0 true _ ?side1 ?side2 A2.out).mono ?_); (case side1 => repeat (first | exact HR0.out | (with_reducible refine Kd.C_alloc ?_ _) | (with_reducible refine Kd.C_drewN ?_ _) | (with_reducible refine Kd.C_drew ?_))); (case side2 => exact HC0.out); rintro e w19 ⟨rfl, hb⟩; refine ⟨_, rfl, ?_⟩; replace HB := aM_ (below_step (bB_ HB) hb); (try clear hb)) | ((with_reducible refine gate_callee (f := 11) rfl ?_); refine goesM_ (some 8) Tryz.func11 #[.slice A0 l0.length c0] ?_; (with_reducible refine (spec_HullArea.calls k _ _ l0 t102 _ ?side1 ?side2 A4.out).mono ?_); (case side1 => repeat (first | exact (Kd.C_below HR0.out HB.out) | (with_reducible refine Kd.C_alloc ?_ _) | (with_reducible refine Kd.C_drewN ?_ _) | (with_reducible refine Kd.C_drew ?_))); (case side2 => exact HC0.out); rintro e w20 ⟨rfl, hb⟩; refine ⟨_, rfl, ?_⟩; replace HB := aM_ (below_step (bB_ HB) hb); (try clear hb)) | ((with_reducible refine gate_callee (f := 10) rfl ?_); refine goesM_ (some 9) Tryz.func10 #[.int .i64 t102] ?_; (with_reducible refine (spec_FormatInt.calls k t102 t103 _ A5.out).mono ?_); rintro e w21 ⟨rfl, hb⟩; refine ⟨_, rfl, ?_⟩; replace HB := aM_ (below_step (bB_ HB) hb); (try clear hb)) | ((with_reducible refine gate_callee (f := 12) rfl ?_); refine goesM_ (some 13) Tryz.func12 #[.slice A0 l0.length c0] ?_; (with_reducible refine (spec_EdgePoints.calls k _ _ l0 t104 _ ?side1 ?side2 A8.out).mono ?_); (case side1 => repeat (first | exact (Kd.C_below HR0.out HB.out) | (with_reducible refine Kd.C_alloc ?_ _) | (with_reducible refine Kd.C_drewN ?_ _) | (with_reducible refine Kd.C_drew ?_))); (case side2 => exact HC0.out); rintro e w22 ⟨rfl, hb⟩; refine ⟨_, rfl, ?_⟩; replace HB := aM_ (below_step (bB_ HB) hb); (try clear hb)) | ((with_reducible refine gate_callee (f := 10) rfl ?_); refine goesM_ (some 14) Tryz.func10 #[.int .i64 t104] ?_; (with_reducible refine (spec_FormatInt.calls k t104 t105 _ A9.out).mono ?_); rintro e w23 ⟨rfl, hb⟩; refine ⟨_, rfl, ?_⟩; replace HB := aM_ (below_step (bB_ HB) hb); (try clear hb)) | ((with_reducible refine gate_callee (f := 13) rfl ?_); refine goesM_ (some 18) Tryz.func13 #[.slice A0 l0.length c0] ?_; (with_reducible refine (spec_InnerPoints.calls k _ _ l0 t106 _ ?side1 ?side2 A12.out).mono ?_); (case side1 => repeat (first | exact (Kd.C_below HR0.out HB.out) | (with_reducible refine Kd.C_alloc ?_ _) | (with_reducible refine Kd.C_drewN ?_ _) | (with_reducible refine Kd.C_drew ?_))); (case side2 => exact HC0.out); rintro e w24 ⟨rfl, hb⟩; refine ⟨_, rfl, ?_⟩; replace HB := aM_ (below_step (bB_ HB) hb); (try clear hb)) | ((with_reducible refine gate_callee (f := 10) rfl ?_); refine goesM_ (some 19) Tryz.func10 #[.int .i64 t106] ?_; (with_reducible refine (spec_FormatInt.calls k t106 t107 _ A13.out).mono ?_); rintro e w25 ⟨rfl, hb⟩; refine ⟨_, rfl, ?_⟩; replace HB := aM_ (below_step (bB_ HB) hb); (try clear hb)) | ((with_reducible refine gate_callee (f := 15) rfl ?_); refine goesM_ (some 24) Tryz.func15 #[.slice A0 l0.length c0] ?_; (with_reducible refine (spec_AreFree.calls k _ _ l0 t108 _ ?side1 ?side2 A16.out).mono ?_); (case side1 => repeat (first | exact (Kd.C_below HR0.out HB.out) | (with_reducible refine Kd.C_alloc ?_ _) | (with_reducible refine Kd.C_drewN ?_ _) | (with_reducible refine Kd.C_drew ?_))); (case side2 => exact HC0.out); rintro e w26 ⟨rfl, hb⟩; refine ⟨_, rfl, ?_⟩; replace HB := aM_ (below_step (bB_ HB) hb); (try clear hb)) | ((with_reducible refine gate_callee (f := 14) rfl ?_); refine goesM_ (some 25) Tryz.func14 #[.bool t108] ?_; (with_reducible refine (spec_l31Yes.calls t108 t109 _ A17.out).mono ?_); rintro e w' ⟨rfl, ⟨nd, rfl⟩⟩; refine ⟨_, rfl, ?_⟩))
  go_ret
  exact ⟨verr_, bB_ HB⟩
 ·replace c3 := Bool.eq_false_iff.mpr c3
  subst c3
  rw [if_neg (show ¬ (false = true) by decide)] at H
  obtain rfl := Option.some.inj H
  go_enter Tryz.func5, Tryz.ntmps5
  go_wp2_with (first | ((with_reducible refine gate_callee (f := 9) rfl ?_); refine goesM_ (some 5) Tryz.func9 #[.slice A0 l0.length c0] ?_; (with_reducible refine (spec_ArePoints.calls k _ _ l0 false _ ?side1 ?side2 A2.out).mono ?_); (case side1 => repeat (first | exact HR0.out | (with_reducible refine Kd.C_alloc ?_ _) | (with_reducible refine Kd.C_drewN ?_ _) | (with_reducible refine Kd.C_drew ?_))); (case side2 => exact HC0.out); rintro e w27 ⟨rfl, hb⟩; refine ⟨_, rfl, ?_⟩; replace HB := aM_ (below_step (bB_ HB) hb); (try clear hb)))
  go_ret
  exact ⟨verr_, bB_ HB⟩
end Go.Proofs.YteaagaekdkolnaaGreatDoor.P

namespace Go.Proofs.YteaagaekdkolnaaGreatDoor.P
open Go.RowKit Go.Proofs.YteaagaekdkolnaaGreatDoorW.PrintWords Go.Proofs.YteaagaekdkolnaaGreatDoorW.PrintLast Go.Proofs.YteaagaekdkolnaaGreatDoorW.PrintMore
attribute [local go_sem] max2_int min2_int max_two min_two max_three min_three max_four min_four   -- for this text's walks alone
set_option linter.unusedVariables false
set_option linter.unusedSimpArgs false
/-! ### laws_toPoint: function 16 -/
def laws_toPoint.f (a0_0 : Int) (a0_1 : Int) : Option (Int × Int) := some (a0_0, a0_1)
set_option maxHeartbeats 8000000 in
set_option maxRecDepth 100000 in
theorem laws_toPoint.calls (a0_0 : Int) (a0_1 : Int) (r1 : Int) (r2 : Int) (w : World) (h : laws_toPoint.f a0_0 a0_1 = some (r1, r2)) :
  Calls Tryz.prog 16 #[.agg #[.int .i64 a0_0, .int .i64 a0_1]] w fun e w' => e = .returned (.agg #[.int .i64 r1, .int .i64 r2]) ∧ Below w.heap.size w w' := by
 have hu36 := Tryz.underlying36
 have hu34 := Tryz.underlying34
 have HB := aM_ (Below.refl w.heap.size w)
 have H : (some (a0_0, a0_1)) = some (r1, r2) := h
 clear h
 simp only [Option.some.injEq, Prod.mk.injEq] at H
 obtain ⟨rfl, rfl⟩ := H
 go_enter Tryz.func16, Tryz.ntmps16
 go_wp2_with (first | ((with_reducible refine gate_dst (N := 1) rfl ?_); refine boxE_ (N := 1) #[.int .i64 a0_0, .int .i64 a0_1] 36 ?_; intro gb101 hg w2 hbox hb; have BK101 := aM_ (hbox); have GW101 := aM_ ((bs_ HB hg)); have GE101 := aM_ ((bs_ HB hg)); replace HB := aM_ (below_step (bB_ HB) hb); clear hb hbox hg) | ((with_reducible refine gate_dst (N := 2) rfl ?_); refine boxE_ (N := 2) #[.int .i64 0, .int .i64 0] 34 ?_; intro gb102 hg w3 hbox hb; have BK102 := aM_ (hbox); have GW102 := aM_ ((bs_ HB hg)); have GE102 := aM_ ((bs_ HB hg)); replace HB := aM_ (below_step (bB_ HB) hb); have NB101_102 := aM_ ((bnl_ BK101 hg)); have NB102_101 := aM_ ((bng_ BK101 hg)); replace BK101 := aM_ (bkb_ BK101 hb); clear hb hbox hg) | ((with_reducible refine gate_dst (N := 3) rfl ?_); refine boxE_ (N := 3) #[.int .i64 0, .int .i64 0] 34 ?_; intro gb103 hg w4 hbox hb; have BK103 := aM_ (hbox); have GW103 := aM_ ((bs_ HB hg)); have GE103 := aM_ ((bs_ HB hg)); replace HB := aM_ (below_step (bB_ HB) hb); have NB101_103 := aM_ ((bnl_ BK101 hg)); have NB103_101 := aM_ ((bng_ BK101 hg)); replace BK101 := aM_ (bkb_ BK101 hb); have NB102_103 := aM_ ((bnl_ BK102 hg)); have NB103_102 := aM_ ((bng_ BK102 hg)); replace BK102 := aM_ (bkb_ BK102 hb); clear hb hbox hg; have hnb5 := NB101_102.out; have hnc5 := NB102_101.out; have hnb6 := NB101_103.out; have hnc6 := NB103_101.out; have hcz7_0 := bc_ BK101 0; have hcz7_1 := bc_ BK101 1; have hfz7_0 := blk_frozen BK101.out 0; have hfz7_1 := blk_frozen BK101.out 1; have hnb8 := NB103_102.out; have hnc8 := NB102_103.out; have hcz9_0 := bc_ BK103 0; have hcz9_1 := bc_ BK103 1; have hfz9_0 := blk_frozen BK103.out 0; have hfz9_1 := blk_frozen BK103.out 1; have hcz10_0 := bc_ BK102 0; have hcz10_1 := bc_ BK102 1; have hfz10_0 := blk_frozen BK102.out 0; have hfz10_1 := blk_frozen BK102.out 1))
 refine bodyPost_ret (results_cell_row rfl _ _ gb102 34 #[.int .i64 a0_0, .int .i64 a0_1] (0, 0) _ rfl (by (with_reducible repeat (first | refine blk_drewN ?_ _ | refine blk_drew ?_ | refine blk_alloc ?_ _)); refine blk_put (cs := #[.int .i64 a0_0, .int .i64 0]) ?_ 1 _ rfl; (with_reducible repeat (first | refine blk_drewN ?_ _ | refine blk_drew ?_ | refine blk_alloc ?_ _)); refine blk_put (cs := #[.int .i64 0, .int .i64 0]) ?_ 0 _ rfl; (with_reducible repeat (first | refine blk_drewN ?_ _ | refine blk_drew ?_ | refine blk_alloc ?_ _)); refine blk_far ?_ NB102_103.out _; (with_reducible repeat (first | refine blk_drewN ?_ _ | refine blk_drew ?_ | refine blk_alloc ?_ _)); refine blk_far ?_ NB102_103.out _; (with_reducible repeat (first | refine blk_drewN ?_ _ | refine blk_drew ?_ | refine blk_alloc ?_ _)); exact BK102.out) Tryz.underlying34 rfl (by kernel_rfl)) rfl ?_
 exact ⟨verr_, bB_ HB⟩
end Go.Proofs.YteaagaekdkolnaaGreatDoor.P

namespace Go.Proofs.YteaagaekdkolnaaGreatDoor.P
open Go.RowKit Go.Proofs.YteaagaekdkolnaaGreatDoorW.PrintWords Go.Proofs.YteaagaekdkolnaaGreatDoorW.PrintLast Go.Proofs.YteaagaekdkolnaaGreatDoorW.PrintMore
attribute [local go_sem] max2_int min2_int max_two min_two max_three min_three max_four min_four   -- for this text's walks alone
set_option linter.unusedVariables false
set_option linter.unusedSimpArgs false
/-! ### laws_toPointS: function 6 -/
def laws_toPointS.l0 : Nat → List (S36) → List (S34) → Int → Option ((List (S34)))
 | 0, _, _, _ => none
 | k + 1, x0, x3, x4 => if x4 < (x0.length : Int) then (if 0 ≤ x4 then ((laws_toPoint.f ((rd_T36 x0 x4).f0) ((rd_T36 x0 x4).f1)).bind fun bt105 => (if x4 < (x3.length : Int) then (laws_toPointS.l0 k x0 (x3.set (x4 : Int).toNat (⟨bt105.1, bt105.2⟩ : S34)) (wrap64 (x4 + 1))) else (none))) else (none)) else (some x3)
def laws_toPointS.f (k : Nat) (l0 : List (S36)) : Option ((List (S34))) := if 0 ≤ (l0.length : Int) then (if ((l0.length : Int) : Int).toNat ≤ 17592186044416 then (laws_toPointS.l0 k l0 (List.replicate ((l0.length : Int) : Int).toNat z34) 0) else (none)) else (none)
set_option maxHeartbeats 8000000 in
set_option maxRecDepth 100000 in
theorem laws_toPointS.calls (k : Nat) (A0 : Option Addr) (c0 : Nat) (l0 : List (S36)) (r : List (S34)) (w : World) (hr0 : Kd.C k36 w A0 l0.length l0) (hc0 : l0.length ≤ c0) (h : laws_toPointS.f k l0 = some r) :
  Calls Tryz.prog 6 #[.slice A0 l0.length c0] w fun e w' => ∃ v0_ : Value, e = .returned (v0_) ∧ Kd.R k34 34 w' w.heap.size (fun _ => True) v0_ r ∧ Below w.heap.size w w' := by
 have hu36 := Tryz.underlying36
 have hu34 := Tryz.underlying34
 have HR0 := aM_ hr0
 have HC0 := aM_ hc0
 clear hr0 hc0
 have HB := aM_ (Below.refl w.heap.size w)
 have H : (if 0 ≤ (l0.length : Int) then (if ((l0.length : Int) : Int).toNat ≤ 17592186044416 then (laws_toPointS.l0 k l0 (List.replicate ((l0.length : Int) : Int).toNat z34) 0) else (none)) else (none)) = some r := h
 clear h
 obtain ⟨c2, H⟩ := ifp_ H
 have c2b0 := eq_true c2
 have c2b1 := decide_eq_true c2
 clear c2
 obtain ⟨c3, H⟩ := ifp_ H
 have c3b0 := eq_true c3
 have c3b1 := decide_eq_true c3
 clear c3
 obtain ⟨y101, hy101⟩ : ∃ y_ : List (S34), y_ = (List.replicate ((l0.length : Int) : Int).toNat z34) := ⟨_, rfl⟩
 replace H : (laws_toPointS.l0 k l0 y101 0) = some r := by first | (rw [hy101]; with_reducible exact H) | (have H2_ := (Option.bind_some _ _).symm.trans H; rw [hy101]; with_reducible exact H2_) | (have H2_ := (Option.bind_some _ _).symm.trans H; with_reducible exact H2_) | with_reducible exact H | (rw [hy101]; exact H) | exact H
 have Ny101 := aM_ hy101
 clear hy101
 have H' := aM_ H
 clear H
 go_enter Tryz.func6, Tryz.ntmps6
 go_wp2_with (first | ((with_reducible refine gate_dst (N := 7) rfl ?_); refine Kd.R_make k34 _ 34 rfl (N := 7) rfl 25 _ _ rfl (l0.length : Int) rfl rfl Tryz.underlying25 (.agg #[(.int .i64 0), (.int .i64 0)]) 16 info34 rfl (by decide) (by omega) z34 (ok := fun _ => True) (okp := fun _ => True) (k34_mkM _ _ _ z34 ) (fun _ hk => hk) trivial (ode_) (Nat.le_trans (Nat.mul_le_mul_right _ (ode_ : (l0.length : Int).toNat ≤ 17592186044416)) (by omega)) (Below.refl _ _) (Nat.le_refl _) ?_; intro v102 w4 ho5 hb hg_ hnew_; clear hg_ hnew_; (first | rw [← Ny101.out] at ho5 | (simp only [Int.reduceToNat] at ho5; rw [← Ny101.out] at ho5)); have HO103 := aM_ (Kd.R_lower ho5 (below_size (bB_ HB))); replace HB := aM_ (below_step (bB_ HB) hb); clear hb ho5))
 go_loopg [4] k (fun kq v4 w' => ∃ (x3_1 : List (S34)) (x4_1 : Int), v4 = .int .i64 x4_1 ∧ Aside0 (laws_toPointS.l0 kq l0 x3_1 x4_1 = some r) ∧ Aside0 (kq ≤ k) ∧ Aside0 (Kd.R k34 34 w' w.heap.size (fun _ => True) v102 x3_1) ∧ Aside0 (Below w.heap.size w w'))
 case atStart => exact ⟨(y101), (0), veq_, H', ⟨Nat.le_refl _⟩, ⟨kr_ HO103⟩, ⟨bB_ HB⟩⟩
 case round =>
  clear H'
  try clear c2
  try clear c2b0
  try clear c2b1
  try clear c3
  try clear c3b0
  try clear c3b1
  obtain ⟨x3_1, x4_1, rfl, HA, HK1, HO_3, HB⟩ := hrel
  cases gk with
  | zero => exact absurd HA.out (by simp [laws_toPointS.l0])
  | succ k1 =>
   have H := HA.out
   clear HA
   simp only [laws_toPointS.l0] at H
   rcases ifd_ H with ⟨c6b0, H⟩ | ⟨c6b0, H⟩
   ·obtain ⟨c7b0, H⟩ := ifn_ H
    replace H := oB_ H
    obtain ⟨⟨t105, t106⟩, A80, H⟩ := H
    replace H : (if x4_1 < (x3_1.length : Int) then (laws_toPointS.l0 k1 l0 (x3_1.set (x4_1 : Int).toNat (⟨t105, t106⟩ : S34)) (wrap64 (x4_1 + 1))) else (none)) = some r := H
    have A8 := aM_ A80
    clear A80
    obtain ⟨c9b0, H⟩ := ifn_ H
    obtain ⟨y107, hy107⟩ : ∃ y_ : List (S34), y_ = (x3_1.set (x4_1 : Int).toNat (⟨t105, t106⟩ : S34)) := ⟨_, rfl⟩
    replace H : (laws_toPointS.l0 k1 l0 y107 (wrap64 (x4_1 + 1))) = some r := by first | (rw [hy107]; with_reducible exact H) | (have H2_ := (Option.bind_some _ _).symm.trans H; rw [hy107]; with_reducible exact H2_) | (have H2_ := (Option.bind_some _ _).symm.trans H; with_reducible exact H2_) | with_reducible exact H | (rw [hy107]; exact H) | exact H
    have Ny107 := aM_ hy107
    clear hy107
    have H' := aM_ H
    clear H
    have p104 : 0 ≤ (x4_1 : Int) := ode_
    have q104 : x4_1 < (l0.length : Int) := ode_
    obtain ⟨ad104, e104, hx104_0, hx104_1⟩ := at_T36 HR0.out x4_1 p104 q104
    cases e104
    replace hx104_0 := hbc_ HB hx104_0
    replace hx104_1 := hbc_ HB hx104_1
    replace p104 := eq_true p104
    replace q104 := eq_true q104
    go_wp2_with (first | ((with_reducible refine gate_callee (f := 16) rfl ?_); refine goesM_ (some 20) Tryz.func16 #[.agg #[.int .i64 ((rd_T36 l0 x4_1).f0), .int .i64 ((rd_T36 l0 x4_1).f1)]] ?_; (with_reducible refine (laws_toPoint.calls ((rd_T36 l0 x4_1).f0) ((rd_T36 l0 x4_1).f1) t105 t106 _ A8.out).mono ?_); rintro e w11 ⟨rfl, hb⟩; refine ⟨_, rfl, ?_⟩; replace HO_3 := aM_ (Kd.R_below (kr_ HO_3) hb); replace HB := aM_ (below_step (bB_ HB) hb); (try clear hb); (try clear hk); have p10 : 0 ≤ (x4_1 : Int) := ode_; have q10 : (x4_1 : Int) < ((x3_1.length : Int) : Int) := ode_; obtain ⟨go10, co10, eo10, gb10, gl10, cl10, HG10⟩ := Kd.R_form HO_3.out (by omega); (first | cases eo10 | (injection eo10 with ea_ en_ ec_; (first | subst ea_ | (injection ea_ with ea_; subst ea_)); subst ec_; clear en_)); have GB10 := aM_ gb10; have GG10 := aM_ HG10; clear gb10 gl10 HG10; obtain ⟨ce10, hcl10, hM10, hcc10, hfr10⟩ := Kd.R_elem HO_3.out z34 (x4_1 : Int) p10 q10; obtain rfl := k34_openM hM10; have hx10_0 : w11.cell? ⟨go10, (x4_1 : Int).toNat * 2, none⟩ = some (.int .i64 ((rd_T34 x3_1 x4_1).f0)) := hcc10 0 _ rfl; have hx10_1 : w11.cell? ⟨go10, (x4_1 : Int).toNat * 2 + 1, none⟩ = some (.int .i64 ((rd_T34 x3_1 x4_1).f1)) := hcc10 1 _ rfl; have hf10_0 : w11.frozen? ⟨go10, (x4_1 : Int).toNat * 2, none⟩ = false := hfr10 0; have hf10_1 : w11.frozen? ⟨go10, (x4_1 : Int).toNat * 2 + 1, none⟩ = false := hfr10 1; clear hcl10 hcc10 hfr10 hM10; replace p10 := eq_true p10; replace q10 := eq_true q10; have HX12 := aM_ (show Kd.R k34 34 w11 w.heap.size (fun _ => True) (.slice (some ⟨go10, 0, none⟩) x3_1.length co10) x3_1 from (kr_ HO_3)); obtain ⟨ce12, hcl12, hM12, hcc12, hfr12⟩ := Kd.R_elem HX12.out z34 (x4_1 : Int) (ode_) (by have h_ : (x4_1 : Int) < ((x3_1.length : Int) : Int) := ode_; first | exact h_ | (have e_ := (Kd.R_reads' HO_3.out).1; omega) | simpa using h_); obtain rfl := k34_openM hM12; have HP12 := Kd.R_seg HX12.out (x4_1 : Int) (ode_) (by have h_ : (x4_1 : Int) < ((x3_1.length : Int) : Int) := ode_; first | exact h_ | (have e_ := (Kd.R_reads' HO_3.out).1; omega) | simpa using h_) (seg := [.int .i64 t105, .int .i64 t106]) (j := 0) hcl12 hcc12 (show 2 ≤ 2 from by decide) (x' := (⟨t105, t106⟩ : S34)) (k34_mkM _ _ _ (⟨t105, t106⟩ : S34) ) (fun _ hk => hk); have hx12_0 := hcc12 0 _ rfl; (try simp only [show (k34).sz = 2 from rfl, Nat.mul_one, Nat.add_zero] at hx12_0); have hf12_0 := hfr12 0; (try simp only [show (k34).sz = 2 from rfl, Nat.mul_one, Nat.add_zero] at hf12_0); have hx12_1 := hcc12 1 _ rfl; (try simp only [show (k34).sz = 2 from rfl, Nat.mul_one, Nat.add_zero] at hx12_1); have hf12_1 := hfr12 1; (try simp only [show (k34).sz = 2 from rfl, Nat.mul_one, Nat.add_zero] at hf12_1); clear hcl12 hcc12 hfr12 hM12) | ((with_reducible refine gate_store (t := 34) (p := 21) rfl ?_); refine store_event (t := 34) (p := 21) (v := ?vo_w13) (w1 := ((w11.setCell ⟨go10, (x4_1 : Int).toNat * 2, none⟩ (.int .i64 t105)).setCell ⟨go10, (x4_1 : Int).toNat * 2 + 1, none⟩ (.int .i64 t106))) ?hg ?ho ?hn ?hr ?_; (case ho => rfl); (case hg => rfl); (case hn => rfl); (case hr => first | (go_simp; done) | (go_simp; rfl)); intro w13 hw; have hg : w11.grownBy w13 (some go10) := (by rw [hw]; exact HP12.2); have hp_ : Kd.R k34 34 w13 w.heap.size (fun _ => True) (.slice (some ⟨go10, 0, none⟩) x3_1.length co10) y107 := (by rw [hw, Ny107.out]; exact HP12.1); clear HP12; replace HO_3 := aM_ (hp_); replace HB := aM_ ((by rw [hw]; exact below_set (below_set (HB.out) GB10.out) GB10.out : Below w.heap.size w w13)); clear hg hw hp_))
    go_roundg k1
    case measure => have := HK1.out; omega
    case rel => exact ⟨(y107), (wrap64 (x4_1 + 1)), veq_, H', ⟨by have := HK1.out; omega⟩, ⟨kr_ HO_3⟩, ⟨bB_ HB⟩⟩
   ·obtain rfl := Option.some.inj H
    go_wp2
    go_ret
    exact ⟨_, verr_, kr_ HO_3, bB_ HB⟩
end Go.Proofs.YteaagaekdkolnaaGreatDoor.P

namespace Go.Proofs
open Go.Shelf
def Tryz.lays156_ren : Go.Shelf.Ren := ⟨fun | 156 => 40 | 165 => 61 | 166 => 62 | 169 => 63 | 240 => 76 | 241 => 77 | 276 => 91 | 277 => 92 | n => n, fun | 31 => 38 | 9 => 9 | 3 => 3 | 4 => 4 | 0 => 0 | 20 => 20 | 72 => 74 | 76 => 78 | 70 => 72 | 37 => 43 | 75 => 77 | 127 => 90 | 164 => 104 | 5 => 5 | 80 => 80 | n => n, fun | n => n⟩
theorem Tryz.lays156 : Go.Proofs.Lays.n156 Tryz.prog Tryz.lays156_ren := {
  mixed := by kernel_rfl
  f156 := Tryz.func40.trans (congrArg some (by kernel_rfl))
  f165 := Tryz.func61.trans (congrArg some (by kernel_rfl))
  f166 := Tryz.func62.trans (congrArg some (by kernel_rfl))
  f169 := Tryz.func63.trans (congrArg some (by kernel_rfl))
  f240 := Tryz.func76.trans (congrArg some (by kernel_rfl))
  f241 := Tryz.func77.trans (congrArg some (by kernel_rfl))
  f276 := Tryz.func91.trans (congrArg some (by kernel_rfl))
  f277 := Tryz.func92.trans (congrArg some (by kernel_rfl))
  t0 := Tryz.underlying0
  a0 := Tryz.isAgg0
  z0 := Tryz.sizeOf0
  v0 := Tryz.zeroValue0
  t3 := Tryz.underlying3
  a3 := Tryz.isAgg3
  z3 := Tryz.sizeOf3
  v3 := Tryz.zeroValue3
  t4 := Tryz.underlying4
  a4 := Tryz.isAgg4
  z4 := Tryz.sizeOf4
  v4 := Tryz.zeroValue4
  t9 := Tryz.underlying9
  a9 := Tryz.isAgg9
  z9 := Tryz.sizeOf9
  v9 := Tryz.zeroValue9
  t20 := Tryz.underlying20
  a20 := Tryz.isAgg20
  z20 := Tryz.sizeOf20
  v20 := Tryz.zeroValue20
  t31 := Tryz.underlying38
  a31 := Tryz.isAgg38
  z31 := Tryz.sizeOf38
  v31 := Tryz.zeroValue38
  t37 := Tryz.underlying43
  a37 := Tryz.isAgg43
  z37 := Tryz.sizeOf43
  v37 := Tryz.zeroValue43
  t70 := Tryz.underlying72
  a70 := Tryz.isAgg72
  z70 := Tryz.sizeOf72
  v70 := Tryz.zeroValue72
  t72 := Tryz.underlying74
  a72 := Tryz.isAgg74
  z72 := Tryz.sizeOf74
  v72 := Tryz.zeroValue74
  t75 := Tryz.underlying77
  a75 := Tryz.isAgg77
  z75 := Tryz.sizeOf77
  v75 := Tryz.zeroValue77
  t76 := Tryz.underlying78
  a76 := Tryz.isAgg78
  z76 := Tryz.sizeOf78
  v76 := Tryz.zeroValue78
  t127 := Tryz.underlying90
  a127 := Tryz.isAgg90
  z127 := Tryz.sizeOf90
  v127 := Tryz.zeroValue90
  t164 := Tryz.underlying104
  a164 := Tryz.isAgg104
  z164 := Tryz.sizeOf104
  v164 := Tryz.zeroValue104 }
theorem Tryz.Builder_Extra_156 : Builder.Extra Tryz.prog Tryz.lays156_ren := {
  sizeBuilder := by kernel_rfl
  liesBuilder := by kernel_rfl
  t5 := Tryz.underlying5
  a5 := Tryz.isAgg5
  z5 := Tryz.sizeOf5
  v5 := Tryz.zeroValue5
  infoByte := by kernel_rfl
  cellsByte := by kernel_rfl
  sizeByte := by kernel_rfl
  neB5 := by decide }
open Go.RowKit in
/-- No element: the empty string; the world is as it was. (Whatever the slice's address and capacity: a nil slice too.) (LAID: no walk: one application.) -/
theorem Tryz.strings_Join_none (a : Option Addr) (c : Nat) (sep : ByteArray) (w : World) :
    Calls Tryz.prog 40 #[.slice a 0 c, .string sep] w fun e w' => e = .returned (.string ⟨#[]⟩) ∧ w' = w := Any.strings_Join_none Tryz.lays156 Tryz.Builder_Extra_156 a c sep w
open Go.RowKit in
/-- strings.Join: "Join concatenates the elements of its first argument to create a single string. The separator string sep is placed between elements in the resulting string.": HOWEVER MANY ELEMENTS. Below the heap's end the world is as it was. (LAID: no walk: one application.) -/
theorem Tryz.strings_Join (bk o c : Nat) (xs : List ByteArray) (sep : ByteArray) (w : World) (hcells : ∀ (j : Nat) x, xs[j]? = some x → w.cell? ⟨bk, o + j, none⟩ = some (.string x)) (hbk : bk < w.heap.size) (hN : xs.length ≤ 140737488355328) (hcap : xs.length ≤ c) (hlen : (Lib.join (xs.map (·.data.toList)) sep.data.toList).length ≤ 140737488355328) :
    Calls Tryz.prog 40 #[.slice (some ⟨bk, o, none⟩) xs.length c, .string sep] w fun e w' => e = .returned (.string ⟨(Lib.join (xs.map (·.data.toList)) sep.data.toList).toArray⟩) ∧ Below w.heap.size w w' := Any.strings_Join Tryz.lays156 Tryz.Builder_Extra_156 bk o c xs sep w hcells hbk hN hcap hlen
def Tryz.laysM171_ren : Go.Shelf.Ren := ⟨fun | 171 => 41 | 243 => 64 | 246 => 78 | 283 => 93 | 284 => 94 | 285 => 95 | 286 => 96 | 129 => 103 | 317 => 102 | 318 => 104 | 319 => 105 | 320 => 106 | 337 => 108 | 338 => 109 | n => n, fun | 3 => 3 | 9 => 9 | 2 => 2 | 4 => 4 | 171 => 107 | 0 => 0 | 53 => 108 | 37 => 43 | 5 => 5 | 173 => 111 | 212 => 117 | 51 => 118 | 20 => 20 | 213 => 119 | 46 => 64 | 232 => 123 | 233 => 124 | n => n, fun | 17 => 1 | 18 => 2 | 19 => 3 | n => n⟩
theorem Tryz.laysM171 : Go.Proofs.LaysM.n171 Tryz.prog Tryz.laysM171_ren := {
  mixed := by kernel_rfl
  f129 := Tryz.func103.trans (congrArg some (by kernel_rfl))
  f171 := Tryz.func41.trans (congrArg some (by kernel_rfl))
  f243 := Tryz.func64.trans (congrArg some (by kernel_rfl))
  f246 := Tryz.func78.trans (congrArg some (by kernel_rfl))
  f283 := Tryz.func93.trans (congrArg some (by kernel_rfl))
  f284 := Tryz.func94.trans (congrArg some (by kernel_rfl))
  f285 := Tryz.func95.trans (congrArg some (by kernel_rfl))
  f286 := Tryz.func96.trans (congrArg some (by kernel_rfl))
  f317 := Tryz.func102.trans (congrArg some (by kernel_rfl))
  f318 := Tryz.func104.trans (congrArg some (by kernel_rfl))
  f319 := Tryz.func105.trans (congrArg some (by kernel_rfl))
  f320 := Tryz.func106.trans (congrArg some (by kernel_rfl))
  f337 := Tryz.func108.trans (congrArg some (by kernel_rfl))
  f338 := Tryz.func109.trans (congrArg some (by kernel_rfl))
  t0 := Tryz.underlying0
  a0 := Tryz.isAgg0
  z0 := Tryz.sizeOf0
  v0 := Tryz.zeroValue0
  t2 := Tryz.underlying2
  a2 := Tryz.isAgg2
  z2 := Tryz.sizeOf2
  v2 := Tryz.zeroValue2
  t3 := Tryz.underlying3
  a3 := Tryz.isAgg3
  z3 := Tryz.sizeOf3
  v3 := Tryz.zeroValue3
  t4 := Tryz.underlying4
  a4 := Tryz.isAgg4
  z4 := Tryz.sizeOf4
  v4 := Tryz.zeroValue4
  t5 := Tryz.underlying5
  a5 := Tryz.isAgg5
  z5 := Tryz.sizeOf5
  v5 := Tryz.zeroValue5
  t9 := Tryz.underlying9
  a9 := Tryz.isAgg9
  z9 := Tryz.sizeOf9
  v9 := Tryz.zeroValue9
  t20 := Tryz.underlying20
  a20 := Tryz.isAgg20
  z20 := Tryz.sizeOf20
  v20 := Tryz.zeroValue20
  t37 := Tryz.underlying43
  a37 := Tryz.isAgg43
  z37 := Tryz.sizeOf43
  v37 := Tryz.zeroValue43
  t46 := Tryz.underlying64
  a46 := Tryz.isAgg64
  z46 := Tryz.sizeOf64
  v46 := Tryz.zeroValue64
  t51 := Tryz.underlying118
  a51 := Tryz.isAgg118
  z51 := Tryz.sizeOf118
  v51 := Tryz.zeroValue118
  t53 := Tryz.underlying108
  a53 := Tryz.isAgg108
  z53 := Tryz.sizeOf108
  v53 := Tryz.zeroValue108
  t171 := Tryz.underlying107
  a171 := Tryz.isAgg107
  z171 := Tryz.sizeOf107
  v171 := Tryz.zeroValue107
  t173 := Tryz.underlying111
  a173 := Tryz.isAgg111
  z173 := Tryz.sizeOf111
  v173 := Tryz.zeroValue111
  t212 := Tryz.underlying117
  a212 := Tryz.isAgg117
  z212 := Tryz.sizeOf117
  v212 := Tryz.zeroValue117
  t213 := Tryz.underlying119
  a213 := Tryz.isAgg119
  z213 := Tryz.sizeOf119
  t232 := Tryz.underlying123
  a232 := Tryz.isAgg123
  z232 := Tryz.sizeOf123
  v232 := Tryz.zeroValue123
  t233 := Tryz.underlying124
  a233 := Tryz.isAgg124
  z233 := Tryz.sizeOf124
  v233 := Tryz.zeroValue124
  g17 := by kernel_rfl
  g18 := by kernel_rfl
  g19 := by kernel_rfl
  i0 := by kernel_rfl
  i2 := by kernel_rfl
  i3 := by kernel_rfl
  i4 := by kernel_rfl
  i5 := by kernel_rfl
  i9 := by kernel_rfl
  i20 := by kernel_rfl
  i37 := by kernel_rfl
  i46 := by kernel_rfl
  i51 := by kernel_rfl
  i53 := by kernel_rfl
  i171 := by kernel_rfl
  i173 := by kernel_rfl
  i212 := by kernel_rfl
  i232 := by kernel_rfl
  i233 := by kernel_rfl
  m17 := by kernel_rfl
  m18 := by kernel_rfl
  m19 := by kernel_rfl }
open Go.RowKit Go.Sort Go.Lib in
/-- strconv.Itoa: "Itoa is equivalent to FormatInt(int64(i), 10).": i's DECIMAL NUMERAL ('Lib.itoa': a '-' where i is negative, then the digits), FOR EVERY int. The world behind the call: the world before it, new blocks behind the heap (the library's 'var a [24]byte'), draws. (LAID: no walk: one application.) -/
theorem Tryz.strconv_Itoa (n : Int) (h0 : -9223372036854775808 ≤ n) (h1 : n ≤ 9223372036854775807) (w : World) (htab : Lib.TabIs Tryz.prog w "internal/strconv.uint64pow10" .u64 Lib.pow10Tab) :
    Calls Tryz.prog 41 #[.int .i64 n] w fun e w' => e = .returned (.string ⟨(Lib.itoa n).toArray⟩) ∧ ∃ k os, w' = grow (w.drewN k) os := Any.strconv_Itoa Tryz.laysM171 n h0 h1 w htab
end Go.Proofs

namespace Go.Proofs.YteaagaekdkolnaaGreatDoor.P
open Go.RowKit Go.Proofs.YteaagaekdkolnaaGreatDoorW.PrintWords Go.Proofs.YteaagaekdkolnaaGreatDoorW.PrintLast Go.Proofs.YteaagaekdkolnaaGreatDoorW.PrintMore
attribute [local go_sem] max2_int min2_int max_two min_two max_three min_three max_four min_four   -- for this text's walks alone
set_option linter.unusedVariables false
set_option linter.unusedSimpArgs false
/-! ### strconv_Itoa_41: function 41 -/
def Tab (w : World) : Prop := Lib.TabIs Tryz.prog w "internal/strconv.uint64pow10" .u64 Lib.pow10Tab
theorem Tab.on {w w' : World} (h : Tab w) (hb : Below w.heap.size w w') : Tab w' := (Lib.tabBelow_of_tabIs h) w' hb
def strconv_Itoa_41.f (a0 : Int) : Option ByteArray := if -9223372036854775808 ≤ a0 ∧ a0 ≤ 9223372036854775807 then some ⟨(Lib.itoa a0).toArray⟩ else none
theorem strconv_Itoa_41.calls (a0 : Int) (r : ByteArray) (w : World) (h : strconv_Itoa_41.f a0 = some r) (htab_ : Tab w) :
  Calls Tryz.prog 41 #[.int .i64 a0] w fun e w' => e = .returned (.string r) ∧ Below w.heap.size w w' := by
 unfold strconv_Itoa_41.f at h
 split at h
 ·rename_i h0
  obtain rfl := Option.some.inj h
  refine (Tryz.strconv_Itoa a0 h0.1 h0.2 w htab_).mono ?_
  rintro e w' ⟨rfl, k, os, rfl⟩
  exact ⟨rfl, Lib.below_grow _ _ (Nat.le_refl _) k os⟩
 ·cases h
theorem itoa_some (a0 : Int) (h0 : -9223372036854775808 ≤ a0) (h1 : a0 ≤ 9223372036854775807) : strconv_Itoa_41.f a0 = some ⟨(Lib.itoa a0).toArray⟩ := if_pos ⟨h0, h1⟩
end Go.Proofs.YteaagaekdkolnaaGreatDoor.P

namespace Go.Proofs.YteaagaekdkolnaaGreatDoor.P
open Go.RowKit Go.Proofs.YteaagaekdkolnaaGreatDoorW.PrintWords Go.Proofs.YteaagaekdkolnaaGreatDoorW.PrintLast Go.Proofs.YteaagaekdkolnaaGreatDoorW.PrintMore
attribute [local go_sem] max2_int min2_int max_two min_two max_three min_three max_four min_four   -- for this text's walks alone
set_option linter.unusedVariables false
set_option linter.unusedSimpArgs false
/-! ### impl_Point_74: function 74 -/
def PredPoint (g : Nat) (lb : Array Value) (p : S34 → Bool) (w : World) : Prop :=
 ∀ (W : World) (x : S34), Below w.heap.size w W → Calls Tryz.prog g (#[.agg #[.int .i64 x.f0, .int .i64 x.f1]] ++ lb) W fun e w' => e = .returned (.bool (p x)) ∧ Below W.heap.size W w'
def idxPoint (p : S34 → Bool) : List S34 → Nat → Int
 | [], _ => -1
 | x :: l, i => if p x then i else idxPoint p l (i + 1)
theorem idxPoint_skip (p : S34 → Bool) (l : List S34) (k i : Nat) (h : ∀ j, j < k → j < l.length → p (l.getD j z34) = false) (hk : k ≤ l.length) : idxPoint p l i = idxPoint p (l.drop k) (i + k) := by
 induction k generalizing l i with
 | zero => simp
 | succ k ih =>
  cases l with
  | nil => simp at hk
  | cons x l =>
   have hx : p x = false := by simpa using h 0 (by omega) (by simp)
   simp only [idxPoint, hx, List.drop_succ_cons]
   rw [if_neg (by decide), ih l (i + 1) (fun j hj hl => by simpa using h (j + 1) (by omega) (by simpa using hl)) (by simpa using hk)]
   simp [Nat.add_assoc, Nat.add_comm 1 k]
theorem idxPoint_any (p : S34 → Bool) (l : List S34) (i : Nat) : decide (0 ≤ idxPoint p l i) = l.any p := by
 induction l generalizing i with
 | nil => rfl
 | cons x l ih =>
  simp only [idxPoint, List.any_cons]
  by_cases h : p x = true
  ·simp [h]
  ·simp [h, ih]
set_option maxHeartbeats 1000000 in
set_option maxRecDepth 100000 in
theorem indexPoint_calls (g : Nat) (lb : Array Value) (eg : ∀ args w, (callFunc g args).run Tryz.prog w = .ok (.enter g args) w) (p : S34 → Bool) (A : Option Addr) (c : Nat) (l : List S34) (w : World) (hr : Kd.C k34 w A l.length l) (hc : l.length ≤ c) (hp : PredPoint g lb p w) :
  Calls Tryz.prog 74 #[.slice A l.length c, .func (.func g) #[] lb] w fun e w' => e = .returned (.int .i64 (idxPoint p l 0)) ∧ Below w.heap.size w w' := by
 have hu34 := Tryz.underlying34
 have hmax : l.length ≤ 9223372036854775807 := hr.2.1
 have HR := aM_ hr
 have HP := aM_ hp
 clear hr hp
 go_enter Tryz.func74, Tryz.ntmps74
 go_wp2_with fail
 go_loopg [5, 8] l.length (fun gg _ s8 wr => ∃ kk : Nat, kk ≤ l.length ∧ l.length - kk ≤ gg ∧ s8 = .int .i64 kk ∧ Aside0 (Below w.heap.size w wr) ∧ Aside0 (∀ j, j < kk → j < l.length → p (l.getD j z34) = false))
 case atStart => exact ⟨0, Nat.zero_le _, by omega, rfl, ⟨Below.refl _ w⟩, ⟨fun j hj => absurd hj (Nat.not_lt_zero _)⟩⟩
 case round =>
  obtain ⟨kk, hkk, hg, rfl, BW, AA⟩ := hrel
  by_cases hlt : kk < l.length
  ·have hltz : (kk : Int) < (l.length : Int) := by omega
   obtain ⟨ad, rfl, hx0, hx1⟩ := at_T34 (Kd.C_below HR.out BW.out) (kk : Int) (by omega) hltz
   simp only [Int.toNat_natCast] at hx0 hx1
   have hcall := HP.out wr (rd_T34 l (kk : Int)) BW.out
   have hrdk : rd_T34 l (kk : Int) = l.getD kk z34 := rfl
   generalize hy : rd_T34 l (kk : Int) = y at hx0 hx1 hcall hrdk
   have HY := aM_ hrdk
   clear hrdk hy
   cases hq : p y with
   | true =>
    rw [hq] at hcall
    have HQ := aM_ hq
    clear hq
    go_wp2_with (go_at_fn g; refine hcall.mono ?_; rintro e w' ⟨rfl, hb'⟩)
    go_ret
    refine ⟨?_, below_step BW.out hb'⟩
    rw [idxPoint_skip p l kk 0 AA.out hkk, List.drop_eq_getElem_cons hlt]
    have hyy : l[kk] = y := by rw [HY.out]; simp [List.getD, List.getElem?_eq_getElem hlt]
    simp only [idxPoint, hyy, HQ.out]
    simp
   | false =>
    rw [hq] at hcall
    have HQ := aM_ hq
    clear hq
    go_wp2_with (go_at_fn g; refine hcall.mono ?_; rintro e w' ⟨rfl, hb'⟩)
    go_roundg (l.length - (kk + 1))
    case measure => omega
    case rel =>
     refine ⟨kk + 1, by omega, by omega, by go_num, ⟨below_step BW.out hb'⟩, ⟨fun j hj hjl => ?_⟩⟩
     by_cases e : j = kk
     ·subst e
      rw [← HY.out]; exact HQ.out
     ·exact AA.out j (by omega) hjl
  ·have hltz : ¬ (kk : Int) < (l.length : Int) := by omega
   have hkl : kk = l.length := by omega
   subst hkl
   go_wp2_with fail
   go_ret
   refine ⟨?_, BW.out⟩
   rw [idxPoint_skip p l l.length 0 AA.out (Nat.le_refl _), List.drop_length]
   rfl
end Go.Proofs.YteaagaekdkolnaaGreatDoor.P

namespace Go.Proofs.YteaagaekdkolnaaGreatDoor.P
open Go.RowKit Go.Proofs.YteaagaekdkolnaaGreatDoorW.PrintWords Go.Proofs.YteaagaekdkolnaaGreatDoorW.PrintLast Go.Proofs.YteaagaekdkolnaaGreatDoorW.PrintMore
attribute [local go_sem] max2_int min2_int max_two min_two max_three min_three max_four min_four   -- for this text's walks alone
set_option linter.unusedVariables false
set_option linter.unusedSimpArgs false
/-! ### impl_Point_56: function 56 -/
theorem containsPoint_calls (g : Nat) (lb : Array Value) (eg : ∀ args w, (callFunc g args).run Tryz.prog w = .ok (.enter g args) w) (p : S34 → Bool) (A : Option Addr) (c : Nat) (l : List S34) (w : World) (hr : Kd.C k34 w A l.length l) (hc : l.length ≤ c) (hp : PredPoint g lb p w) :
  Calls Tryz.prog 56 #[.slice A l.length c, .func (.func g) #[] lb] w fun e w' => e = .returned (.bool (l.any p)) ∧ Below w.heap.size w w' := by
 have HR := aM_ hr
 have HP := aM_ hp
 have HA := aM_ (idxPoint_any p l 0)
 clear hr hp
 go_enter Tryz.func56, Tryz.ntmps56
 go_wp2_with fail
 (with_reducible refine (indexPoint_calls g lb eg p A c l _ HR.out hc HP.out).mono ?_); rintro e w1 ⟨rfl, hb⟩
 go_wp2_with fail
 go_ret
 exact ⟨by rw [← HA.out]; rfl, hb⟩
end Go.Proofs.YteaagaekdkolnaaGreatDoor.P

namespace Go.Proofs.YteaagaekdkolnaaGreatDoor.P
open Go.RowKit Go.Proofs.YteaagaekdkolnaaGreatDoorW.PrintWords Go.Proofs.YteaagaekdkolnaaGreatDoorW.PrintLast Go.Proofs.YteaagaekdkolnaaGreatDoorW.PrintMore
attribute [local go_sem] max2_int min2_int max_two min_two max_three min_three max_four min_four   -- for this text's walks alone
set_option linter.unusedVariables false
set_option linter.unusedSimpArgs false
/-! ### impl_isFar: function 58 -/
def impl_isFar.f (a0 : Int) (a1 : Int) : Option (Bool) := if a0 < (wrap64 (-a1)) then (some true) else (some (decide (a0 > a1)))
set_option maxHeartbeats 8000000 in
set_option maxRecDepth 100000 in
theorem impl_isFar.calls (a0 : Int) (a1 : Int) (r : Bool) (w : World) (h : impl_isFar.f a0 a1 = some r) :
  Calls Tryz.prog 58 #[.int .i64 a0, .int .i64 a1] w fun e w' => e = .returned (.bool r) ∧ Drawn0 w w' := by
 have H : (if a0 < (wrap64 (-a1)) then (some true) else (some (decide (a0 > a1)))) = some r := h
 clear h
 rcases ifd_ H with ⟨c3b0, H⟩ | ⟨c3b0, H⟩
 ·obtain rfl := Option.some.inj H
  go_enter Tryz.func58, Tryz.ntmps58
  go_wp2
  go_ret
  exact ⟨veq_, by repeat (first | exact Drawn0.refl _ | apply Drawn0.step)⟩
 ·obtain rfl := Option.some.inj H
  go_enter Tryz.func58, Tryz.ntmps58
  go_wp2
  go_ret
  exact ⟨veq_, by repeat (first | exact Drawn0.refl _ | apply Drawn0.step)⟩
def farB (n most : Int) : Bool := (impl_isFar.f n most).getD false
theorem isFar_some (n most : Int) : impl_isFar.f n most = some (farB n most) := by
 unfold farB impl_isFar.f; split <;> rfl
theorem isFar_is (n most : Int) {b : Bool} (h : farB n most = b) : impl_isFar.f n most = some b := by rw [isFar_some, h]
end Go.Proofs.YteaagaekdkolnaaGreatDoor.P

namespace Go.Proofs.YteaagaekdkolnaaGreatDoor.P
open Go.RowKit Go.Proofs.YteaagaekdkolnaaGreatDoorW.PrintWords Go.Proofs.YteaagaekdkolnaaGreatDoorW.PrintLast Go.Proofs.YteaagaekdkolnaaGreatDoorW.PrintMore
attribute [local go_sem] max2_int min2_int max_two min_two max_three min_three max_four min_four   -- for this text's walks alone
set_option linter.unusedVariables false
set_option linter.unusedSimpArgs false
/-! ### impl_areNear_1: function 57 -/
set_option maxHeartbeats 400000 in
theorem areNear_lit (x y most : Int) (B : Nat) (w : World) (hB : B < w.heap.size) (hc : w.cell? ⟨B, 0, none⟩ = some (.int .i64 most)) :
  Calls Tryz.prog 57 #[.agg #[.int .i64 x, .int .i64 y], .pointer (some ⟨B, 0, none⟩)] w fun e w' => e = .returned (.bool (farB x most || farB y most)) ∧ Below w.heap.size w w' := by
 have hu34 := Tryz.underlying34
 cases h0 : farB x most with
 | true =>
  have H0 := aM_ h0
  clear h0
  go_enter Tryz.func57, Tryz.ntmps57
  go_wp2_with fail
  (with_reducible refine (impl_isFar.calls x most true _ (isFar_is x most H0.out)).mono ?_); rintro e w0 ⟨rfl, ⟨n0, rfl⟩⟩
  go_wp2_with fail
  go_ret
  exact ⟨rfl, by repeat (first | exact Below.refl _ _ | apply bA_ | apply bN_ | apply bD_)⟩
 | false =>
  have H0 := aM_ h0
  clear h0
  cases h1 : farB y most <;> have H1 := aM_ h1 <;> clear h1
  all_goals
   go_enter Tryz.func57, Tryz.ntmps57
   go_wp2_with fail
   (with_reducible refine (impl_isFar.calls x most false _ (isFar_is x most H0.out)).mono ?_); rintro e w0 ⟨rfl, ⟨n0, rfl⟩⟩
   go_wp2_with fail
   (with_reducible refine (impl_isFar.calls y most _ _ (isFar_is y most H1.out)).mono ?_); rintro e w1 ⟨rfl, ⟨n1, rfl⟩⟩
   go_wp2_with fail
   go_ret
   exact ⟨rfl, by repeat (first | exact Below.refl _ _ | apply bA_ | apply bN_ | apply bD_)⟩
end Go.Proofs.YteaagaekdkolnaaGreatDoor.P

namespace Go.Proofs.YteaagaekdkolnaaGreatDoor.P
open Go.RowKit Go.Proofs.YteaagaekdkolnaaGreatDoorW.PrintWords Go.Proofs.YteaagaekdkolnaaGreatDoorW.PrintLast Go.Proofs.YteaagaekdkolnaaGreatDoorW.PrintMore
attribute [local go_sem] max2_int min2_int max_two min_two max_three min_three max_four min_four   -- for this text's walks alone
set_option linter.unusedVariables false
set_option linter.unusedSimpArgs false
/-! ### impl_areNear: function 37 -/
def outPoint (most : Int) (p : S34) : Bool := farB p.f0 most || farB p.f1 most
def impl_areNear.f (a0 : Int) (l1 : List S34) : Option Bool := some (!l1.any (outPoint a0))
set_option maxHeartbeats 400000 in
theorem impl_areNear.calls (a0 : Int) (A1 : Option Addr) (c1 : Nat) (l1 : List S34) (r : Bool) (w : World) (hr1 : Kd.C k34 w A1 l1.length l1) (hc1 : l1.length ≤ c1) (h : impl_areNear.f a0 l1 = some r) :
  Calls Tryz.prog 37 #[.int .i64 a0, .slice A1 l1.length c1] w fun e w' => e = .returned (.bool r) ∧ Below w.heap.size w w' := by
 have H : (!l1.any (outPoint a0)) = r := Option.some.inj h
 have HH := aM_ H
 clear H h
 have HR := aM_ hr1
 clear hr1
 have eg : ∀ (args : Array Value) (w : World), (callFunc 57 args).run Tryz.prog w = .ok (.enter 57 args) w := enters_of Tryz.func57 (by kernel_rfl) rfl
 go_enter Tryz.func37, Tryz.ntmps37
 go_wp2_with fail
 (with_reducible refine (containsPoint_calls 57 _ eg (outPoint a0) A1 c1 l1 _ ?side1 hc1 ?side2).mono ?_)
 case side1 => repeat (first | exact HR.out | (with_reducible refine Kd.C_alloc ?_ _) | (with_reducible refine Kd.C_drewN ?_ _) | (with_reducible refine Kd.C_drew ?_))
 case side2 =>
  intro W x hb
  have hlt : w.heap.size < W.heap.size := by have := hb.size; simp at this; omega
  exact areNear_lit x.f0 x.f1 a0 w.heap.size W hlt ((hb.cell (p := ⟨w.heap.size, 0, none⟩) (by simp)).trans (by simp))
 rintro e w1 ⟨rfl, hb⟩
 go_wp2_with fail
 go_ret
 exact ⟨by rw [← HH.out]; rfl, below_step (by repeat (first | exact Below.refl _ _ | apply bA_ | apply bN_ | apply bD_)) hb⟩
end Go.Proofs.YteaagaekdkolnaaGreatDoor.P

namespace Go.Proofs.YteaagaekdkolnaaGreatDoor.P
open Go.RowKit Go.Proofs.YteaagaekdkolnaaGreatDoorW.PrintWords Go.Proofs.YteaagaekdkolnaaGreatDoorW.PrintLast Go.Proofs.YteaagaekdkolnaaGreatDoorW.PrintMore
attribute [local go_sem] max2_int min2_int max_two min_two max_three min_three max_four min_four   -- for this text's walks alone
set_option linter.unusedVariables false
set_option linter.unusedSimpArgs false
/-! ### impl_triplesOf: function 38 -/
mutual
def impl_triplesOf.l0 : Nat → Int → List (S59) → Int → Option ((List (S59)))
 | 0, _, _, _ => none
 | k + 1, x0, x3, x4 => if x4 < x0 then (impl_triplesOf.l1 k x0 x3 x4 (wrap64 (x4 + 1))) else (some x3)
def impl_triplesOf.l1 : Nat → Int → List (S59) → Int → Int → Option ((List (S59)))
 | 0, _, _, _, _ => none
 | k + 1, x0, x3, x4, x5 => if x5 < x0 then (impl_triplesOf.l2 k x0 x3 x4 x5 (wrap64 (x5 + 1))) else (impl_triplesOf.l0 k x0 x3 (wrap64 (x4 + 1)))
def impl_triplesOf.l2 : Nat → Int → List (S59) → Int → Int → Int → Option ((List (S59)))
 | 0, _, _, _, _, _ => none
 | k + 1, x0, x3, x4, x5, x6 => if x6 < x0 then (if x3.length < 5864062014805 then (impl_triplesOf.l2 k x0 (x3 ++ [(⟨x4, x5, x6⟩ : S59)]) x4 x5 (wrap64 (x6 + 1))) else (none)) else (impl_triplesOf.l1 k x0 x3 x4 (wrap64 (x5 + 1)))
end
def impl_triplesOf.f (k : Nat) (a0 : Int) : Option ((List (S59))) := impl_triplesOf.l0 k a0 ([] : List (S59)) 0
theorem impl_triplesOf.mono_l : ∀ k, (∀ y0 y1 y2, LeO (impl_triplesOf.l0 k y0 y1 y2) (impl_triplesOf.l0 (k + 1) y0 y1 y2)) ∧ (∀ y0 y1 y2 y3, LeO (impl_triplesOf.l1 k y0 y1 y2 y3) (impl_triplesOf.l1 (k + 1) y0 y1 y2 y3)) ∧ (∀ y0 y1 y2 y3 y4, LeO (impl_triplesOf.l2 k y0 y1 y2 y3 y4) (impl_triplesOf.l2 (k + 1) y0 y1 y2 y3 y4))
 | 0 => ⟨fun _ _ _ r h => by simp [impl_triplesOf.l0] at h, fun _ _ _ _ r h => by simp [impl_triplesOf.l1] at h, fun _ _ _ _ _ r h => by simp [impl_triplesOf.l2] at h⟩
 | k + 1 => by
  obtain ⟨ih0, ih1, ih2⟩ := impl_triplesOf.mono_l k
  refine ⟨?_, ?_, ?_⟩ <;> (intros; (first | unfold impl_triplesOf.l0 | unfold impl_triplesOf.l1 | unfold impl_triplesOf.l2); repeat' (with_reducible first | exact ih0 _ _ _ | exact ih1 _ _ _ _ | exact ih2 _ _ _ _ _ | exact LeO.refl _ | exact LeO.none _ | refine LeO.ite ?_ ?_ | refine LeO.bind ?_ (fun _ => ?_)))
theorem impl_triplesOf.mono : ∀ a0 k, LeO (impl_triplesOf.f k a0) (impl_triplesOf.f (k + 1) a0) := by
 intro a0 k
 obtain ⟨ih0, ih1, ih2⟩ := impl_triplesOf.mono_l k
 unfold impl_triplesOf.f
 repeat' first
   | (with_reducible exact ih0 _ _ _)
   | (with_reducible exact ih1 _ _ _ _)
   | (with_reducible exact ih2 _ _ _ _ _)
   | (with_reducible exact LeO.refl _)
   | (with_reducible exact LeO.none _)
   | (with_reducible refine LeO.ite ?_ ?_)
   | (with_reducible refine LeO.bind ?_ (fun _ => ?_))
set_option maxHeartbeats 8000000 in
set_option maxRecDepth 100000 in
theorem impl_triplesOf.calls (k : Nat) (a0 : Int) (r : List (S59)) (w : World) (h : impl_triplesOf.f k a0 = some r) :
  Calls Tryz.prog 38 #[.int .i64 a0] w fun e w' => ∃ v0_ : Value, e = .returned (v0_) ∧ Kd.R k59 59 w' w.heap.size (fun _ => True) v0_ r ∧ Below w.heap.size w w' := by
 have hu59 := Tryz.underlying59
 have HB := aM_ (Below.refl w.heap.size w)
 have H : (impl_triplesOf.l0 k a0 ([] : List (S59)) 0) = some r := h
 clear h
 have H' := aM_ H
 clear H
 go_enter Tryz.func38, Tryz.ntmps38
 go_wp2
 go_loopg [3, 4] k (fun kq v3 v4 w' => ∃ (x3_1 : List (S59)) (x4_1 : Int), v4 = .int .i64 x4_1 ∧ Aside0 (impl_triplesOf.l0 kq a0 x3_1 x4_1 = some r) ∧ Aside0 (kq ≤ k) ∧ Aside0 (Kd.R k59 59 w' w.heap.size (fun _ => True) v3 x3_1) ∧ Aside0 (Below w.heap.size w w'))
 case atStart => exact ⟨(([] : List (S59))), (0), veq_, H', ⟨Nat.le_refl _⟩, ⟨by first | exact Kd.R_nil _ _ _ _ _ | exact Kd.N_nil _ _ _ _ _ | exact Kd.V_nil _ _ _ _ _ | exact Kd.Q_nil _ _ _ _ _ | exact Kd.S_nil _ _ _ _ _⟩, ⟨bB_ HB⟩⟩
 case round =>
  clear H'
  obtain ⟨x3_1, x4_1, rfl, HA, HK1, HO_3, HB⟩ := hrel
  cases gk with
  | zero => exact absurd HA.out (by simp [impl_triplesOf.l0])
  | succ k1 =>
   have H := HA.out
   clear HA
   simp only [impl_triplesOf.l0] at H
   rcases ifd_ H with ⟨c2b0, H⟩ | ⟨c2b0, H⟩
   ·have H' := aM_ H
    clear H
    go_wp2
    go_loopg [3, 5] k1 (fun kq v3 v5 w' => ∃ (x3_2 : List (S59)) (x5_2 : Int), v5 = .int .i64 x5_2 ∧ Aside0 (impl_triplesOf.l1 kq a0 x3_2 x4_1 x5_2 = some r) ∧ Aside0 (kq ≤ k1) ∧ Aside0 (Kd.R k59 59 w' w.heap.size (fun _ => True) v3 x3_2) ∧ Aside0 (Below w.heap.size w w'))
    case atStart => exact ⟨(x3_1), (wrap64 (x4_1 + 1)), veq_, H', ⟨Nat.le_refl _⟩, ⟨kr_ HO_3⟩, ⟨bB_ HB⟩⟩
    case round =>
     clear H'
     try clear c2b0
     obtain ⟨x3_2, x5_2, rfl, HA, HK2, HO_3, HB⟩ := hrel
     cases gk with
     | zero => exact absurd HA.out (by simp [impl_triplesOf.l1])
     | succ k2 =>
      have H := HA.out
      clear HA
      simp only [impl_triplesOf.l1] at H
      rcases ifd_ H with ⟨c3b0, H⟩ | ⟨c3b0, H⟩
      ·have H' := aM_ H
       clear H
       go_wp2
       go_loopg [3, 6] k2 (fun kq v3 v6 w' => ∃ (x3_3 : List (S59)) (x6_3 : Int), v6 = .int .i64 x6_3 ∧ Aside0 (impl_triplesOf.l2 kq a0 x3_3 x4_1 x5_2 x6_3 = some r) ∧ Aside0 (kq ≤ k2) ∧ Aside0 (Kd.R k59 59 w' w.heap.size (fun _ => True) v3 x3_3) ∧ Aside0 (Below w.heap.size w w'))
       case atStart => exact ⟨(x3_2), (wrap64 (x5_2 + 1)), veq_, H', ⟨Nat.le_refl _⟩, ⟨kr_ HO_3⟩, ⟨bB_ HB⟩⟩
       case round =>
        clear H'
        try clear c2b0
        try clear c3b0
        obtain ⟨x3_3, x6_3, rfl, HA, HK3, HO_3, HB⟩ := hrel
        cases gk with
        | zero => exact absurd HA.out (by simp [impl_triplesOf.l2])
        | succ k3 =>
         have H := HA.out
         clear HA
         simp only [impl_triplesOf.l2] at H
         rcases ifd_ H with ⟨c4b0, H⟩ | ⟨c4b0, H⟩
         ·obtain ⟨c5, H⟩ := ifp_ H
          have LMc5 := aM_ c5
          clear c5
          obtain ⟨y101, hy101⟩ : ∃ y_ : List (S59), y_ = (x3_3 ++ [(⟨x4_1, x5_2, x6_3⟩ : S59)]) := ⟨_, rfl⟩
          replace H : (impl_triplesOf.l2 k3 a0 y101 x4_1 x5_2 (wrap64 (x6_3 + 1))) = some r := by first | (rw [hy101]; with_reducible exact H) | (have H2_ := (Option.bind_some _ _).symm.trans H; rw [hy101]; with_reducible exact H2_) | (have H2_ := (Option.bind_some _ _).symm.trans H; with_reducible exact H2_) | with_reducible exact H | (rw [hy101]; exact H) | exact H
          have Ny101 := aM_ hy101
          clear hy101
          have H' := aM_ H
          clear H
          go_wp2_with (first | ((with_reducible refine gate_builtin (b := .append) (xs := #[.tmp 26, .tmp 31]) rfl ?_); at_builtin; refine Kd.R_append k59 (w0 := w) w.heap.size rfl (.tmp 26) (.tmp 31) 57 59 (.agg #[(.int .i64 0), (.int .i64 0), (.int .i64 0)]) 24 rfl Tryz.underlying57 info59 rfl (by decide) (by omega) u3 x3_3 (⟨x4_1, x5_2, x6_3⟩ : S59) [.int .i64 x4_1, .int .i64 x5_2, .int .i64 x6_3] (fun _ => True) (fun _ => False) rfl rfl ?aP (fun _ hk => hk.elim) ?aF ?aO ?aB ?aS ?aL ?_; (case aP => exact k59_mkM _ _ _ (⟨x4_1, x5_2, x6_3⟩ : S59)); (case aB => exact (bB_ HB)); (case aF => exact (fun _ _ => trivial)); (case aO => exact (kr_ HO_3)); (case aS => exact (below_size (bB_ HB))); (case aL => have := LMc5.out; omega); intro v102 w6 ho hb hg hat; rw [← Ny101.out] at ho; replace HB := aM_ (hb); have HO103 := aM_ (ho); clear HO_3; clear ho hb hg hat))
          go_roundg k3
          case measure => have := HK1.out; have := HK2.out; have := HK3.out; omega
          case rel => exact ⟨(y101), (wrap64 (x6_3 + 1)), veq_, H', ⟨by have := HK1.out; have := HK2.out; have := HK3.out; omega⟩, ⟨kr_ HO103⟩, ⟨bB_ HB⟩⟩
         ·have H' := aM_ H
          clear H
          go_wp2
          go_roundg k3
          case measure => have := HK1.out; have := HK2.out; have := HK3.out; omega
          case rel => exact ⟨(x3_3), (wrap64 (x5_2 + 1)), veq_, H', ⟨by have := HK1.out; have := HK2.out; have := HK3.out; omega⟩, ⟨kr_ HO_3⟩, ⟨bB_ HB⟩⟩
      ·have H' := aM_ H
       clear H
       go_wp2
       go_roundg k2
       case measure => have := HK1.out; have := HK2.out; omega
       case rel => exact ⟨(x3_2), (wrap64 (x4_1 + 1)), veq_, H', ⟨by have := HK1.out; have := HK2.out; omega⟩, ⟨kr_ HO_3⟩, ⟨bB_ HB⟩⟩
   ·obtain rfl := Option.some.inj H
    go_wp2
    go_ret
    exact ⟨_, verr_, kr_ HO_3, bB_ HB⟩
end Go.Proofs.YteaagaekdkolnaaGreatDoor.P

namespace Go.Proofs.YteaagaekdkolnaaGreatDoor.P
open Go.RowKit Go.Proofs.YteaagaekdkolnaaGreatDoorW.PrintWords Go.Proofs.YteaagaekdkolnaaGreatDoorW.PrintLast Go.Proofs.YteaagaekdkolnaaGreatDoorW.PrintMore
attribute [local go_sem] max2_int min2_int max_two min_two max_three min_three max_four min_four   -- for this text's walks alone
set_option linter.unusedVariables false
set_option linter.unusedSimpArgs false
/-! ### cmp_isNaN_int: function 90 -/
def cmp_isNaN_int.f (a0 : Int) : Option (Bool) := some (a0 != a0)
set_option maxHeartbeats 8000000 in
set_option maxRecDepth 100000 in
theorem cmp_isNaN_int.calls (a0 : Int) (r : Bool) (w : World) (h : cmp_isNaN_int.f a0 = some r) :
  Calls Tryz.prog 90 #[.int .i64 a0] w fun e w' => e = .returned (.bool r) ∧ Drawn0 w w' := by
 have H : (some (a0 != a0)) = some r := h
 clear h
 obtain rfl := Option.some.inj H
 go_enter Tryz.func90, Tryz.ntmps90
 go_wp2
 go_ret
 exact ⟨veq_, by repeat (first | exact Drawn0.refl _ | apply Drawn0.step)⟩
end Go.Proofs.YteaagaekdkolnaaGreatDoor.P

namespace Go.Proofs.YteaagaekdkolnaaGreatDoor.P
open Go.RowKit Go.Proofs.YteaagaekdkolnaaGreatDoorW.PrintWords Go.Proofs.YteaagaekdkolnaaGreatDoorW.PrintLast Go.Proofs.YteaagaekdkolnaaGreatDoorW.PrintMore
attribute [local go_sem] max2_int min2_int max_two min_two max_three min_three max_four min_four   -- for this text's walks alone
set_option linter.unusedVariables false
set_option linter.unusedSimpArgs false
/-! ### cmp_Compare_int: function 75 -/
def cmp_Compare_int.f (a0 : Int) (a1 : Int) : Option (Int) := (cmp_isNaN_int.f a0).bind fun t101 => ((cmp_isNaN_int.f a1).bind fun t102 => (if t101 = true then (if t102 = true then (some 0) else (some (-1))) else (if t102 = true then (some 1) else (if a0 < a1 then (some (-1)) else (if a0 > a1 then (some 1) else (some 0))))))
set_option maxHeartbeats 8000000 in
set_option maxRecDepth 100000 in
theorem cmp_Compare_int.calls (a0 : Int) (a1 : Int) (r : Int) (w : World) (h : cmp_Compare_int.f a0 a1 = some r) :
  Calls Tryz.prog 75 #[.int .i64 a0, .int .i64 a1] w fun e w' => e = .returned (.int .i64 r) ∧ Drawn0 w w' := by
 have H : ((cmp_isNaN_int.f a0).bind fun t101 => ((cmp_isNaN_int.f a1).bind fun t102 => (if t101 = true then (if t102 = true then (some 0) else (some (-1))) else (if t102 = true then (some 1) else (if a0 < a1 then (some (-1)) else (if a0 > a1 then (some 1) else (some 0))))))) = some r := h
 clear h
 replace H := oB_ H
 obtain ⟨t101, A30, H⟩ := H
 have A3 := aM_ A30
 clear A30
 replace H := oB_ H
 obtain ⟨t102, A40, H⟩ := H
 have A4 := aM_ A40
 clear A40
 by_cases c5 : t101 = true
 ·subst c5
  rw [if_pos rfl] at H
  by_cases c6 : t102 = true
  ·subst c6
   rw [if_pos rfl] at H
   obtain rfl := Option.some.inj H
   go_enter Tryz.func75, Tryz.ntmps75
   go_wp2_with (first | ((with_reducible refine gate_callee (f := 90) rfl ?_); refine goesM_ (some 8) Tryz.func90 #[.int .i64 a0] ?_; (with_reducible refine (cmp_isNaN_int.calls a0 true _ A3.out).mono ?_); rintro e w' ⟨rfl, ⟨nd, rfl⟩⟩; refine ⟨_, rfl, ?_⟩) | ((with_reducible refine gate_callee (f := 90) rfl ?_); refine goesM_ (some 10) Tryz.func90 #[.int .i64 a1] ?_; (with_reducible refine (cmp_isNaN_int.calls a1 true _ A4.out).mono ?_); rintro e w' ⟨rfl, ⟨nd, rfl⟩⟩; refine ⟨_, rfl, ?_⟩))
   go_ret
   exact ⟨veq_, by repeat (first | exact Drawn0.refl _ | apply Drawn0.step)⟩
  ·replace c6 := Bool.eq_false_iff.mpr c6
   subst c6
   rw [if_neg (show ¬ (false = true) by decide)] at H
   obtain rfl := Option.some.inj H
   go_enter Tryz.func75, Tryz.ntmps75
   go_wp2_with (first | ((with_reducible refine gate_callee (f := 90) rfl ?_); refine goesM_ (some 8) Tryz.func90 #[.int .i64 a0] ?_; (with_reducible refine (cmp_isNaN_int.calls a0 true _ A3.out).mono ?_); rintro e w' ⟨rfl, ⟨nd, rfl⟩⟩; refine ⟨_, rfl, ?_⟩) | ((with_reducible refine gate_callee (f := 90) rfl ?_); refine goesM_ (some 10) Tryz.func90 #[.int .i64 a1] ?_; (with_reducible refine (cmp_isNaN_int.calls a1 false _ A4.out).mono ?_); rintro e w' ⟨rfl, ⟨nd, rfl⟩⟩; refine ⟨_, rfl, ?_⟩))
   go_ret
   exact ⟨veq_, by repeat (first | exact Drawn0.refl _ | apply Drawn0.step)⟩
 ·replace c5 := Bool.eq_false_iff.mpr c5
  subst c5
  rw [if_neg (show ¬ (false = true) by decide)] at H
  by_cases c7 : t102 = true
  ·subst c7
   rw [if_pos rfl] at H
   obtain rfl := Option.some.inj H
   go_enter Tryz.func75, Tryz.ntmps75
   go_wp2_with (first | ((with_reducible refine gate_callee (f := 90) rfl ?_); refine goesM_ (some 8) Tryz.func90 #[.int .i64 a0] ?_; (with_reducible refine (cmp_isNaN_int.calls a0 false _ A3.out).mono ?_); rintro e w' ⟨rfl, ⟨nd, rfl⟩⟩; refine ⟨_, rfl, ?_⟩) | ((with_reducible refine gate_callee (f := 90) rfl ?_); refine goesM_ (some 10) Tryz.func90 #[.int .i64 a1] ?_; (with_reducible refine (cmp_isNaN_int.calls a1 true _ A4.out).mono ?_); rintro e w' ⟨rfl, ⟨nd, rfl⟩⟩; refine ⟨_, rfl, ?_⟩))
   go_ret
   exact ⟨veq_, by repeat (first | exact Drawn0.refl _ | apply Drawn0.step)⟩
  ·replace c7 := Bool.eq_false_iff.mpr c7
   subst c7
   rw [if_neg (show ¬ (false = true) by decide)] at H
   rcases ifd_ H with ⟨c8b0, H⟩ | ⟨c8b0, H⟩
   ·obtain rfl := Option.some.inj H
    go_enter Tryz.func75, Tryz.ntmps75
    go_wp2_with (first | ((with_reducible refine gate_callee (f := 90) rfl ?_); refine goesM_ (some 8) Tryz.func90 #[.int .i64 a0] ?_; (with_reducible refine (cmp_isNaN_int.calls a0 false _ A3.out).mono ?_); rintro e w' ⟨rfl, ⟨nd, rfl⟩⟩; refine ⟨_, rfl, ?_⟩) | ((with_reducible refine gate_callee (f := 90) rfl ?_); refine goesM_ (some 10) Tryz.func90 #[.int .i64 a1] ?_; (with_reducible refine (cmp_isNaN_int.calls a1 false _ A4.out).mono ?_); rintro e w' ⟨rfl, ⟨nd, rfl⟩⟩; refine ⟨_, rfl, ?_⟩))
    go_ret
    exact ⟨veq_, by repeat (first | exact Drawn0.refl _ | apply Drawn0.step)⟩
   ·rcases ifd_ H with ⟨c9b0, H⟩ | ⟨c9b0, H⟩
    ·obtain rfl := Option.some.inj H
     go_enter Tryz.func75, Tryz.ntmps75
     go_wp2_with (first | ((with_reducible refine gate_callee (f := 90) rfl ?_); refine goesM_ (some 8) Tryz.func90 #[.int .i64 a0] ?_; (with_reducible refine (cmp_isNaN_int.calls a0 false _ A3.out).mono ?_); rintro e w' ⟨rfl, ⟨nd, rfl⟩⟩; refine ⟨_, rfl, ?_⟩) | ((with_reducible refine gate_callee (f := 90) rfl ?_); refine goesM_ (some 10) Tryz.func90 #[.int .i64 a1] ?_; (with_reducible refine (cmp_isNaN_int.calls a1 false _ A4.out).mono ?_); rintro e w' ⟨rfl, ⟨nd, rfl⟩⟩; refine ⟨_, rfl, ?_⟩))
     go_ret
     exact ⟨veq_, by repeat (first | exact Drawn0.refl _ | apply Drawn0.step)⟩
    ·obtain rfl := Option.some.inj H
     go_enter Tryz.func75, Tryz.ntmps75
     go_wp2_with (first | ((with_reducible refine gate_callee (f := 90) rfl ?_); refine goesM_ (some 8) Tryz.func90 #[.int .i64 a0] ?_; (with_reducible refine (cmp_isNaN_int.calls a0 false _ A3.out).mono ?_); rintro e w' ⟨rfl, ⟨nd, rfl⟩⟩; refine ⟨_, rfl, ?_⟩) | ((with_reducible refine gate_callee (f := 90) rfl ?_); refine goesM_ (some 10) Tryz.func90 #[.int .i64 a1] ?_; (with_reducible refine (cmp_isNaN_int.calls a1 false _ A4.out).mono ?_); rintro e w' ⟨rfl, ⟨nd, rfl⟩⟩; refine ⟨_, rfl, ?_⟩))
     go_ret
     exact ⟨veq_, by repeat (first | exact Drawn0.refl _ | apply Drawn0.step)⟩
end Go.Proofs.YteaagaekdkolnaaGreatDoor.P

namespace Go.Proofs.YteaagaekdkolnaaGreatDoor.P
open Go.RowKit Go.Proofs.YteaagaekdkolnaaGreatDoorW.PrintWords Go.Proofs.YteaagaekdkolnaaGreatDoorW.PrintLast Go.Proofs.YteaagaekdkolnaaGreatDoorW.PrintMore
attribute [local go_sem] max2_int min2_int max_two min_two max_three min_three max_four min_four   -- for this text's walks alone
set_option linter.unusedVariables false
set_option linter.unusedSimpArgs false
/-! ### impl_signOf: function 59 -/
def impl_signOf.f (a0 : Int) : Option (Int) := (cmp_Compare_int.f a0 0).bind fun t101 => (some t101)
set_option maxHeartbeats 8000000 in
set_option maxRecDepth 100000 in
theorem impl_signOf.calls (a0 : Int) (r : Int) (w : World) (h : impl_signOf.f a0 = some r) :
  Calls Tryz.prog 59 #[.int .i64 a0] w fun e w' => e = .returned (.int .i64 r) ∧ Drawn0 w w' := by
 have H : ((cmp_Compare_int.f a0 0).bind fun t101 => (some t101)) = some r := h
 clear h
 replace H := oB_ H
 obtain ⟨t101, A20, H⟩ := H
 have A2 := aM_ A20
 clear A20
 obtain rfl := Option.some.inj H
 go_enter Tryz.func59, Tryz.ntmps59
 go_wp2_with (first | ((with_reducible refine gate_callee (f := 75) rfl ?_); refine goesM_ (some 4) Tryz.func75 #[.int .i64 a0, .int .i64 0] ?_; (with_reducible refine (cmp_Compare_int.calls a0 0 t101 _ A2.out).mono ?_); rintro e w' ⟨rfl, ⟨nd, rfl⟩⟩; refine ⟨_, rfl, ?_⟩))
 go_ret
 exact ⟨veq_, by repeat (first | exact Drawn0.refl _ | apply Drawn0.step)⟩
end Go.Proofs.YteaagaekdkolnaaGreatDoor.P

namespace Go.Proofs.YteaagaekdkolnaaGreatDoor.P
open Go.RowKit Go.Proofs.YteaagaekdkolnaaGreatDoorW.PrintWords Go.Proofs.YteaagaekdkolnaaGreatDoorW.PrintLast Go.Proofs.YteaagaekdkolnaaGreatDoorW.PrintMore
attribute [local go_sem] max2_int min2_int max_two min_two max_three min_three max_four min_four   -- for this text's walks alone
set_option linter.unusedVariables false
set_option linter.unusedSimpArgs false
/-! ### impl_area: function 60 -/
def impl_area.f (a0_0 : Int) (a0_1 : Int) (a1_0 : Int) (a1_1 : Int) (a2_0 : Int) (a2_1 : Int) : Option (Int) := some (wrap64 ((wrap64 ((wrap64 (a1_0 - a0_0)) * (wrap64 (a2_1 - a0_1)))) - (wrap64 ((wrap64 (a1_1 - a0_1)) * (wrap64 (a2_0 - a0_0))))))
set_option maxHeartbeats 8000000 in
set_option maxRecDepth 100000 in
theorem impl_area.calls (a0_0 : Int) (a0_1 : Int) (a1_0 : Int) (a1_1 : Int) (a2_0 : Int) (a2_1 : Int) (r : Int) (w : World) (h : impl_area.f a0_0 a0_1 a1_0 a1_1 a2_0 a2_1 = some r) :
  Calls Tryz.prog 60 #[.agg #[.int .i64 a0_0, .int .i64 a0_1], .agg #[.int .i64 a1_0, .int .i64 a1_1], .agg #[.int .i64 a2_0, .int .i64 a2_1]] w fun e w' => e = .returned (.int .i64 r) ∧ Below w.heap.size w w' := by
 have hu34 := Tryz.underlying34
 have HB := aM_ (Below.refl w.heap.size w)
 have H : (some (wrap64 ((wrap64 ((wrap64 (a1_0 - a0_0)) * (wrap64 (a2_1 - a0_1)))) - (wrap64 ((wrap64 (a1_1 - a0_1)) * (wrap64 (a2_0 - a0_0))))))) = some r := h
 clear h
 obtain rfl := Option.some.inj H
 go_enter Tryz.func60, Tryz.ntmps60
 go_wp2_with (first | ((with_reducible refine gate_dst (N := 3) rfl ?_); refine boxE_ (N := 3) #[.int .i64 a0_0, .int .i64 a0_1] 34 ?_; intro gb101 hg w4 hbox hb; have BK101 := aM_ (hbox); have GW101 := aM_ ((bs_ HB hg)); have GE101 := aM_ ((bs_ HB hg)); replace HB := aM_ (below_step (bB_ HB) hb); clear hb hbox hg) | ((with_reducible refine gate_dst (N := 4) rfl ?_); refine boxE_ (N := 4) #[.int .i64 a1_0, .int .i64 a1_1] 34 ?_; intro gb102 hg w5 hbox hb; have BK102 := aM_ (hbox); have GW102 := aM_ ((bs_ HB hg)); have GE102 := aM_ ((bs_ HB hg)); replace HB := aM_ (below_step (bB_ HB) hb); have NB101_102 := aM_ ((bnl_ BK101 hg)); have NB102_101 := aM_ ((bng_ BK101 hg)); replace BK101 := aM_ (bkb_ BK101 hb); clear hb hbox hg) | ((with_reducible refine gate_dst (N := 5) rfl ?_); refine boxE_ (N := 5) #[.int .i64 a2_0, .int .i64 a2_1] 34 ?_; intro gb103 hg w6 hbox hb; have BK103 := aM_ (hbox); have GW103 := aM_ ((bs_ HB hg)); have GE103 := aM_ ((bs_ HB hg)); replace HB := aM_ (below_step (bB_ HB) hb); have NB101_103 := aM_ ((bnl_ BK101 hg)); have NB103_101 := aM_ ((bng_ BK101 hg)); replace BK101 := aM_ (bkb_ BK101 hb); have NB102_103 := aM_ ((bnl_ BK102 hg)); have NB103_102 := aM_ ((bng_ BK102 hg)); replace BK102 := aM_ (bkb_ BK102 hb); clear hb hbox hg; have hnb7 := NB102_101.out; have hnc7 := NB101_102.out; have hnb8 := NB102_103.out; have hnc8 := NB103_102.out; have hcz9_0 := bc_ BK102 0; have hcz9_1 := bc_ BK102 1; have hfz9_0 := blk_frozen BK102.out 0; have hfz9_1 := blk_frozen BK102.out 1; have hnb10 := NB101_103.out; have hnc10 := NB103_101.out; have hcz11_0 := bc_ BK101 0; have hcz11_1 := bc_ BK101 1; have hfz11_0 := blk_frozen BK101.out 0; have hfz11_1 := blk_frozen BK101.out 1; have hcz12_0 := bc_ BK103 0; have hcz12_1 := bc_ BK103 1; have hfz12_0 := blk_frozen BK103.out 0; have hfz12_1 := blk_frozen BK103.out 1))
 go_ret
 exact ⟨verr_, bB_ HB⟩
end Go.Proofs.YteaagaekdkolnaaGreatDoor.P

namespace Go.Proofs.YteaagaekdkolnaaGreatDoor.P
open Go.RowKit Go.Proofs.YteaagaekdkolnaaGreatDoorW.PrintWords Go.Proofs.YteaagaekdkolnaaGreatDoorW.PrintLast Go.Proofs.YteaagaekdkolnaaGreatDoorW.PrintMore
attribute [local go_sem] max2_int min2_int max_two min_two max_three min_three max_four min_four   -- for this text's walks alone
set_option linter.unusedVariables false
set_option linter.unusedSimpArgs false
/-! ### impl_TurnOf: function 39 -/
def impl_TurnOf.f (a0_0 : Int) (a0_1 : Int) (a1_0 : Int) (a1_1 : Int) (a2_0 : Int) (a2_1 : Int) : Option (Int) := (impl_areNear.f 1000 (([(⟨a0_0, a0_1⟩ : S34), (⟨a1_0, a1_1⟩ : S34), (⟨a2_0, a2_1⟩ : S34)] : List (S34)))).bind fun t107 => (if t107 = true then ((impl_area.f a0_0 a0_1 a1_0 a1_1 a2_0 a2_1).bind fun t108 => ((impl_signOf.f t108).bind fun t109 => (some t109))) else (some 0))
set_option maxHeartbeats 8000000 in
set_option maxRecDepth 100000 in
theorem impl_TurnOf.calls (a0_0 : Int) (a0_1 : Int) (a1_0 : Int) (a1_1 : Int) (a2_0 : Int) (a2_1 : Int) (r : Int) (w : World) (h : impl_TurnOf.f a0_0 a0_1 a1_0 a1_1 a2_0 a2_1 = some r) :
  Calls Tryz.prog 39 #[.agg #[.int .i64 a0_0, .int .i64 a0_1], .agg #[.int .i64 a1_0, .int .i64 a1_1], .agg #[.int .i64 a2_0, .int .i64 a2_1]] w fun e w' => e = .returned (.int .i64 r) ∧ Below w.heap.size w w' := by
 have hu34 := Tryz.underlying34
 have HB := aM_ (Below.refl w.heap.size w)
 have H : ((impl_areNear.f 1000 (([(⟨a0_0, a0_1⟩ : S34), (⟨a1_0, a1_1⟩ : S34), (⟨a2_0, a2_1⟩ : S34)] : List (S34)))).bind fun t107 => (if t107 = true then ((impl_area.f a0_0 a0_1 a1_0 a1_1 a2_0 a2_1).bind fun t108 => ((impl_signOf.f t108).bind fun t109 => (some t109))) else (some 0))) = some r := h
 clear h
 obtain ⟨y104, hy104⟩ : ∃ y_ : List (S34), y_ = (([(⟨a0_0, a0_1⟩ : S34), (⟨a1_0, a1_1⟩ : S34), (⟨a2_0, a2_1⟩ : S34)] : List (S34))) := ⟨_, rfl⟩
 replace H : ((impl_areNear.f 1000 y104).bind fun t107 => (if t107 = true then ((impl_area.f a0_0 a0_1 a1_0 a1_1 a2_0 a2_1).bind fun t108 => ((impl_signOf.f t108).bind fun t109 => (some t109))) else (some 0))) = some r := by first | (rw [hy104]; with_reducible exact H) | (have H2_ := (Option.bind_some _ _).symm.trans H; rw [hy104]; with_reducible exact H2_) | (have H2_ := (Option.bind_some _ _).symm.trans H; with_reducible exact H2_) | with_reducible exact H | (rw [hy104]; exact H) | exact H
 have Ny104 := aM_ hy104
 clear hy104
 replace H := oB_ H
 obtain ⟨t107, A40, H⟩ := H
 have A4 := aM_ A40
 clear A40
 by_cases c5 : t107 = true
 ·subst c5
  rw [if_pos rfl] at H
  replace H := oB_ H
  obtain ⟨t108, A60, H⟩ := H
  have A6 := aM_ A60
  clear A60
  replace H := oB_ H
  obtain ⟨t109, A70, H⟩ := H
  have A7 := aM_ A70
  clear A70
  obtain rfl := Option.some.inj H
  go_enter Tryz.func39, Tryz.ntmps39
  go_wp2_with (first | ((with_reducible refine gate_dst (N := 3) rfl ?_); refine boxE_ (N := 3) #[.int .i64 a0_0, .int .i64 a0_1] 34 ?_; intro gb101 hg w8 hbox hb; have BK101 := aM_ (hbox); have GW101 := aM_ ((bs_ HB hg)); have GE101 := aM_ ((bs_ HB hg)); replace HB := aM_ (below_step (bB_ HB) hb); clear hb hbox hg) | ((with_reducible refine gate_dst (N := 4) rfl ?_); refine boxE_ (N := 4) #[.int .i64 a1_0, .int .i64 a1_1] 34 ?_; intro gb102 hg w9 hbox hb; have BK102 := aM_ (hbox); have GW102 := aM_ ((bs_ HB hg)); have GE102 := aM_ ((bs_ HB hg)); replace HB := aM_ (below_step (bB_ HB) hb); have NB101_102 := aM_ ((bnl_ BK101 hg)); have NB102_101 := aM_ ((bng_ BK101 hg)); replace BK101 := aM_ (bkb_ BK101 hb); clear hb hbox hg) | ((with_reducible refine gate_dst (N := 5) rfl ?_); refine boxE_ (N := 5) #[.int .i64 a2_0, .int .i64 a2_1] 34 ?_; intro gb103 hg w10 hbox hb; have BK103 := aM_ (hbox); have GW103 := aM_ ((bs_ HB hg)); have GE103 := aM_ ((bs_ HB hg)); replace HB := aM_ (below_step (bB_ HB) hb); have NB101_103 := aM_ ((bnl_ BK101 hg)); have NB103_101 := aM_ ((bng_ BK101 hg)); replace BK101 := aM_ (bkb_ BK101 hb); have NB102_103 := aM_ ((bnl_ BK102 hg)); have NB103_102 := aM_ ((bng_ BK102 hg)); replace BK102 := aM_ (bkb_ BK102 hb); clear hb hbox hg; have hnb11 := NB101_102.out; have hnc11 := NB102_101.out; have hnb12 := NB101_103.out; have hnc12 := NB103_101.out; have hcz13_0 := bc_ BK101 0; have hcz13_1 := bc_ BK101 1; have hfz13_0 := blk_frozen BK101.out 0; have hfz13_1 := blk_frozen BK101.out 1; have hnb14 := NB102_103.out; have hnc14 := NB103_102.out; have hcz15_0 := bc_ BK102 0; have hcz15_1 := bc_ BK102 1; have hfz15_0 := blk_frozen BK102.out 0; have hfz15_1 := blk_frozen BK102.out 1; have hcz16_0 := bc_ BK103 0; have hcz16_1 := bc_ BK103 1; have hfz16_0 := blk_frozen BK103.out 0; have hfz16_1 := blk_frozen BK103.out 1) | ((with_reducible refine gate_dst (N := 10) rfl ?_); refine Kd.R_lit k34 _ 34 ?hg (N := 10) ?hd (xs := ([(⟨a0_0, a0_1⟩ : S34), (⟨a1_0, a1_1⟩ : S34), (⟨a2_0, a2_1⟩ : S34)] : List (S34))) (inner := [.int .i64 a0_0, .int .i64 a0_1, .int .i64 a1_0, .int .i64 a1_1, .int .i64 a2_0, .int .i64 a2_1]) (ok := fun _ => True) (okp := fun _ => True) ?hr ?hp (fun _ hk => hk) trivial (Below.refl _ _) (Nat.le_refl _) (by simp) ?_; (case hd => rfl); (case hg => rfl); (case hr => first | (go_simp; done) | (go_simp; rfl)); (case hp => exact (Reps.c2 (show Kd.M k34 _ _ _ (⟨a0_0, a0_1⟩ : S34) [.int .i64 a0_0, .int .i64 a0_1] from (k34_mkM _ _ _ (⟨a0_0, a0_1⟩ : S34) )) (Reps.c2 (show Kd.M k34 _ _ _ (⟨a1_0, a1_1⟩ : S34) [.int .i64 a1_0, .int .i64 a1_1] from (k34_mkM _ _ _ (⟨a1_0, a1_1⟩ : S34) )) (Reps.c2 (show Kd.M k34 _ _ _ (⟨a2_0, a2_1⟩ : S34) [.int .i64 a2_0, .int .i64 a2_1] from (k34_mkM _ _ _ (⟨a2_0, a2_1⟩ : S34) )) (Reps.none _ _))))); intro v105 w17 ho18 hb hg_ hnew_; clear hg_ hnew_; (first | rw [← Ny104.out] at ho18 | (simp only [Int.reduceToNat] at ho18; rw [← Ny104.out] at ho18)); have HO106 := aM_ (Kd.R_lower (Kd.R_newB (Kd.R_newB (Kd.R_newB ho18 (g := gb101) (o := .cells #[.int .i64 a0_0, .int .i64 a0_1] 34 (0, 0)) (bk_ BK101)) (g := gb102) (o := .cells #[.int .i64 a1_0, .int .i64 a1_1] 34 (0, 0)) (bk_ BK102)) (g := gb103) (o := .cells #[.int .i64 a2_0, .int .i64 a2_1] 34 (0, 0)) (bk_ BK103)) (below_size (bB_ HB))); replace BK101 := aM_ (bkb_ BK101 hb); replace BK102 := aM_ (bkb_ BK102 hb); replace BK103 := aM_ (bkb_ BK103 hb); replace HB := aM_ (below_step (bB_ HB) hb); clear hb ho18; obtain ⟨Ao19, co19, eo19⟩ := Kd.R_slice HO106.out; subst eo19) | ((with_reducible refine gate_callee (f := 37) rfl ?_); refine goesM_ (some 11) Tryz.func37 #[.int .i64 1000, .slice Ao19 y104.length co19] ?_; (with_reducible refine (impl_areNear.calls 1000 _ _ y104 true _ ?side1 ?side2 A4.out).mono ?_); (case side1 => repeat (first | exact (Kd.R_reads' HO106.out).2.2 | (with_reducible refine Kd.C_alloc ?_ _) | (with_reducible refine Kd.C_drewN ?_ _) | (with_reducible refine Kd.C_drew ?_))); (case side2 => exact (Kd.R_reads' HO106.out).2.1); rintro e w20 ⟨rfl, hb⟩; refine ⟨_, rfl, ?_⟩; replace HO106 := aM_ (Kd.R_below (kr_ HO106) hb); replace BK101 := aM_ (bkb_ BK101 hb); replace BK102 := aM_ (bkb_ BK102 hb); replace BK103 := aM_ (bkb_ BK103 hb); replace HB := aM_ (below_step (bB_ HB) hb); (try clear hb); (try clear hk); have hcz21_0 := bc_ BK101 0; have hcz21_1 := bc_ BK101 1; have hfz21_0 := blk_frozen BK101.out 0; have hfz21_1 := blk_frozen BK101.out 1; have hcz22_0 := bc_ BK102 0; have hcz22_1 := bc_ BK102 1; have hfz22_0 := blk_frozen BK102.out 0; have hfz22_1 := blk_frozen BK102.out 1; have hcz23_0 := bc_ BK103 0; have hcz23_1 := bc_ BK103 1; have hfz23_0 := blk_frozen BK103.out 0; have hfz23_1 := blk_frozen BK103.out 1) | ((with_reducible refine gate_callee (f := 60) rfl ?_); refine goesM_ (some 16) Tryz.func60 #[.agg #[.int .i64 a0_0, .int .i64 a0_1], .agg #[.int .i64 a1_0, .int .i64 a1_1], .agg #[.int .i64 a2_0, .int .i64 a2_1]] ?_; (with_reducible refine (impl_area.calls a0_0 a0_1 a1_0 a1_1 a2_0 a2_1 t108 _ A6.out).mono ?_); rintro e w24 ⟨rfl, hb⟩; refine ⟨_, rfl, ?_⟩; replace HO106 := aM_ (Kd.R_below (kr_ HO106) hb); replace BK101 := aM_ (bkb_ BK101 hb); replace BK102 := aM_ (bkb_ BK102 hb); replace BK103 := aM_ (bkb_ BK103 hb); replace HB := aM_ (below_step (bB_ HB) hb); (try clear hb); (try clear hk)) | ((with_reducible refine gate_callee (f := 59) rfl ?_); refine goesM_ (some 17) Tryz.func59 #[.int .i64 t108] ?_; (with_reducible refine (impl_signOf.calls t108 t109 _ A7.out).mono ?_); rintro e w' ⟨rfl, ⟨nd, rfl⟩⟩; refine ⟨_, rfl, ?_⟩))
  go_ret
  exact ⟨verr_, bB_ HB⟩
 ·replace c5 := Bool.eq_false_iff.mpr c5
  subst c5
  rw [if_neg (show ¬ (false = true) by decide)] at H
  obtain rfl := Option.some.inj H
  go_enter Tryz.func39, Tryz.ntmps39
  go_wp2_with (first | ((with_reducible refine gate_dst (N := 3) rfl ?_); refine boxE_ (N := 3) #[.int .i64 a0_0, .int .i64 a0_1] 34 ?_; intro gb101 hg w25 hbox hb; have BK101 := aM_ (hbox); have GW101 := aM_ ((bs_ HB hg)); have GE101 := aM_ ((bs_ HB hg)); replace HB := aM_ (below_step (bB_ HB) hb); clear hb hbox hg) | ((with_reducible refine gate_dst (N := 4) rfl ?_); refine boxE_ (N := 4) #[.int .i64 a1_0, .int .i64 a1_1] 34 ?_; intro gb102 hg w26 hbox hb; have BK102 := aM_ (hbox); have GW102 := aM_ ((bs_ HB hg)); have GE102 := aM_ ((bs_ HB hg)); replace HB := aM_ (below_step (bB_ HB) hb); have NB101_102 := aM_ ((bnl_ BK101 hg)); have NB102_101 := aM_ ((bng_ BK101 hg)); replace BK101 := aM_ (bkb_ BK101 hb); clear hb hbox hg) | ((with_reducible refine gate_dst (N := 5) rfl ?_); refine boxE_ (N := 5) #[.int .i64 a2_0, .int .i64 a2_1] 34 ?_; intro gb103 hg w27 hbox hb; have BK103 := aM_ (hbox); have GW103 := aM_ ((bs_ HB hg)); have GE103 := aM_ ((bs_ HB hg)); replace HB := aM_ (below_step (bB_ HB) hb); have NB101_103 := aM_ ((bnl_ BK101 hg)); have NB103_101 := aM_ ((bng_ BK101 hg)); replace BK101 := aM_ (bkb_ BK101 hb); have NB102_103 := aM_ ((bnl_ BK102 hg)); have NB103_102 := aM_ ((bng_ BK102 hg)); replace BK102 := aM_ (bkb_ BK102 hb); clear hb hbox hg; have hnb28 := NB101_102.out; have hnc28 := NB102_101.out; have hnb29 := NB101_103.out; have hnc29 := NB103_101.out; have hcz30_0 := bc_ BK101 0; have hcz30_1 := bc_ BK101 1; have hfz30_0 := blk_frozen BK101.out 0; have hfz30_1 := blk_frozen BK101.out 1; have hnb31 := NB102_103.out; have hnc31 := NB103_102.out; have hcz32_0 := bc_ BK102 0; have hcz32_1 := bc_ BK102 1; have hfz32_0 := blk_frozen BK102.out 0; have hfz32_1 := blk_frozen BK102.out 1; have hcz33_0 := bc_ BK103 0; have hcz33_1 := bc_ BK103 1; have hfz33_0 := blk_frozen BK103.out 0; have hfz33_1 := blk_frozen BK103.out 1) | ((with_reducible refine gate_dst (N := 10) rfl ?_); refine Kd.R_lit k34 _ 34 ?hg (N := 10) ?hd (xs := ([(⟨a0_0, a0_1⟩ : S34), (⟨a1_0, a1_1⟩ : S34), (⟨a2_0, a2_1⟩ : S34)] : List (S34))) (inner := [.int .i64 a0_0, .int .i64 a0_1, .int .i64 a1_0, .int .i64 a1_1, .int .i64 a2_0, .int .i64 a2_1]) (ok := fun _ => True) (okp := fun _ => True) ?hr ?hp (fun _ hk => hk) trivial (Below.refl _ _) (Nat.le_refl _) (by simp) ?_; (case hd => rfl); (case hg => rfl); (case hr => first | (go_simp; done) | (go_simp; rfl)); (case hp => exact (Reps.c2 (show Kd.M k34 _ _ _ (⟨a0_0, a0_1⟩ : S34) [.int .i64 a0_0, .int .i64 a0_1] from (k34_mkM _ _ _ (⟨a0_0, a0_1⟩ : S34) )) (Reps.c2 (show Kd.M k34 _ _ _ (⟨a1_0, a1_1⟩ : S34) [.int .i64 a1_0, .int .i64 a1_1] from (k34_mkM _ _ _ (⟨a1_0, a1_1⟩ : S34) )) (Reps.c2 (show Kd.M k34 _ _ _ (⟨a2_0, a2_1⟩ : S34) [.int .i64 a2_0, .int .i64 a2_1] from (k34_mkM _ _ _ (⟨a2_0, a2_1⟩ : S34) )) (Reps.none _ _))))); intro v105 w34 ho35 hb hg_ hnew_; clear hg_ hnew_; (first | rw [← Ny104.out] at ho35 | (simp only [Int.reduceToNat] at ho35; rw [← Ny104.out] at ho35)); have HO106 := aM_ (Kd.R_lower (Kd.R_newB (Kd.R_newB (Kd.R_newB ho35 (g := gb101) (o := .cells #[.int .i64 a0_0, .int .i64 a0_1] 34 (0, 0)) (bk_ BK101)) (g := gb102) (o := .cells #[.int .i64 a1_0, .int .i64 a1_1] 34 (0, 0)) (bk_ BK102)) (g := gb103) (o := .cells #[.int .i64 a2_0, .int .i64 a2_1] 34 (0, 0)) (bk_ BK103)) (below_size (bB_ HB))); replace BK101 := aM_ (bkb_ BK101 hb); replace BK102 := aM_ (bkb_ BK102 hb); replace BK103 := aM_ (bkb_ BK103 hb); replace HB := aM_ (below_step (bB_ HB) hb); clear hb ho35; obtain ⟨Ao36, co36, eo36⟩ := Kd.R_slice HO106.out; subst eo36) | ((with_reducible refine gate_callee (f := 37) rfl ?_); refine goesM_ (some 11) Tryz.func37 #[.int .i64 1000, .slice Ao36 y104.length co36] ?_; (with_reducible refine (impl_areNear.calls 1000 _ _ y104 false _ ?side1 ?side2 A4.out).mono ?_); (case side1 => repeat (first | exact (Kd.R_reads' HO106.out).2.2 | (with_reducible refine Kd.C_alloc ?_ _) | (with_reducible refine Kd.C_drewN ?_ _) | (with_reducible refine Kd.C_drew ?_))); (case side2 => exact (Kd.R_reads' HO106.out).2.1); rintro e w37 ⟨rfl, hb⟩; refine ⟨_, rfl, ?_⟩; replace HO106 := aM_ (Kd.R_below (kr_ HO106) hb); replace BK101 := aM_ (bkb_ BK101 hb); replace BK102 := aM_ (bkb_ BK102 hb); replace BK103 := aM_ (bkb_ BK103 hb); replace HB := aM_ (below_step (bB_ HB) hb); (try clear hb); (try clear hk)))
  go_ret
  exact ⟨verr_, bB_ HB⟩
end Go.Proofs.YteaagaekdkolnaaGreatDoor.P

namespace Go.Proofs.YteaagaekdkolnaaGreatDoor.P
open Go.RowKit Go.Proofs.YteaagaekdkolnaaGreatDoorW.PrintWords Go.Proofs.YteaagaekdkolnaaGreatDoorW.PrintLast Go.Proofs.YteaagaekdkolnaaGreatDoorW.PrintMore
attribute [local go_sem] max2_int min2_int max_two min_two max_three min_three max_four min_four   -- for this text's walks alone
set_option linter.unusedVariables false
set_option linter.unusedSimpArgs false
/-! ### impl_ArePoints: function 17 -/
mutual
def impl_ArePoints.j0 : Nat → List (S34) → Bool → Option (Bool)
 | 0, _, _ => none
 | k + 1, x0, x17 => if x17 = true then (some false) else ((impl_triplesOf.f k (x0.length : Int)).bind fun t102 => (impl_ArePoints.l0 k x0 t102 (t102.length : Int) 0))
def impl_ArePoints.l0 : Nat → List (S34) → List (S59) → Int → Int → Option (Bool)
 | 0, _, _, _, _ => none
 | k + 1, x0, x20, x21, x22 => if x22 < x21 then (if 0 ≤ x22 then (if x22 < (x20.length : Int) then (if 0 ≤ ((rd_T59 x20 x22).f0) then (if ((rd_T59 x20 x22).f0) < (x0.length : Int) then (if 0 ≤ ((rd_T59 x20 x22).f1) then (if ((rd_T59 x20 x22).f1) < (x0.length : Int) then (if 0 ≤ ((rd_T59 x20 x22).f2) then (if ((rd_T59 x20 x22).f2) < (x0.length : Int) then ((impl_TurnOf.f ((rd_T34 x0 ((rd_T59 x20 x22).f0)).f0) ((rd_T34 x0 ((rd_T59 x20 x22).f0)).f1) ((rd_T34 x0 ((rd_T59 x20 x22).f1)).f0) ((rd_T34 x0 ((rd_T59 x20 x22).f1)).f1) ((rd_T34 x0 ((rd_T59 x20 x22).f2)).f0) ((rd_T34 x0 ((rd_T59 x20 x22).f2)).f1)).bind fun t110 => (if t110 = 0 then (some false) else (impl_ArePoints.l0 k x0 x20 x21 (wrap64 (x22 + 1))))) else (none)) else (none)) else (none)) else (none)) else (none)) else (none)) else (none)) else (none)) else (some true)
end
def impl_ArePoints.f (k : Nat) (l0 : List (S34)) : Option (Bool) := if (l0.length : Int) < 3 then (impl_ArePoints.j0 k l0 true) else (if (l0.length : Int) > 7 then (impl_ArePoints.j0 k l0 true) else ((impl_areNear.f 50 l0).bind fun t101 => (impl_ArePoints.j0 k l0 (!t101))))
def impl_ArePoints.T6 : Bool × List (List Nat × List Nat) := (true, [([], []), ([], []), ([1], [1]), ([0, 2], [0, 2]), ([3], [3]), ([], []), ([], []), ([6], [6]), ([5, 7], [5, 7]), ([8], [8]), ([], []), ([], []), ([11], [11]), ([10, 12], [10, 12]), ([13], [13]), ([4, 9, 14], [4, 9, 14]), ([15], [15])])
def impl_ArePoints.B6 : List Nat := [0, 0, 2, 7, 15, 0, 0, 64, 224, 480, 0, 0, 2048, 7168, 15360, 32767, 65535]
theorem impl_ArePoints.tab6 : rtab .any (opsOf Tryz.f17 6) = impl_ArePoints.T6 := by kernel_rfl
theorem impl_ArePoints.bits6 : waitsOk impl_ArePoints.T6.2 impl_ArePoints.B6 = true := by kernel_rfl
set_option maxHeartbeats 8000000 in
set_option maxRecDepth 100000 in
theorem impl_ArePoints.calls (k : Nat) (A0 : Option Addr) (c0 : Nat) (l0 : List (S34)) (r : Bool) (w : World) (hr0 : Kd.C k34 w A0 l0.length l0) (hc0 : l0.length ≤ c0) (h : impl_ArePoints.f k l0 = some r) :
  Calls Tryz.prog 17 #[.slice A0 l0.length c0] w fun e w' => e = .returned (.bool r) ∧ Below w.heap.size w w' := by
 have hu59 := Tryz.underlying59
 have hu34 := Tryz.underlying34
 have HR0 := aM_ hr0
 have HC0 := aM_ hc0
 clear hr0 hc0
 have HB := aM_ (Below.refl w.heap.size w)
 have H : (if (l0.length : Int) < 3 then (impl_ArePoints.j0 k l0 true) else (if (l0.length : Int) > 7 then (impl_ArePoints.j0 k l0 true) else ((impl_areNear.f 50 l0).bind fun t101 => (impl_ArePoints.j0 k l0 (!t101))))) = some r := h
 clear h
 have HC2 := aM_ H
 clear H
 go_enter Tryz.func17, Tryz.ntmps17
 go_upto_region 1 with (fail)
 go_cut [17] (fun v17 wc => ∃ (kq : Nat) (x17_1 : Bool), v17 = .bool x17_1 ∧ Aside0 (impl_ArePoints.j0 kq l0 x17_1 = some r) ∧ Aside0 (kq ≤ k) ∧ Aside0 (Below w.heap.size w wc))
 case first =>
  have H := HC2.out
  clear HC2
  rcases ifc_ H with ⟨c3, H⟩ | ⟨c3, H⟩
  ·have c3b0 := decide_eq_true c3
   have c3b1 : decide (l0.length < 3) = true := decide_eq_true (by omega)
   clear c3
   (first | rw [c3b0] | (simp only [i64_w, i32_w]; rw [c3b0]) | skip)
   have H' := aM_ H
   clear H
   go_wp2
   go_meet
   case rel => exact ⟨_, (true), veq_, H', ⟨by first | omega | exact Nat.le_refl _⟩, ⟨bB_ HB⟩⟩
  ·have c3b0 := decide_eq_false c3
   have c3b1 : decide (l0.length < 3) = false := decide_eq_false (by omega)
   clear c3
   (first | rw [c3b0] | (simp only [i64_w, i32_w]; rw [c3b0]) | skip)
   rcases ifc_ H with ⟨c4, H⟩ | ⟨c4, H⟩
   ·have c4b0 := decide_eq_true c4
    have c4b1 : decide (7 < l0.length) = true := decide_eq_true (by omega)
    clear c4
    have H' := aM_ H
    clear H
    go_wp2
    go_meet
    case rel => exact ⟨_, (true), veq_, H', ⟨by first | omega | exact Nat.le_refl _⟩, ⟨bB_ HB⟩⟩
   ·have c4b0 := decide_eq_false c4
    have c4b1 : decide (7 < l0.length) = false := decide_eq_false (by omega)
    clear c4
    replace H := oB_ H
    obtain ⟨t101, A50, H⟩ := H
    have A5 := aM_ A50
    clear A50
    have H' := aM_ H
    clear H
    go_wp2_with (first | (go_at_call 37; (with_reducible refine (impl_areNear.calls 50 _ _ l0 t101 _ ?side1 ?side2 A5.out).mono ?_); (case side1 => repeat (first | exact (Kd.C_below HR0.out HB.out) | (with_reducible refine Kd.C_alloc ?_ _) | (with_reducible refine Kd.C_drewN ?_ _) | (with_reducible refine Kd.C_drew ?_))); (case side2 => exact HC0.out); rintro e w6 ⟨rfl, hb⟩; replace HB := aM_ (below_step (bB_ HB) hb); (try clear hb); (try clear hk)))
    go_meet
    case rel => exact ⟨_, (!t101), veq_, H', ⟨by first | omega | exact Nat.le_refl _⟩, ⟨bB_ HB⟩⟩
 case rest =>
  clear HC2
  try clear c3
  try clear c3b0
  try clear c3b1
  try clear c4
  try clear c4b0
  try clear c4b1
  obtain ⟨kq, x17_1, rfl, HA, HJ1, HB⟩ := hcut
  cases kq with
  | zero => exact absurd HA.out (by simp [impl_ArePoints.j0])
  | succ kj1 =>
   have H := HA.out
   clear HA
   simp only [impl_ArePoints.j0] at H
   by_cases c7 : x17_1 = true
   ·subst c7
    rw [if_pos rfl] at H
    obtain rfl := Option.some.inj H
    go_wp2
    go_ret
    exact ⟨verr_, bB_ HB⟩
   ·replace c7 := Bool.eq_false_iff.mpr c7
    subst c7
    rw [if_neg (show ¬ (false = true) by decide)] at H
    replace H := oB_ H
    obtain ⟨t102, A80, H⟩ := H
    have A8 := aM_ A80
    clear A80
    have H' := aM_ H
    clear H
    go_wp2_with (first | ((with_reducible refine gate_callee (f := 38) rfl ?_); refine goesM_ (some 20) Tryz.func38 #[.int .i64 (l0.length : Int)] ?_; (with_reducible refine (impl_triplesOf.calls kj1 (l0.length : Int) t102 _ A8.out).mono ?_); rintro e w9 ⟨v103, rfl, ho0, hb⟩; refine ⟨_, rfl, ?_⟩; have HO104 := aM_ (Kd.R_lower ho0 (below_size (bB_ HB))); replace HB := aM_ (below_step (bB_ HB) hb); (try clear hb); (try clear hk); (try clear ho0); obtain ⟨Ao10, co10, eo10⟩ := Kd.R_slice HO104.out; subst eo10))
    go_loopg [22] kj1 (fun kq v22 w' => ∃ (x22_2 : Int), v22 = .int .i64 x22_2 ∧ Aside0 (impl_ArePoints.l0 kq l0 t102 (t102.length : Int) x22_2 = some r) ∧ Aside0 (kq ≤ kj1) ∧ Aside0 (Kd.R k59 59 w' w.heap.size (fun _ => True) (.slice Ao10 t102.length co10) t102) ∧ Aside0 (Below w.heap.size w w'))
    case atStart => exact ⟨(0), veq_, H', ⟨Nat.le_refl _⟩, ⟨kr_ HO104⟩, ⟨bB_ HB⟩⟩
    case round =>
     clear H'
     try clear c3
     try clear c3b0
     try clear c3b1
     try clear c4
     try clear c4b0
     try clear c4b1
     try clear c7
     obtain ⟨x22_2, rfl, HA, HK2, HO_20, HB⟩ := hrel
     cases gk with
     | zero => exact absurd HA.out (by simp [impl_ArePoints.l0])
     | succ k2 =>
      have H := HA.out
      clear HA
      simp only [impl_ArePoints.l0] at H
      rcases ifd_ H with ⟨c11b0, H⟩ | ⟨c11b0, H⟩
      ·obtain ⟨c12b0, H⟩ := ifn_ H
       obtain ⟨c13b0, H⟩ := ifn_ H
       obtain ⟨c14b0, H⟩ := ifn_ H
       obtain ⟨c15b0, H⟩ := ifn_ H
       obtain ⟨c16b0, H⟩ := ifn_ H
       obtain ⟨c17b0, H⟩ := ifn_ H
       obtain ⟨c18b0, H⟩ := ifn_ H
       obtain ⟨c19b0, H⟩ := ifn_ H
       replace H := oB_ H
       obtain ⟨t110, A200, H⟩ := H
       have A20 := aM_ A200
       clear A200
       rcases ifc_ H with ⟨c21, H⟩ | ⟨c21, H⟩
       ·have c21b0 : (t110 == 0) = true := beq_iff_eq.mpr c21
        have c21b1 : (t110 != 0) = false := bne_eq_false_iff_eq.mpr c21
        clear c21
        obtain rfl := Option.some.inj H
        obtain ⟨p105, q105, ad105, e105, hx105_0, hx105_1, hx105_2⟩ := atW_ (at_T59 (Kd.R_reads' HO_20.out).2.2 x22_2)
        cases e105
        try go_wp2_with (first | ((with_reducible refine gate_dst (N := 4) rfl ?_); (try (refine gate_guard (by rfl) ?_; dsimp only)); refine boxE_ (N := 4) #[.int .i64 0, .int .i64 0, .int .i64 0] 59 ?_; intro gb106 hg w22 hbox hb; replace HO_20 := aM_ (Kd.R_below (Kd.R_elderB (kr_ HO_20) gb106 (Nat.le_of_eq hg.symm)) hb); have BK106 := aM_ (hbox); have GW106 := aM_ ((bs_ HB hg)); have GE106 := aM_ ((bs_ HB hg)); replace HB := aM_ (below_step (bB_ HB) hb); clear hb hbox hg; have hcz23_0 := bc_ BK106 0; have hcz23_1 := bc_ BK106 1; have hcz23_2 := bc_ BK106 2; have hfz23_0 := blk_frozen BK106.out 0; have hfz23_1 := blk_frozen BK106.out 1; have hfz23_2 := blk_frozen BK106.out 2))
        replace HO_20 : Aside0 (Kd.R k59 59 (((w22.setCell ⟨gb106, 0, none⟩ (.int .i64 ((rd_T59 t102 x22_2).f0))).setCell ⟨gb106, 1, none⟩ (.int .i64 ((rd_T59 t102 x22_2).f1))).setCell ⟨gb106, 2, none⟩ (.int .i64 ((rd_T59 t102 x22_2).f2))) w.heap.size (fun k_ => k_ ≠ gb106) (.slice (some ad105) t102.length co10) t102) := ⟨by (with_reducible repeat (first | apply kA_ | apply kN_ | apply kD_)); exact Kd.R_mono (Kd.R_far (p := ⟨gb106, 2, none⟩) (Kd.R_far (p := ⟨gb106, 1, none⟩) (Kd.R_far (p := ⟨gb106, 0, none⟩) (Kd.R_mono HO_20.out (fun k_ hk => (⟨hk, hk.2⟩ : _ ∧ k_ ≠ gb106))) (fun _ hk => hk.2) (.int .i64 ((rd_T59 t102 x22_2).f0))) (fun _ hk => hk.2) (.int .i64 ((rd_T59 t102 x22_2).f1))) (fun _ hk => hk.2) (.int .i64 ((rd_T59 t102 x22_2).f2))) (fun _ hk => hk.1.2)⟩
        replace BK106 : Aside0 ((((w22.setCell ⟨gb106, 0, none⟩ (.int .i64 ((rd_T59 t102 x22_2).f0))).setCell ⟨gb106, 1, none⟩ (.int .i64 ((rd_T59 t102 x22_2).f1))).setCell ⟨gb106, 2, none⟩ (.int .i64 ((rd_T59 t102 x22_2).f2))).heap[gb106]? = some (.cells #[.int .i64 ((rd_T59 t102 x22_2).f0), .int .i64 ((rd_T59 t102 x22_2).f1), .int .i64 ((rd_T59 t102 x22_2).f2)] 59 (0, 0))) := ⟨by (with_reducible repeat (first | refine blk_drewN ?_ _ | refine blk_drew ?_ | refine blk_alloc ?_ _)); refine blk_put (cs := #[.int .i64 ((rd_T59 t102 x22_2).f0), .int .i64 ((rd_T59 t102 x22_2).f1), .int .i64 0]) ?_ 2 _ rfl; (with_reducible repeat (first | refine blk_drewN ?_ _ | refine blk_drew ?_ | refine blk_alloc ?_ _)); refine blk_put (cs := #[.int .i64 ((rd_T59 t102 x22_2).f0), .int .i64 0, .int .i64 0]) ?_ 1 _ rfl; (with_reducible repeat (first | refine blk_drewN ?_ _ | refine blk_drew ?_ | refine blk_alloc ?_ _)); refine blk_put (cs := #[.int .i64 0, .int .i64 0, .int .i64 0]) ?_ 0 _ rfl; (with_reducible repeat (first | refine blk_drewN ?_ _ | refine blk_drew ?_ | refine blk_alloc ?_ _)); exact BK106.out⟩
        replace HB : Aside0 (Below w.heap.size w (((w22.setCell ⟨gb106, 0, none⟩ (.int .i64 ((rd_T59 t102 x22_2).f0))).setCell ⟨gb106, 1, none⟩ (.int .i64 ((rd_T59 t102 x22_2).f1))).setCell ⟨gb106, 2, none⟩ (.int .i64 ((rd_T59 t102 x22_2).f2)))) := ⟨bB_ HB⟩
        generalize (((w22.setCell ⟨gb106, 0, none⟩ (.int .i64 ((rd_T59 t102 x22_2).f0))).setCell ⟨gb106, 1, none⟩ (.int .i64 ((rd_T59 t102 x22_2).f1))).setCell ⟨gb106, 2, none⟩ (.int .i64 ((rd_T59 t102 x22_2).f2))) = w24 at HO_20 BK106 HB ⊢
        replace HO_20 := aM_ (kD_ HO_20.out)
        replace BK106 := aM_ (blk_drew BK106.out)
        replace HB := aM_ (bD_ HB.out)
        have p107 : 0 ≤ (((rd_T59 t102 x22_2).f0) : Int) := ode_
        have q107 : ((rd_T59 t102 x22_2).f0) < (l0.length : Int) := ode_
        obtain ⟨ad107, e107, hx107_0, hx107_1⟩ := at_T34 HR0.out ((rd_T59 t102 x22_2).f0) p107 q107
        have hw107_1 := hx107_1
        have hw107_0 := hx107_0
        cases e107
        replace hx107_0 := hbc_ HB hx107_0
        replace hx107_1 := hbc_ HB hx107_1
        replace p107 := eq_true p107
        replace q107 := eq_true q107
        have p108 : 0 ≤ (((rd_T59 t102 x22_2).f1) : Int) := ode_
        have q108 : ((rd_T59 t102 x22_2).f1) < (l0.length : Int) := ode_
        obtain ⟨ad108, e108, hx108_0, hx108_1⟩ := at_T34 HR0.out ((rd_T59 t102 x22_2).f1) p108 q108
        have hw108_1 := hx108_1
        have hw108_0 := hx108_0
        obtain rfl : ad107 = ad108 := (by injection e108)
        replace hx108_0 := hbc_ HB hx108_0
        replace hx108_1 := hbc_ HB hx108_1
        replace p108 := eq_true p108
        replace q108 := eq_true q108
        have p109 : 0 ≤ (((rd_T59 t102 x22_2).f2) : Int) := ode_
        have q109 : ((rd_T59 t102 x22_2).f2) < (l0.length : Int) := ode_
        obtain ⟨ad109, e109, hx109_0, hx109_1⟩ := at_T34 HR0.out ((rd_T59 t102 x22_2).f2) p109 q109
        have hw109_1 := hx109_1
        have hw109_0 := hx109_0
        obtain rfl : ad107 = ad109 := (by injection e109)
        replace hx109_0 := hbc_ HB hx109_0
        replace hx109_1 := hbc_ HB hx109_1
        replace p109 := eq_true p109
        replace q109 := eq_true q109
        refine start_ (n := 17) (S := fun w' => w'.cell? ⟨gb106, 0, none⟩ = some (.int .i64 ((rd_T59 t102 x22_2).f0)) ∧ w'.cell? ⟨gb106, 1, none⟩ = some (.int .i64 ((rd_T59 t102 x22_2).f1)) ∧ w'.cell? ⟨gb106, 2, none⟩ = some (.int .i64 ((rd_T59 t102 x22_2).f2)) ∧ w'.cell? (ad107.add ((((rd_T59 t102 x22_2).f0)).toNat * 2)) = some (.int .i64 ((rd_T34 l0 ((rd_T59 t102 x22_2).f0)).f0)) ∧ w'.cell? ⟨(ad107.add ((((rd_T59 t102 x22_2).f0)).toNat * 2)).block, (ad107.add ((((rd_T59 t102 x22_2).f0)).toNat * 2)).off + 1, none⟩ = some (.int .i64 ((rd_T34 l0 ((rd_T59 t102 x22_2).f0)).f1)) ∧ w'.cell? (ad107.add ((((rd_T59 t102 x22_2).f1)).toNat * 2)) = some (.int .i64 ((rd_T34 l0 ((rd_T59 t102 x22_2).f1)).f0)) ∧ w'.cell? ⟨(ad107.add ((((rd_T59 t102 x22_2).f1)).toNat * 2)).block, (ad107.add ((((rd_T59 t102 x22_2).f1)).toNat * 2)).off + 1, none⟩ = some (.int .i64 ((rd_T34 l0 ((rd_T59 t102 x22_2).f1)).f1)) ∧ w'.cell? (ad107.add ((((rd_T59 t102 x22_2).f2)).toNat * 2)) = some (.int .i64 ((rd_T34 l0 ((rd_T59 t102 x22_2).f2)).f0)) ∧ w'.cell? ⟨(ad107.add ((((rd_T59 t102 x22_2).f2)).toNat * 2)).block, (ad107.add ((((rd_T59 t102 x22_2).f2)).toNat * 2)).off + 1, none⟩ = some (.int .i64 ((rd_T34 l0 ((rd_T59 t102 x22_2).f2)).f1))) (ds := []) (bm 17 0) (by kernel_rfl) rfl rfl ⟨bc_ BK106 0, bc_ BK106 1, bc_ BK106 2, (hbc_ HB hw107_0), (hbc_ HB hw107_1), (hbc_ HB hw108_0), (hbc_ HB hw108_1), (hbc_ HB hw109_0), (hbc_ HB hw109_1)⟩ (fun hHeld => ?_); refine with_tabW impl_ArePoints.tab6 impl_ArePoints.bits6 (fun HT_ HW_ => ?_)
        generalize w24.drew = w25 at HO_20 BK106 HB hx107_0 hx107_1 hx108_0 hx108_1 hx109_0 hx109_1 hHeld ⊢
        refine plan_ ((0, 0, 26, 1) :: (0, 1, 27, 3) :: (0, 5, 31, 35) :: (0, 6, 32, 99) :: (0, 10, 36, 1123) :: (0, 11, 37, 3171) :: (2, 2, 28, 3175) :: (0, 3, 29, 3183) :: (2, 4, 30, 3199) :: (2, 7, 33, 3327) :: (0, 8, 34, 3583) :: (2, 9, 35, 4095) :: (2, 12, 38, 8191) :: (0, 13, 39, 16383) :: (2, 14, 40, 32767) :: []) ?_
        iterate 15 (first | refine pV_ HT_ ?_ | refine pT_ HT_ HW_ hHeld ?_)
        refine planEnd_ ?_
        refine one_ (i := 15) (N := some 41) (bm 17 65535) rfl rfl (one_of HT_.out (by kernel_rfl)) (by decide) (fun K hK => ?_)
        refine goesO_ Tryz.func39 #[.agg #[.int .i64 ((rd_T34 l0 ((rd_T59 t102 x22_2).f0)).f0), .int .i64 ((rd_T34 l0 ((rd_T59 t102 x22_2).f0)).f1)], .agg #[.int .i64 ((rd_T34 l0 ((rd_T59 t102 x22_2).f1)).f0), .int .i64 ((rd_T34 l0 ((rd_T59 t102 x22_2).f1)).f1)], .agg #[.int .i64 ((rd_T34 l0 ((rd_T59 t102 x22_2).f2)).f0), .int .i64 ((rd_T34 l0 ((rd_T59 t102 x22_2).f2)).f1)]] ?_
        with_reducible refine (impl_TurnOf.calls ((rd_T34 l0 ((rd_T59 t102 x22_2).f0)).f0) ((rd_T34 l0 ((rd_T59 t102 x22_2).f0)).f1) ((rd_T34 l0 ((rd_T59 t102 x22_2).f1)).f0) ((rd_T34 l0 ((rd_T59 t102 x22_2).f1)).f1) ((rd_T34 l0 ((rd_T59 t102 x22_2).f2)).f0) ((rd_T34 l0 ((rd_T59 t102 x22_2).f2)).f1) t110 _ A20.out).mono ?_
        rintro e w26 ⟨rfl, hb⟩
        refine ⟨_, rfl, ?_⟩
        replace HO_20 := aM_ (Kd.R_below (kr_ HO_20) hb)
        replace BK106 := aM_ (bkb_ BK106 hb)
        replace HB := aM_ (below_step (bB_ HB) hb)
        (try clear hb)
        (try clear hk)
        refine hK.out _ _ ⟨bc_ BK106 0, bc_ BK106 1, bc_ BK106 2, (hbc_ HB hw107_0), (hbc_ HB hw107_1), (hbc_ HB hw108_0), (hbc_ HB hw108_1), (hbc_ HB hw109_0), (hbc_ HB hw109_1)⟩ (fun hHeld => ?_)
        clear hK K
        refine nrm_ ?_
        refine plan_ ((0, 16, 42, 131071) :: []) ?_
        iterate 1 (first | refine pV_ HT_ ?_)
        refine planEnd_ ?_
        refine done_ (done_of HT_.out (by kernel_rfl)) ?_
        try go_wp2
        go_ret
        exact ⟨verr_, bB_ HB⟩
       ·have c21b0 : (t110 == 0) = false := beq_eq_false_iff_ne.mpr c21
        have c21b1 : (t110 != 0) = true := bne_iff_ne.mpr c21
        have H' := aM_ H
        clear H
        obtain ⟨p105, q105, ad105, e105, hx105_0, hx105_1, hx105_2⟩ := atW_ (at_T59 (Kd.R_reads' HO_20.out).2.2 x22_2)
        cases e105
        try go_wp2_with (first | ((with_reducible refine gate_dst (N := 4) rfl ?_); (try (refine gate_guard (by rfl) ?_; dsimp only)); refine boxE_ (N := 4) #[.int .i64 0, .int .i64 0, .int .i64 0] 59 ?_; intro gb106 hg w27 hbox hb; replace HO_20 := aM_ (Kd.R_below (Kd.R_elderB (kr_ HO_20) gb106 (Nat.le_of_eq hg.symm)) hb); have BK106 := aM_ (hbox); have GW106 := aM_ ((bs_ HB hg)); have GE106 := aM_ ((bs_ HB hg)); replace HB := aM_ (below_step (bB_ HB) hb); clear hb hbox hg; have hcz28_0 := bc_ BK106 0; have hcz28_1 := bc_ BK106 1; have hcz28_2 := bc_ BK106 2; have hfz28_0 := blk_frozen BK106.out 0; have hfz28_1 := blk_frozen BK106.out 1; have hfz28_2 := blk_frozen BK106.out 2))
        replace HO_20 : Aside0 (Kd.R k59 59 (((w27.setCell ⟨gb106, 0, none⟩ (.int .i64 ((rd_T59 t102 x22_2).f0))).setCell ⟨gb106, 1, none⟩ (.int .i64 ((rd_T59 t102 x22_2).f1))).setCell ⟨gb106, 2, none⟩ (.int .i64 ((rd_T59 t102 x22_2).f2))) w.heap.size (fun k_ => k_ ≠ gb106) (.slice (some ad105) t102.length co10) t102) := ⟨by (with_reducible repeat (first | apply kA_ | apply kN_ | apply kD_)); exact Kd.R_mono (Kd.R_far (p := ⟨gb106, 2, none⟩) (Kd.R_far (p := ⟨gb106, 1, none⟩) (Kd.R_far (p := ⟨gb106, 0, none⟩) (Kd.R_mono HO_20.out (fun k_ hk => (⟨hk, hk.2⟩ : _ ∧ k_ ≠ gb106))) (fun _ hk => hk.2) (.int .i64 ((rd_T59 t102 x22_2).f0))) (fun _ hk => hk.2) (.int .i64 ((rd_T59 t102 x22_2).f1))) (fun _ hk => hk.2) (.int .i64 ((rd_T59 t102 x22_2).f2))) (fun _ hk => hk.1.2)⟩
        replace BK106 : Aside0 ((((w27.setCell ⟨gb106, 0, none⟩ (.int .i64 ((rd_T59 t102 x22_2).f0))).setCell ⟨gb106, 1, none⟩ (.int .i64 ((rd_T59 t102 x22_2).f1))).setCell ⟨gb106, 2, none⟩ (.int .i64 ((rd_T59 t102 x22_2).f2))).heap[gb106]? = some (.cells #[.int .i64 ((rd_T59 t102 x22_2).f0), .int .i64 ((rd_T59 t102 x22_2).f1), .int .i64 ((rd_T59 t102 x22_2).f2)] 59 (0, 0))) := ⟨by (with_reducible repeat (first | refine blk_drewN ?_ _ | refine blk_drew ?_ | refine blk_alloc ?_ _)); refine blk_put (cs := #[.int .i64 ((rd_T59 t102 x22_2).f0), .int .i64 ((rd_T59 t102 x22_2).f1), .int .i64 0]) ?_ 2 _ rfl; (with_reducible repeat (first | refine blk_drewN ?_ _ | refine blk_drew ?_ | refine blk_alloc ?_ _)); refine blk_put (cs := #[.int .i64 ((rd_T59 t102 x22_2).f0), .int .i64 0, .int .i64 0]) ?_ 1 _ rfl; (with_reducible repeat (first | refine blk_drewN ?_ _ | refine blk_drew ?_ | refine blk_alloc ?_ _)); refine blk_put (cs := #[.int .i64 0, .int .i64 0, .int .i64 0]) ?_ 0 _ rfl; (with_reducible repeat (first | refine blk_drewN ?_ _ | refine blk_drew ?_ | refine blk_alloc ?_ _)); exact BK106.out⟩
        replace HB : Aside0 (Below w.heap.size w (((w27.setCell ⟨gb106, 0, none⟩ (.int .i64 ((rd_T59 t102 x22_2).f0))).setCell ⟨gb106, 1, none⟩ (.int .i64 ((rd_T59 t102 x22_2).f1))).setCell ⟨gb106, 2, none⟩ (.int .i64 ((rd_T59 t102 x22_2).f2)))) := ⟨bB_ HB⟩
        generalize (((w27.setCell ⟨gb106, 0, none⟩ (.int .i64 ((rd_T59 t102 x22_2).f0))).setCell ⟨gb106, 1, none⟩ (.int .i64 ((rd_T59 t102 x22_2).f1))).setCell ⟨gb106, 2, none⟩ (.int .i64 ((rd_T59 t102 x22_2).f2))) = w29 at HO_20 BK106 HB ⊢
        replace HO_20 := aM_ (kD_ HO_20.out)
        replace BK106 := aM_ (blk_drew BK106.out)
        replace HB := aM_ (bD_ HB.out)
        have p107 : 0 ≤ (((rd_T59 t102 x22_2).f0) : Int) := ode_
        have q107 : ((rd_T59 t102 x22_2).f0) < (l0.length : Int) := ode_
        obtain ⟨ad107, e107, hx107_0, hx107_1⟩ := at_T34 HR0.out ((rd_T59 t102 x22_2).f0) p107 q107
        have hw107_1 := hx107_1
        have hw107_0 := hx107_0
        cases e107
        replace hx107_0 := hbc_ HB hx107_0
        replace hx107_1 := hbc_ HB hx107_1
        replace p107 := eq_true p107
        replace q107 := eq_true q107
        have p108 : 0 ≤ (((rd_T59 t102 x22_2).f1) : Int) := ode_
        have q108 : ((rd_T59 t102 x22_2).f1) < (l0.length : Int) := ode_
        obtain ⟨ad108, e108, hx108_0, hx108_1⟩ := at_T34 HR0.out ((rd_T59 t102 x22_2).f1) p108 q108
        have hw108_1 := hx108_1
        have hw108_0 := hx108_0
        obtain rfl : ad107 = ad108 := (by injection e108)
        replace hx108_0 := hbc_ HB hx108_0
        replace hx108_1 := hbc_ HB hx108_1
        replace p108 := eq_true p108
        replace q108 := eq_true q108
        have p109 : 0 ≤ (((rd_T59 t102 x22_2).f2) : Int) := ode_
        have q109 : ((rd_T59 t102 x22_2).f2) < (l0.length : Int) := ode_
        obtain ⟨ad109, e109, hx109_0, hx109_1⟩ := at_T34 HR0.out ((rd_T59 t102 x22_2).f2) p109 q109
        have hw109_1 := hx109_1
        have hw109_0 := hx109_0
        obtain rfl : ad107 = ad109 := (by injection e109)
        replace hx109_0 := hbc_ HB hx109_0
        replace hx109_1 := hbc_ HB hx109_1
        replace p109 := eq_true p109
        replace q109 := eq_true q109
        refine start_ (n := 17) (S := fun w' => w'.cell? ⟨gb106, 0, none⟩ = some (.int .i64 ((rd_T59 t102 x22_2).f0)) ∧ w'.cell? ⟨gb106, 1, none⟩ = some (.int .i64 ((rd_T59 t102 x22_2).f1)) ∧ w'.cell? ⟨gb106, 2, none⟩ = some (.int .i64 ((rd_T59 t102 x22_2).f2)) ∧ w'.cell? (ad107.add ((((rd_T59 t102 x22_2).f0)).toNat * 2)) = some (.int .i64 ((rd_T34 l0 ((rd_T59 t102 x22_2).f0)).f0)) ∧ w'.cell? ⟨(ad107.add ((((rd_T59 t102 x22_2).f0)).toNat * 2)).block, (ad107.add ((((rd_T59 t102 x22_2).f0)).toNat * 2)).off + 1, none⟩ = some (.int .i64 ((rd_T34 l0 ((rd_T59 t102 x22_2).f0)).f1)) ∧ w'.cell? (ad107.add ((((rd_T59 t102 x22_2).f1)).toNat * 2)) = some (.int .i64 ((rd_T34 l0 ((rd_T59 t102 x22_2).f1)).f0)) ∧ w'.cell? ⟨(ad107.add ((((rd_T59 t102 x22_2).f1)).toNat * 2)).block, (ad107.add ((((rd_T59 t102 x22_2).f1)).toNat * 2)).off + 1, none⟩ = some (.int .i64 ((rd_T34 l0 ((rd_T59 t102 x22_2).f1)).f1)) ∧ w'.cell? (ad107.add ((((rd_T59 t102 x22_2).f2)).toNat * 2)) = some (.int .i64 ((rd_T34 l0 ((rd_T59 t102 x22_2).f2)).f0)) ∧ w'.cell? ⟨(ad107.add ((((rd_T59 t102 x22_2).f2)).toNat * 2)).block, (ad107.add ((((rd_T59 t102 x22_2).f2)).toNat * 2)).off + 1, none⟩ = some (.int .i64 ((rd_T34 l0 ((rd_T59 t102 x22_2).f2)).f1))) (ds := []) (bm 17 0) (by kernel_rfl) rfl rfl ⟨bc_ BK106 0, bc_ BK106 1, bc_ BK106 2, (hbc_ HB hw107_0), (hbc_ HB hw107_1), (hbc_ HB hw108_0), (hbc_ HB hw108_1), (hbc_ HB hw109_0), (hbc_ HB hw109_1)⟩ (fun hHeld => ?_); refine with_tabW impl_ArePoints.tab6 impl_ArePoints.bits6 (fun HT_ HW_ => ?_)
        generalize w29.drew = w30 at HO_20 BK106 HB hx107_0 hx107_1 hx108_0 hx108_1 hx109_0 hx109_1 hHeld ⊢
        refine plan_ ((0, 0, 26, 1) :: (0, 1, 27, 3) :: (0, 5, 31, 35) :: (0, 6, 32, 99) :: (0, 10, 36, 1123) :: (0, 11, 37, 3171) :: (2, 2, 28, 3175) :: (0, 3, 29, 3183) :: (2, 4, 30, 3199) :: (2, 7, 33, 3327) :: (0, 8, 34, 3583) :: (2, 9, 35, 4095) :: (2, 12, 38, 8191) :: (0, 13, 39, 16383) :: (2, 14, 40, 32767) :: []) ?_
        iterate 15 (first | refine pV_ HT_ ?_ | refine pT_ HT_ HW_ hHeld ?_)
        refine planEnd_ ?_
        refine one_ (i := 15) (N := some 41) (bm 17 65535) rfl rfl (one_of HT_.out (by kernel_rfl)) (by decide) (fun K hK => ?_)
        refine goesO_ Tryz.func39 #[.agg #[.int .i64 ((rd_T34 l0 ((rd_T59 t102 x22_2).f0)).f0), .int .i64 ((rd_T34 l0 ((rd_T59 t102 x22_2).f0)).f1)], .agg #[.int .i64 ((rd_T34 l0 ((rd_T59 t102 x22_2).f1)).f0), .int .i64 ((rd_T34 l0 ((rd_T59 t102 x22_2).f1)).f1)], .agg #[.int .i64 ((rd_T34 l0 ((rd_T59 t102 x22_2).f2)).f0), .int .i64 ((rd_T34 l0 ((rd_T59 t102 x22_2).f2)).f1)]] ?_
        with_reducible refine (impl_TurnOf.calls ((rd_T34 l0 ((rd_T59 t102 x22_2).f0)).f0) ((rd_T34 l0 ((rd_T59 t102 x22_2).f0)).f1) ((rd_T34 l0 ((rd_T59 t102 x22_2).f1)).f0) ((rd_T34 l0 ((rd_T59 t102 x22_2).f1)).f1) ((rd_T34 l0 ((rd_T59 t102 x22_2).f2)).f0) ((rd_T34 l0 ((rd_T59 t102 x22_2).f2)).f1) t110 _ A20.out).mono ?_
        rintro e w31 ⟨rfl, hb⟩
        refine ⟨_, rfl, ?_⟩
        replace HO_20 := aM_ (Kd.R_below (kr_ HO_20) hb)
        replace BK106 := aM_ (bkb_ BK106 hb)
        replace HB := aM_ (below_step (bB_ HB) hb)
        (try clear hb)
        (try clear hk)
        refine hK.out _ _ ⟨bc_ BK106 0, bc_ BK106 1, bc_ BK106 2, (hbc_ HB hw107_0), (hbc_ HB hw107_1), (hbc_ HB hw108_0), (hbc_ HB hw108_1), (hbc_ HB hw109_0), (hbc_ HB hw109_1)⟩ (fun hHeld => ?_)
        clear hK K
        refine nrm_ ?_
        refine plan_ ((0, 16, 42, 131071) :: []) ?_
        iterate 1 (first | refine pV_ HT_ ?_)
        refine planEnd_ ?_
        refine done_ (done_of HT_.out (by kernel_rfl)) ?_
        try go_wp2
        go_roundg k2
        case measure => have := HJ1.out; have := HK2.out; omega
        case rel => exact ⟨(wrap64 (x22_2 + 1)), veq_, H', ⟨by have := HJ1.out; have := HK2.out; omega⟩, ⟨by (with_reducible repeat (first | apply kA_ | apply kN_ | apply kD_)); exact Kd.R_mono HO_20.out (fun _ hk => trivial)⟩, ⟨bB_ HB⟩⟩
      ·obtain rfl := Option.some.inj H
       go_wp2
       go_ret
       exact ⟨verr_, bB_ HB⟩
end Go.Proofs.YteaagaekdkolnaaGreatDoor.P

namespace Go.Proofs.YteaagaekdkolnaaGreatDoor.P
open Go.RowKit Go.Proofs.YteaagaekdkolnaaGreatDoorW.PrintWords Go.Proofs.YteaagaekdkolnaaGreatDoorW.PrintLast Go.Proofs.YteaagaekdkolnaaGreatDoorW.PrintMore
attribute [local go_sem] max2_int min2_int max_two min_two max_three min_three max_four min_four   -- for this text's walks alone
set_option linter.unusedVariables false
set_option linter.unusedSimpArgs false
/-! ### strings_Join: function 40 -/
def joinOf (l : List ByteArray) (sep : ByteArray) : ByteArray := ⟨(Lib.join (l.map (·.data.toList)) sep.data.toList).toArray⟩
def strings_Join.f (l0 : List ByteArray) (a1 : ByteArray) : Option ByteArray := if l0.length ≤ 140737488355328 ∧ (Lib.join (l0.map (·.data.toList)) a1.data.toList).length ≤ 140737488355328 then some (joinOf l0 a1) else none
theorem strings_Join.calls (A0 : Option Addr) (c0 : Nat) (l0 : List ByteArray) (a1 : ByteArray) (r : ByteArray) (w : World) (hr0 : Kd.C Kd.string w A0 l0.length l0) (hc0 : l0.length ≤ c0) (h : strings_Join.f l0 a1 = some r) :
  Calls Tryz.prog 40 #[.slice A0 l0.length c0, .string a1] w fun e w' => e = .returned (.string r) ∧ Below w.heap.size w w' := by
 unfold strings_Join.f at h
 split at h
 ·rename_i hb
  obtain rfl := Option.some.inj h
  rcases Nat.eq_zero_or_pos l0.length with hl | hl
  ·obtain rfl := List.eq_nil_of_length_eq_zero hl
   refine (Tryz.strings_Join_none A0 c0 a1 w).mono ?_
   rintro e w' ⟨rfl, rfl⟩
   exact ⟨rfl, Below.refl _ _⟩
  ·obtain ⟨ad, rfl, _⟩ := Kd.at_string hr0 0 (Int.le_refl 0) (by omega)
   have hcell : ∀ (j : Nat) x, l0[j]? = some x → w.cell? (ad.add j) = some (.string x) := by
    intro j x hx
    have hj : j < l0.length := (List.getElem?_eq_some_iff.1 hx).1
    obtain ⟨ad', e, hc⟩ := Kd.at_string hr0 (j : Int) (by omega) (by omega)
    cases e
    rw [Int.toNat_natCast] at hc
    rw [hc]
    unfold rdOf
    rw [Int.toNat_natCast, List.getD_eq_getElem?_getD, hx]; rfl
   have h0 := hcell 0 l0[0] (List.getElem?_eq_getElem hl)
   obtain ⟨b, o, s⟩ := ad
   have hs : s = none := by
    cases s with
    | none => rfl
    | some q => simp [Addr.add, World.cell?] at h0; split at h0 <;> simp at h0
   subst hs
   have hbk : b < w.heap.size := World.block_lt_of_cell? _ _ h0
   refine (Tryz.strings_Join b o c0 l0 a1 w ?_ hbk hb.1 hc0 hb.2).mono ?_
   ·intro j x hx
    have h1 := hcell j x hx
    rcases Nat.eq_zero_or_pos j with rfl | hj
    ·simpa [Addr.add] using h1
    ·simpa [Addr.add, Nat.ne_of_gt hj] using h1
   ·rintro e w' ⟨rfl, hb'⟩
    exact ⟨rfl, hb'⟩
 ·cases h
theorem joinOf_some (l0 : List ByteArray) (a1 : ByteArray) (h0 : l0.length ≤ 140737488355328) (h1 : (Lib.join (l0.map (·.data.toList)) a1.data.toList).length ≤ 140737488355328) : strings_Join.f l0 a1 = some (joinOf l0 a1) := if_pos ⟨h0, h1⟩
end Go.Proofs.YteaagaekdkolnaaGreatDoor.P

namespace Go.Proofs.YteaagaekdkolnaaGreatDoor.P
open Go.RowKit Go.Proofs.YteaagaekdkolnaaGreatDoorW.PrintWords Go.Proofs.YteaagaekdkolnaaGreatDoorW.PrintLast Go.Proofs.YteaagaekdkolnaaGreatDoorW.PrintMore
attribute [local go_sem] max2_int min2_int max_two min_two max_three min_three max_four min_four   -- for this text's walks alone
set_option linter.unusedVariables false
set_option linter.unusedSimpArgs false
/-! ### impl_Join: function 18 -/
def impl_Join.f (l0 : List ByteArray) (a1 : ByteArray) : Option (ByteArray) := (strings_Join.f l0 a1).bind fun t101 => (some t101)
set_option maxHeartbeats 8000000 in
set_option maxRecDepth 100000 in
theorem impl_Join.calls (A0 : Option Addr) (c0 : Nat) (l0 : List ByteArray) (a1 : ByteArray) (r : ByteArray) (w : World) (hr0 : Kd.C Kd.string w A0 l0.length l0) (hc0 : l0.length ≤ c0) (h : impl_Join.f l0 a1 = some r) :
  Calls Tryz.prog 18 #[.slice A0 l0.length c0, .string a1] w fun e w' => e = .returned (.string r) ∧ Below w.heap.size w w' := by
 have HR0 := aM_ hr0
 have HC0 := aM_ hc0
 clear hr0 hc0
 have HB := aM_ (Below.refl w.heap.size w)
 have H : ((strings_Join.f l0 a1).bind fun t101 => (some t101)) = some r := h
 clear h
 replace H := oB_ H
 obtain ⟨t101, A30, H⟩ := H
 have A3 := aM_ A30
 clear A30
 obtain rfl := Option.some.inj H
 go_enter Tryz.func18, Tryz.ntmps18
 go_wp2_with (first | ((with_reducible refine gate_callee (f := 40) rfl ?_); refine goesM_ (some 7) Tryz.func40 #[.slice A0 l0.length c0, .string a1] ?_; (with_reducible refine (strings_Join.calls _ _ l0 a1 t101 _ ?side1 ?side2 A3.out).mono ?_); (case side1 => repeat (first | exact HR0.out | (with_reducible refine Kd.C_alloc ?_ _) | (with_reducible refine Kd.C_drewN ?_ _) | (with_reducible refine Kd.C_drew ?_))); (case side2 => exact HC0.out); rintro e w4 ⟨rfl, hb⟩; refine ⟨_, rfl, ?_⟩; replace HB := aM_ (below_step (bB_ HB) hb); (try clear hb)))
 go_ret
 exact ⟨verr_, bB_ HB⟩
end Go.Proofs.YteaagaekdkolnaaGreatDoor.P

namespace Go.Proofs.YteaagaekdkolnaaGreatDoor.P
open Go.RowKit Go.Proofs.YteaagaekdkolnaaGreatDoorW.PrintWords Go.Proofs.YteaagaekdkolnaaGreatDoorW.PrintLast Go.Proofs.YteaagaekdkolnaaGreatDoorW.PrintMore
attribute [local go_sem] max2_int min2_int max_two min_two max_three min_three max_four min_four   -- for this text's walks alone
set_option linter.unusedVariables false
set_option linter.unusedSimpArgs false
/-! ### impl_FormatInt: function 19 -/
def impl_FormatInt.f (a0 : Int) : Option (ByteArray) := (strconv_Itoa_41.f a0).bind fun t101 => (some t101)
set_option maxHeartbeats 8000000 in
set_option maxRecDepth 100000 in
theorem impl_FormatInt.calls (a0 : Int) (r : ByteArray) (w : World) (h : impl_FormatInt.f a0 = some r) (htab_ : Tab w) :
  Calls Tryz.prog 19 #[.int .i64 a0] w fun e w' => e = .returned (.string r) ∧ Below w.heap.size w w' := by
 have HTAB := aM_ htab_
 clear htab_
 have HB := aM_ (Below.refl w.heap.size w)
 have H : ((strconv_Itoa_41.f a0).bind fun t101 => (some t101)) = some r := h
 clear h
 replace H := oB_ H
 obtain ⟨t101, A20, H⟩ := H
 have A2 := aM_ A20
 clear A20
 obtain rfl := Option.some.inj H
 go_enter Tryz.func19, Tryz.ntmps19
 go_wp2_with (first | ((with_reducible refine gate_callee (f := 41) rfl ?_); refine goesM_ (some 4) Tryz.func41 #[.int .i64 a0] ?_; (with_reducible refine (strconv_Itoa_41.calls a0 t101 _ A2.out (Tab.on HTAB.out (bB_ HB))).mono ?_); rintro e w3 ⟨rfl, hb⟩; refine ⟨_, rfl, ?_⟩; replace HB := aM_ (below_step (bB_ HB) hb); (try clear hb)))
 go_ret
 exact ⟨verr_, bB_ HB⟩
end Go.Proofs.YteaagaekdkolnaaGreatDoor.P

namespace Go.Proofs.YteaagaekdkolnaaGreatDoor.P
open Go.RowKit Go.Proofs.YteaagaekdkolnaaGreatDoorW.PrintWords Go.Proofs.YteaagaekdkolnaaGreatDoorW.PrintLast Go.Proofs.YteaagaekdkolnaaGreatDoorW.PrintMore
attribute [local go_sem] max2_int min2_int max_two min_two max_three min_three max_four min_four   -- for this text's walks alone
set_option linter.unusedVariables false
set_option linter.unusedSimpArgs false
/-! ### impl_chi_set: function 79 -/
theorem chi_store {P : Program} {ops : Array Oper} {o : Oper} {a : Act} {Q : Exit → Act → World → Prop} {W u0 w0 : World} {Kc : Act → World → Prop} {g j : Nat} {e : TypeId} {cur : Array Value} (hN : o.dst = none) (hw : Region.wanted o (yielded ops a.tmps) = true) (t : TypeId) (p x : Operand) (ho : o.op = .store t p x) (u : Value)
  (haddr : a.eval p = .pointer (some ⟨g, j, none⟩)) (hx : a.eval x = u) (hu : u.cells.toList = [u]) (ht : (P.info? t).map (·.size) = some 1) (h1 : u.oneCell' = true) (hh : W.heap[g]? = some (.cells cur e (0, 0))) (hj : j < cur.size)
  (hB : Below u0.heap.size u0 W) (hg : u0.heap.size ≤ g) (hK : KeepBut w0 W g none)
  (h : ∀ W1 : World, W1.heap[g]? = some (.cells (cur.setIfInBounds j u) e (0, 0)) → Below u0.heap.size u0 W1 → KeepBut w0 W1 g none → Kc a W1) : if Region.wanted o (yielded ops a.tmps) = true then Oper.wp P o a W Kc Q else Kc (a.put none undef) W := by
 have hrun := run_store_run (P := P) (o := j) t u [u] hh hu ht (by simp; omega) (by simp [h1])
 rw [if_pos hw]
 unfold Oper.wp execOp
 simp only [ho, haddr, hx, Sem.run_bind, Sem.run_pure, Result.andThen_ok, hrun]
 show Kc (a.put o.dst undef) _
 rw [hN]
 exact h _ (blk_set hh j u) (below_set hB hg) (hK.set_ j u)
def chiIx (a b c : Int) : Nat := 1 + a.toNat * 49 + b.toNat * 7 + c.toNat
theorem chiIx_lt {a b c : Int} (ha : 0 ≤ a ∧ a < 7) (hb : 0 ≤ b ∧ b < 7) (hc : 0 ≤ c ∧ c < 7) : chiIx a b c < 344 := by unfold chiIx; omega
def chiSetS (cur : Array Value) (i j k s m : Int) : Array Value := (((((cur.setIfInBounds (chiIx i j k) (.int .i64 s)).setIfInBounds (chiIx j k i) (.int .i64 s)).setIfInBounds (chiIx k i j) (.int .i64 s)).setIfInBounds (chiIx i k j) (.int .i64 m)).setIfInBounds (chiIx k j i) (.int .i64 m)).setIfInBounds (chiIx j i k) (.int .i64 m)
def chiT0 : Bool × List (List Nat × List Nat) := (true, [([], []), ([], []), ([], []), ([], []), ([], []), ([], []), ([], []), ([], []), ([], []), ([], []), ([], []), ([], []), ([], []), ([], []), ([], []), ([0], [0]), ([15], [15]), ([16, 1], [1, 16]), ([17, 2], [2, 17]), ([18, 3, 0, 1, 2, 3, 12], [3, 18]), ([19, 12, 0, 1, 2, 3, 12], [12, 19]), ([4], [4]), ([21], [21]), ([22, 5], [5, 22]), ([23, 6], [6, 23]), ([24, 7, 0, 1, 2, 3, 4, 5, 6, 7, 12, 13, 15, 16, 17, 18, 19, 20], [7, 24]), ([25, 13, 20, 0, 1, 2, 3, 4, 5, 6, 7, 12, 13, 15, 16, 17, 18, 19, 20], [13, 25]), ([8], [8]), ([27], [27]), ([28, 9], [9, 28]), ([29, 10], [10, 29]), ([30, 11, 0, 1, 2, 3, 4, 5, 6, 7, 8, 9, 10, 11, 12, 13, 14, 15, 16, 17, 18, 19, 20, 21, 22, 23, 24, 25, 26], [11, 30]), ([31, 14, 26, 0, 1, 2, 3, 4, 5, 6, 7, 8, 9, 10, 11, 12, 13, 14, 15, 16, 17, 18, 19, 20, 21, 22, 23, 24, 25, 26], [14, 31])])
theorem chi_tab0 : rtab .any (opsOf Tryz.f79 0) = chiT0 := by kernel_rfl
def chiT1 : Bool × List (List Nat × List Nat) := (true, [([], []), ([], []), ([], []), ([], []), ([], []), ([], []), ([], []), ([], []), ([], []), ([], []), ([], []), ([], []), ([], []), ([12], [12]), ([], []), ([14], [14]), ([], []), ([16], [16]), ([0], [0]), ([18], [18]), ([19, 1], [1, 19]), ([20, 2], [2, 20]), ([21, 3, 0, 1, 2, 3, 12, 13], [3, 21]), ([22, 13, 0, 1, 2, 3, 12, 13], [13, 22]), ([4], [4]), ([24], [24]), ([25, 5], [5, 25]), ([26, 6], [6, 26]), ([27, 7, 0, 1, 2, 3, 4, 5, 6, 7, 12, 13, 14, 15, 18, 19, 20, 21, 22, 23], [7, 27]), ([28, 15, 23, 0, 1, 2, 3, 4, 5, 6, 7, 12, 13, 14, 15, 18, 19, 20, 21, 22, 23], [15, 28]), ([8], [8]), ([30], [30]), ([31, 9], [9, 31]), ([32, 10], [10, 32]), ([33, 11, 0, 1, 2, 3, 4, 5, 6, 7, 8, 9, 10, 11, 12, 13, 14, 15, 16, 17, 18, 19, 20, 21, 22, 23, 24, 25, 26, 27, 28, 29], [11, 33]), ([34, 17, 29, 0, 1, 2, 3, 4, 5, 6, 7, 8, 9, 10, 11, 12, 13, 14, 15, 16, 17, 18, 19, 20, 21, 22, 23, 24, 25, 26, 27, 28, 29], [17, 34])])
theorem chi_tab1 : rtab .any (opsOf Tryz.f79 1) = chiT1 := by kernel_rfl
set_option maxHeartbeats 4000000 in
set_option maxRecDepth 100000 in
theorem chi_setS_calls (u0 w : World) (g : Nat) (e : TypeId) (cur : Array Value) (i j k s : Int) (hh : w.heap[g]? = some (.cells cur e (0, 0))) (hs : cur.size = 344) (hB : Below u0.heap.size u0 w) (hg : u0.heap.size ≤ g) (hi : 0 ≤ i ∧ i < 7) (hj : 0 ≤ j ∧ j < 7) (hk : 0 ≤ k ∧ k < 7) :
  Calls Tryz.prog 79 #[.pointer (some ⟨g, 0, none⟩), .int .i64 i, .int .i64 j, .int .i64 k, .int .i64 s] w fun e' w' => e' = .returned (.tuple #[]) ∧ w'.heap[g]? = some (.cells (chiSetS cur i j k s (wrap64 (-s))) e (0, 0)) ∧ Below u0.heap.size u0 w' ∧ KeepBut w w' g none := by
 have b1 := chiIx_lt hi hj hk
 have b2 := chiIx_lt hj hk hi
 have b3 := chiIx_lt hk hi hj
 have b4 := chiIx_lt hi hk hj
 have b5 := chiIx_lt hk hj hi
 have b6 := chiIx_lt hj hi hk
 have B := aM_ (show chiIx i j k < cur.size ∧ chiIx j k i < cur.size ∧ chiIx k i j < cur.size ∧ chiIx i k j < cur.size ∧ chiIx k j i < cur.size ∧ chiIx j i k < cur.size by rw [hs]; exact ⟨b1, b2, b3, b4, b5, b6⟩)
 have H0 := aM_ hh
 have HB := aM_ hB
 have HG := aM_ hg
 have HK := aM_ (KeepBut.refl w g none)
 clear b1 b2 b3 b4 b5 b6 hh hs hB hg
 have hix58 : ∀ (x : Int), 0 ≤ x ∧ x < 7 → ∀ (W : World) (o : Nat), (Instr.indexAt 94 (.pointer (some ⟨g, o, none⟩)) (.int .i64 x)).run Tryz.prog W = .ok (.pointer (some ⟨g, o + x.toNat * 49, none⟩)) W := by
  intro x hx W o
  have hu : Tryz.prog.underlying 94 = some (.array (Tryz.prog.arrayLen 94) (Tryz.prog.elem 94)) := by kernel_rfl
  have hl : Tryz.prog.arrayLen 94 = 7 := by kernel_rfl
  have he : Tryz.prog.elem 94 = 93 := by kernel_rfl
  have hz : (Tryz.prog.info? 93).map (·.size) = some 49 := by kernel_rfl
  obtain ⟨inf, hinf, hinfs⟩ := Option.map_eq_some_iff.1 hz
  rw [run_indexAt_array _ _ _ _ _ hu, hl, he]
  simp [sizeOf, typeInfo, hinf, hinfs, Result.andThen, hx.1, hx.2, Addr.add]
 have hix57 : ∀ (x : Int), 0 ≤ x ∧ x < 7 → ∀ (W : World) (o : Nat), (Instr.indexAt 93 (.pointer (some ⟨g, o, none⟩)) (.int .i64 x)).run Tryz.prog W = .ok (.pointer (some ⟨g, o + x.toNat * 7, none⟩)) W := by
  intro x hx W o
  have hu : Tryz.prog.underlying 93 = some (.array (Tryz.prog.arrayLen 93) (Tryz.prog.elem 93)) := by kernel_rfl
  have hl : Tryz.prog.arrayLen 93 = 7 := by kernel_rfl
  have he : Tryz.prog.elem 93 = 92 := by kernel_rfl
  have hz : (Tryz.prog.info? 92).map (·.size) = some 7 := by kernel_rfl
  obtain ⟨inf, hinf, hinfs⟩ := Option.map_eq_some_iff.1 hz
  rw [run_indexAt_array _ _ _ _ _ hu, hl, he]
  simp [sizeOf, typeInfo, hinf, hinfs, Result.andThen, hx.1, hx.2, Addr.add]
 have hix56 : ∀ (x : Int), 0 ≤ x ∧ x < 7 → ∀ (W : World) (o : Nat), (Instr.indexAt 92 (.pointer (some ⟨g, o, none⟩)) (.int .i64 x)).run Tryz.prog W = .ok (.pointer (some ⟨g, o + x.toNat, none⟩)) W := by
  intro x hx W o
  have hu : Tryz.prog.underlying 92 = some (.array (Tryz.prog.arrayLen 92) (Tryz.prog.elem 92)) := by kernel_rfl
  have hl : Tryz.prog.arrayLen 92 = 7 := by kernel_rfl
  have he : Tryz.prog.elem 92 = 3 := by kernel_rfl
  have hz : (Tryz.prog.info? 3).map (·.size) = some 1 := by kernel_rfl
  obtain ⟨inf, hinf, hinfs⟩ := Option.map_eq_some_iff.1 hz
  rw [run_indexAt_array _ _ _ _ _ hu, hl, he]
  simp [sizeOf, typeInfo, hinf, hinfs, Result.andThen, hx.1, hx.2, Addr.add]
 have I58i := hix58 i hi
 have I58j := hix58 j hj
 have I58k := hix58 k hk
 have I57i := hix57 i hi
 have I57j := hix57 j hj
 have I57k := hix57 k hk
 have I56i := hix56 i hi
 have I56j := hix56 j hj
 have I56k := hix56 k hk
 clear hix58 hix57 hix56
 go_enter Tryz.func79, Tryz.ntmps79
 go_wp2_with fail
 refine start_ (n := 33) (S := fun _ => True) (ds := []) (bm 33 0) (by kernel_rfl) rfl rfl trivial (fun hHeld => ?_); refine with_tab chi_tab0 (fun HT_ => ?_)
 have H0 := aM_ (show w.drew.heap[g]? = some (.cells cur e (0, 0)) from H0.out)
 have HB := aM_ (bD_ HB.out)
 have HK := aM_ (show KeepBut w w.drew g none from HK.out)
 generalize w.drew = w26 at H0 HB HK ⊢
 refine plan_ ((0, 0, 10, 1) :: (0, 1, 11, 3) :: (0, 2, 12, 7) :: (0, 3, 13, 15) :: (0, 4, 14, 31) :: (0, 5, 15, 63) :: (0, 6, 16, 127) :: (0, 7, 17, 255) :: (0, 8, 18, 511) :: (0, 9, 19, 1023) :: (0, 10, 20, 2047) :: (0, 11, 21, 4095) :: (0, 12, 22, 8191) :: (0, 13, 23, 16383) :: (0, 14, 24, 32767) :: (0, 15, 25, 65535) :: (0, 16, 26, 131071) :: (0, 17, 27, 262143) :: (0, 18, 28, 524287) :: (0, 19, 29, 1048575) :: (0, 21, 30, 3145727) :: (0, 22, 31, 7340031) :: (0, 23, 32, 15728639) :: (0, 24, 33, 32505855) :: (0, 27, 35, 166723583) :: (0, 28, 36, 435159039) :: (0, 29, 37, 972029951) :: (0, 30, 38, 2045771775) :: []) ?_
 iterate 28 (refine planV_ ?_ ?_ rfl rfl (any_of HT_.out (by kernel_rfl)) (fun _ _ _ h => h) (Or.inl ⟨by rfl, ?_⟩) ?_ ?_; rotate_left 2; (· intro w'; go_simp; with_reducible rfl); (· simp only [Act.put, List.setIfInBounds_toArray, List.set_cons_zero, List.set_cons_succ, i64_w, i32_w]; rfl))
 refine planEnd_ ?_
 refine one_ (i := 20) (N := none) (bm 33 2046820351) rfl rfl (one_of HT_.out (by kernel_rfl)) (by decide) (fun K hK => ?_)
 refine chi_store (u0 := u0) (w0 := w) (g := g) (j := chiIx i j k) rfl (by rfl) 3 (.tmp 29) (.tmp 22) rfl (.int .i64 s) rfl (by first | rfl | kernel_rfl | (simp [Act.eval]; done) | (show Value.int .i64 _ = _; congr 1; decide)) rfl (by kernel_rfl) rfl H0.out (by have := B.out; (try simp only [Array.size_setIfInBounds]); omega) HB.out HG.out HK.out (fun W1 hh hb hk_ => ?_)
 have H1 := aM_ hh
 have m1_ := aM_ hb
 have m2_ := aM_ hk_
 clear HB HK hh hb hk_ H0
 have HB := m1_
 have HK := m2_
 clear m1_ m2_
 refine hK.out _ _ trivial (fun hHeld => ?_)
 clear hK K
 refine plan_ ((0, 25, 34, 2080374783) :: []) ?_
 iterate 1 (refine planV_ ?_ ?_ rfl rfl (any_of HT_.out (by kernel_rfl)) (fun _ _ _ h => h) (Or.inl ⟨by rfl, ?_⟩) ?_ ?_; rotate_left 2; (· intro w'; go_simp; with_reducible rfl); (· simp only [Act.put, List.setIfInBounds_toArray, List.set_cons_zero, List.set_cons_succ, i64_w, i32_w]; rfl))
 refine planEnd_ ?_
 refine one_ (i := 26) (N := none) (bm 33 2147483647) rfl rfl (one_of HT_.out (by kernel_rfl)) (by decide) (fun K hK => ?_)
 refine chi_store (u0 := u0) (w0 := w) (g := g) (j := chiIx j k i) rfl (by rfl) 3 (.tmp 34) (.tmp 23) rfl (.int .i64 s) rfl (by first | rfl | kernel_rfl | (simp [Act.eval]; done) | (show Value.int .i64 _ = _; congr 1; decide)) rfl (by kernel_rfl) rfl H1.out (by have := B.out; (try simp only [Array.size_setIfInBounds]); omega) HB.out HG.out HK.out (fun W1 hh hb hk_ => ?_)
 have H2 := aM_ hh
 have m1_ := aM_ hb
 have m2_ := aM_ hk_
 clear HB HK hh hb hk_ H1
 have HB := m1_
 have HK := m2_
 clear m1_ m2_
 refine hK.out _ _ trivial (fun hHeld => ?_)
 clear hK K
 refine plan_ ((0, 31, 39, 4294967295) :: []) ?_
 iterate 1 (refine planV_ ?_ ?_ rfl rfl (any_of HT_.out (by kernel_rfl)) (fun _ _ _ h => h) (Or.inl ⟨by rfl, ?_⟩) ?_ ?_; rotate_left 2; (· intro w'; go_simp; with_reducible rfl); (· simp only [Act.put, List.setIfInBounds_toArray, List.set_cons_zero, List.set_cons_succ, i64_w, i32_w]; rfl))
 refine planEnd_ ?_
 refine one_ (i := 32) (N := none) (bm 33 8589934591) rfl rfl (one_of HT_.out (by kernel_rfl)) (by decide) (fun K hK => ?_)
 refine chi_store (u0 := u0) (w0 := w) (g := g) (j := chiIx k i j) rfl (by rfl) 3 (.tmp 39) (.tmp 24) rfl (.int .i64 s) rfl (by first | rfl | kernel_rfl | (simp [Act.eval]; done) | (show Value.int .i64 _ = _; congr 1; decide)) rfl (by kernel_rfl) rfl H2.out (by have := B.out; (try simp only [Array.size_setIfInBounds]); omega) HB.out HG.out HK.out (fun W1 hh hb hk_ => ?_)
 have H3 := aM_ hh
 have m1_ := aM_ hb
 have m2_ := aM_ hk_
 clear HB HK hh hb hk_ H2
 have HB := m1_
 have HK := m2_
 clear m1_ m2_
 refine hK.out _ _ trivial (fun hHeld => ?_)
 clear hK K
 refine done_ (done_of HT_.out (by kernel_rfl)) ?_
 clear HT_ hHeld
 go_wp2_with fail
 refine start_ (n := 36) (S := fun _ => True) (ds := []) (bm 36 0) (by kernel_rfl) rfl rfl trivial (fun hHeld => ?_); refine with_tab chi_tab1 (fun HT_ => ?_)
 have H3 := aM_ (show W1.drew.heap[g]? = _ from H3.out)
 have HB := aM_ (bD_ HB.out)
 have HK := aM_ (show KeepBut w W1.drew g none from HK.out)
 generalize W1.drew = w27 at H3 HB HK ⊢
 refine plan_ ((0, 0, 40, 1) :: (0, 1, 41, 3) :: (0, 2, 42, 7) :: (0, 3, 43, 15) :: (0, 4, 44, 31) :: (0, 5, 45, 63) :: (0, 6, 46, 127) :: (0, 7, 47, 255) :: (0, 8, 48, 511) :: (0, 9, 49, 1023) :: (0, 10, 50, 2047) :: (0, 11, 51, 4095) :: (0, 12, 52, 8191) :: (0, 13, 53, 16383) :: (0, 14, 54, 32767) :: (0, 15, 55, 65535) :: (0, 16, 56, 131071) :: (0, 17, 57, 262143) :: (0, 18, 58, 524287) :: (0, 19, 59, 1048575) :: (0, 20, 60, 2097151) :: (0, 21, 61, 4194303) :: (0, 22, 62, 8388607) :: (0, 24, 63, 25165823) :: (0, 25, 64, 58720255) :: (0, 26, 65, 125829119) :: (0, 27, 66, 260046847) :: (0, 30, 68, 1333788671) :: (0, 31, 69, 3481272319) :: (0, 32, 70, 7776239615) :: (0, 33, 71, 16366174207) :: []) ?_
 iterate 31 (refine planV_ ?_ ?_ rfl rfl (any_of HT_.out (by kernel_rfl)) (fun _ _ _ h => h) (Or.inl ⟨by rfl, ?_⟩) ?_ ?_; rotate_left 2; (· intro w'; go_simp; with_reducible rfl); (· simp only [Act.put, List.setIfInBounds_toArray, List.set_cons_zero, List.set_cons_succ, i64_w, i32_w]; rfl))
 refine planEnd_ ?_
 refine one_ (i := 23) (N := none) (bm 36 16374562815) rfl rfl (one_of HT_.out (by kernel_rfl)) (by decide) (fun K hK => ?_)
 refine chi_store (u0 := u0) (w0 := w) (g := g) (j := chiIx i k j) rfl (by rfl) 3 (.tmp 62) (.tmp 53) rfl (.int .i64 (wrap64 (-s))) rfl (by first | rfl | kernel_rfl | (simp [Act.eval]; done) | (show Value.int .i64 _ = _; congr 1; decide)) rfl (by kernel_rfl) rfl H3.out (by have := B.out; (try simp only [Array.size_setIfInBounds]); omega) HB.out HG.out HK.out (fun W1 hh hb hk_ => ?_)
 have H4 := aM_ hh
 have m1_ := aM_ hb
 have m2_ := aM_ hk_
 clear HB HK hh hb hk_ H3
 have HB := m1_
 have HK := m2_
 clear m1_ m2_
 refine hK.out _ _ trivial (fun hHeld => ?_)
 clear hK K
 refine plan_ ((0, 28, 67, 16642998271) :: []) ?_
 iterate 1 (refine planV_ ?_ ?_ rfl rfl (any_of HT_.out (by kernel_rfl)) (fun _ _ _ h => h) (Or.inl ⟨by rfl, ?_⟩) ?_ ?_; rotate_left 2; (· intro w'; go_simp; with_reducible rfl); (· simp only [Act.put, List.setIfInBounds_toArray, List.set_cons_zero, List.set_cons_succ, i64_w, i32_w]; rfl))
 refine planEnd_ ?_
 refine one_ (i := 29) (N := none) (bm 36 17179869183) rfl rfl (one_of HT_.out (by kernel_rfl)) (by decide) (fun K hK => ?_)
 refine chi_store (u0 := u0) (w0 := w) (g := g) (j := chiIx k j i) rfl (by rfl) 3 (.tmp 67) (.tmp 55) rfl (.int .i64 (wrap64 (-s))) rfl (by first | rfl | kernel_rfl | (simp [Act.eval]; done) | (show Value.int .i64 _ = _; congr 1; decide)) rfl (by kernel_rfl) rfl H4.out (by have := B.out; (try simp only [Array.size_setIfInBounds]); omega) HB.out HG.out HK.out (fun W1 hh hb hk_ => ?_)
 have H5 := aM_ hh
 have m1_ := aM_ hb
 have m2_ := aM_ hk_
 clear HB HK hh hb hk_ H4
 have HB := m1_
 have HK := m2_
 clear m1_ m2_
 refine hK.out _ _ trivial (fun hHeld => ?_)
 clear hK K
 refine plan_ ((0, 34, 72, 34359738367) :: []) ?_
 iterate 1 (refine planV_ ?_ ?_ rfl rfl (any_of HT_.out (by kernel_rfl)) (fun _ _ _ h => h) (Or.inl ⟨by rfl, ?_⟩) ?_ ?_; rotate_left 2; (· intro w'; go_simp; with_reducible rfl); (· simp only [Act.put, List.setIfInBounds_toArray, List.set_cons_zero, List.set_cons_succ, i64_w, i32_w]; rfl))
 refine planEnd_ ?_
 refine one_ (i := 35) (N := none) (bm 36 68719476735) rfl rfl (one_of HT_.out (by kernel_rfl)) (by decide) (fun K hK => ?_)
 refine chi_store (u0 := u0) (w0 := w) (g := g) (j := chiIx j i k) rfl (by rfl) 3 (.tmp 72) (.tmp 57) rfl (.int .i64 (wrap64 (-s))) rfl (by first | rfl | kernel_rfl | (simp [Act.eval]; done) | (show Value.int .i64 _ = _; congr 1; decide)) rfl (by kernel_rfl) rfl H5.out (by have := B.out; (try simp only [Array.size_setIfInBounds]); omega) HB.out HG.out HK.out (fun W1 hh hb hk_ => ?_)
 have H6 := aM_ hh
 have m1_ := aM_ hb
 have m2_ := aM_ hk_
 clear HB HK hh hb hk_ H5
 have HB := m1_
 have HK := m2_
 clear m1_ m2_
 refine hK.out _ _ trivial (fun hHeld => ?_)
 clear hK K
 refine done_ (done_of HT_.out (by kernel_rfl)) ?_
 clear HT_ hHeld
 go_wp2
 first | go_end0 | go_ret | go_ret2
 exact ⟨rfl, H6.out, HB.out, HK.out⟩
theorem chi_ix58 (g : Nat) (x : Int) (hx : 0 ≤ x ∧ x < 7) (W : World) (o : Nat) : (Instr.indexAt 94 (.pointer (some ⟨g, o, none⟩)) (.int .i64 x)).run Tryz.prog W = .ok (.pointer (some ⟨g, o + x.toNat * 49, none⟩)) W := by
 have hu : Tryz.prog.underlying 94 = some (.array (Tryz.prog.arrayLen 94) (Tryz.prog.elem 94)) := by kernel_rfl
 have hl : Tryz.prog.arrayLen 94 = 7 := by kernel_rfl
 have he : Tryz.prog.elem 94 = 93 := by kernel_rfl
 have hz : (Tryz.prog.info? 93).map (·.size) = some 49 := by kernel_rfl
 obtain ⟨inf, hinf, hinfs⟩ := Option.map_eq_some_iff.1 hz
 rw [run_indexAt_array _ _ _ _ _ hu, hl, he]
 simp [sizeOf, typeInfo, hinf, hinfs, Result.andThen, hx.1, hx.2, Addr.add]
theorem chi_ix57 (g : Nat) (x : Int) (hx : 0 ≤ x ∧ x < 7) (W : World) (o : Nat) : (Instr.indexAt 93 (.pointer (some ⟨g, o, none⟩)) (.int .i64 x)).run Tryz.prog W = .ok (.pointer (some ⟨g, o + x.toNat * 7, none⟩)) W := by
 have hu : Tryz.prog.underlying 93 = some (.array (Tryz.prog.arrayLen 93) (Tryz.prog.elem 93)) := by kernel_rfl
 have hl : Tryz.prog.arrayLen 93 = 7 := by kernel_rfl
 have he : Tryz.prog.elem 93 = 92 := by kernel_rfl
 have hz : (Tryz.prog.info? 92).map (·.size) = some 7 := by kernel_rfl
 obtain ⟨inf, hinf, hinfs⟩ := Option.map_eq_some_iff.1 hz
 rw [run_indexAt_array _ _ _ _ _ hu, hl, he]
 simp [sizeOf, typeInfo, hinf, hinfs, Result.andThen, hx.1, hx.2, Addr.add]
theorem chi_ix56 (g : Nat) (x : Int) (hx : 0 ≤ x ∧ x < 7) (W : World) (o : Nat) : (Instr.indexAt 92 (.pointer (some ⟨g, o, none⟩)) (.int .i64 x)).run Tryz.prog W = .ok (.pointer (some ⟨g, o + x.toNat, none⟩)) W := by
 have hu : Tryz.prog.underlying 92 = some (.array (Tryz.prog.arrayLen 92) (Tryz.prog.elem 92)) := by kernel_rfl
 have hl : Tryz.prog.arrayLen 92 = 7 := by kernel_rfl
 have he : Tryz.prog.elem 92 = 3 := by kernel_rfl
 have hz : (Tryz.prog.info? 3).map (·.size) = some 1 := by kernel_rfl
 obtain ⟨inf, hinf, hinfs⟩ := Option.map_eq_some_iff.1 hz
 rw [run_indexAt_array _ _ _ _ _ hu, hl, he]
 simp [sizeOf, typeInfo, hinf, hinfs, Result.andThen, hx.1, hx.2, Addr.add]
/-! a table of signs as a function -/
def upT (T : Nat → Int) (p : Nat) (v : Int) : Nat → Int := fun m => if m = p then v else T m
theorem chiC_size (n : Int) (T : Nat → Int) : (chiC n T).size = 344 := by simp [chiC]
theorem chiC_at (n : Int) (T : Nat → Int) (p : Nat) (h : p < 343) : (chiC n T)[1 + p]? = some (.int .i64 (T p)) := by
 unfold chiC
 rw [Array.getElem?_append_right (by simp)]
 simp [h]
theorem chiC_zero (n : Int) (T : Nat → Int) : (chiC n T)[0]? = some (.int .i64 n) := by
 unfold chiC
 rw [Array.getElem?_append_left (by simp)]
 rfl
theorem chiC_put (n : Int) (T : Nat → Int) (p : Nat) (v : Int) (h : p < 343) : (chiC n T).setIfInBounds (1 + p) (.int .i64 v) = chiC n (upT T p v) := by
 apply Array.ext_getElem?
 intro q
 rw [Array.getElem?_setIfInBounds]
 by_cases hq : 1 + p = q
 ·subst hq
  rw [if_pos rfl, if_pos (by rw [chiC_size]; omega), chiC_at _ _ _ h]
  simp [upT]
 ·rw [if_neg hq]
  by_cases h0 : q = 0
  ·subst h0; rw [chiC_zero, chiC_zero]
  ·obtain ⟨m, rfl⟩ : ∃ m, q = 1 + m := ⟨q - 1, by omega⟩
   by_cases hm : m < 343
   ·rw [chiC_at _ _ _ hm, chiC_at _ _ _ hm]
    unfold upT
    rw [if_neg (by omega)]
   ·rw [Array.getElem?_eq_none (by rw [chiC_size]; omega), Array.getElem?_eq_none (by rw [chiC_size]; omega)]
def tix (a b c : Int) : Nat := a.toNat * 49 + b.toNat * 7 + c.toNat
theorem tix_lt {a b c : Int} (ha : 0 ≤ a ∧ a < 7) (hb : 0 ≤ b ∧ b < 7) (hc : 0 ≤ c ∧ c < 7) : tix a b c < 343 := by unfold tix; omega
theorem tix_ix (a b c : Int) : chiIx a b c = 1 + tix a b c := by unfold chiIx tix; omega
def setT (T : Nat → Int) (i j k s : Int) : Nat → Int := upT (upT (upT (upT (upT (upT T (tix i j k) s) (tix j k i) s) (tix k i j) s) (tix i k j) (wrap64 (-s))) (tix k j i) (wrap64 (-s))) (tix j i k) (wrap64 (-s))
theorem chiC_setT (n : Int) (T : Nat → Int) (i j k s : Int) (hi : 0 ≤ i ∧ i < 7) (hj : 0 ≤ j ∧ j < 7) (hk : 0 ≤ k ∧ k < 7) : chiSetS (chiC n T) i j k s (wrap64 (-s)) = chiC n (setT T i j k s) := by
 unfold chiSetS setT
 simp only [tix_ix]
 rw [chiC_put _ _ _ _ (tix_lt hi hj hk), chiC_put _ _ _ _ (tix_lt hj hk hi), chiC_put _ _ _ _ (tix_lt hk hi hj), chiC_put _ _ _ _ (tix_lt hi hk hj), chiC_put _ _ _ _ (tix_lt hk hj hi), chiC_put _ _ _ _ (tix_lt hj hi hk)]
theorem chi_setT_calls (u0 w : World) (g : Nat) (n : Int) (T : Nat → Int) (i j k s : Int) (hI : IsS96 u0 w g n T) (hB : Below u0.heap.size u0 w) (hi : 0 ≤ i ∧ i < 7) (hj : 0 ≤ j ∧ j < 7) (hk : 0 ≤ k ∧ k < 7) :
  Calls Tryz.prog 79 #[.pointer (some ⟨g, 0, none⟩), .int .i64 i, .int .i64 j, .int .i64 k, .int .i64 s] w fun e' w' => e' = .returned (.tuple #[]) ∧ IsS96 u0 w' g n (setT T i j k s) ∧ Below u0.heap.size u0 w' ∧ KeepBut w w' g none := by
 refine (chi_setS_calls u0 w g _ (chiC n T) i j k s hI.1 (chiC_size n T) hB hI.2 hi hj hk).mono ?_
 rintro e' w' ⟨he, hh, hb, hk'⟩
 exact ⟨he, ⟨by rw [← chiC_setT n T i j k s hi hj hk]; exact hh, hI.2⟩, hb, hk'⟩
theorem chi_at7 {w : World} {w0 : World} {g : Nat} {n : Int} {T : Nat → Int} (hI : IsS96 w0 w g n T) : ∀ a b c : Int, 0 ≤ a ∧ a < 7 → 0 ≤ b ∧ b < 7 → 0 ≤ c ∧ c < 7 → w.cell? ⟨g, 1 + a.toNat * 49 + b.toNat * 7 + c.toNat, none⟩ = some (.int .i64 (T (a.toNat * 49 + b.toNat * 7 + c.toNat))) := by
 intro a b c ha hb hc
 have h := chiC_at n T (tix a b c) (tix_lt ha hb hc)
 rw [← tix_ix] at h
 exact (blk_cell hI.1 _).trans h
end Go.Proofs.YteaagaekdkolnaaGreatDoor.P

namespace Go.Proofs.YteaagaekdkolnaaGreatDoor.P
open Go.RowKit Go.Proofs.YteaagaekdkolnaaGreatDoorW.PrintWords Go.Proofs.YteaagaekdkolnaaGreatDoorW.PrintLast Go.Proofs.YteaagaekdkolnaaGreatDoorW.PrintMore
attribute [local go_sem] max2_int min2_int max_two min_two max_three min_three max_four min_four   -- for this text's walks alone
set_option linter.unusedVariables false
set_option linter.unusedSimpArgs false
/-! ### impl_chi_signs: function 80 -/
def sgnB (T : Nat → Int) (t : S59) : Int := if T (tix t.f0 t.f1 t.f2) > 0 then 43 else 45
def chiAsc (t : S59) : Prop := 0 ≤ t.f0 ∧ t.f0 < t.f1 ∧ t.f1 < t.f2 ∧ t.f2 < 7
theorem chi_store2 {P : Program} {ops : Array Oper} {o : Oper} {a : Act} {Q : Exit → Act → World → Prop} {W : World} {Kc : Act → World → Prop} {g : Nat} {e : TypeId} {cur : Array Value} (hN : o.dst = none) (hw : Region.wanted o (yielded ops a.tmps) = true) (t : TypeId) (p x : Operand) (ho : o.op = .store t p x) (u u1 u2 : Value)
  (haddr : a.eval p = .pointer (some ⟨g, 0, none⟩)) (hx : a.eval x = u) (hu : u.cells.toList = [u1, u2]) (ht : (P.info? t).map (·.size) = some 2) (h1 : ∀ q ∈ [u1, u2], q.oneCell' = true) (hh : W.heap[g]? = some (.cells cur e (0, 0))) (hj : 2 ≤ cur.size)
  (h : Kc a ((W.setCell ⟨g, 0, none⟩ u1).setCell ⟨g, 1, none⟩ u2)) : if Region.wanted o (yielded ops a.tmps) = true then Oper.wp P o a W Kc Q else Kc (a.put none undef) W := by
 have hrun := run_store_run (P := P) (o := 0) t u [u1, u2] hh hu ht (by simpa using hj) h1
 rw [if_pos hw]
 unfold Oper.wp execOp
 simp only [ho, haddr, hx, Sem.run_bind, Sem.run_pure, Result.andThen_ok, hrun]
 show Kc (a.put o.dst undef) _
 rw [hN]
 exact h
def chiT5 : Bool × List (List Nat × List Nat) := (true, [([], []), ([], []), ([1], [1]), ([], []), ([3], [3]), ([], []), ([5], [5]), ([0], [0]), ([7], [7]), ([8, 2], [2, 8]), ([9, 4], [4, 9]), ([10, 6], [6, 10]), ([11], [11]), ([12], [12])])
def chiB5 : List Nat := [0, 0, 2, 0, 8, 0, 32, 1, 129, 391, 927, 2047, 4095, 8191]
theorem chi_tab5 : rtab .any (opsOf Tryz.f80 5) = chiT5 := by kernel_rfl
theorem chi_bits5 : waitsOk chiT5.2 chiB5 = true := by kernel_rfl
def chiT9 : Bool × List (List Nat × List Nat) := (true, [([], []), ([0], [0]), ([1], [1]), ([2], [2]), ([], []), ([4], [4]), ([3, 5], [3, 5]), ([6, 0, 1, 2, 3, 4, 5, 6], [6])])
def chiB9 : List Nat := [0, 1, 3, 7, 0, 16, 63, 127]
theorem chi_tab9 : rtab .any (opsOf Tryz.f80 9) = chiT9 := by kernel_rfl
theorem chi_bits9 : waitsOk chiT9.2 chiB9 = true := by kernel_rfl
theorem chi_info5 : (Tryz.prog.info? 5).map (fun i => (i.zero, i.size, i.bytes)) = some (some (.int .u8 0), 1, 1) := by kernel_rfl
set_option maxHeartbeats 8000000 in
set_option maxRecDepth 100000 in
theorem chi_signsT_calls (K : Nat) (w0 w : World) (g : Nat) (n : Int) (T : Nat → Int) (r : List S59) (hr : impl_triplesOf.f K n = some r) (hlen : r.length ≤ 35) (hasc : ∀ t ∈ r, chiAsc t) (hI : IsS96 w0 w g n T) :
  Calls Tryz.prog 80 #[.pointer (some ⟨g, 0, none⟩)] w fun e' w' => e' = .returned (.agg #[.int .i64 n, .string (strOfNums (r.map (sgnB T)))]) ∧ Below w.heap.size w w' := by
 have hu75 := Tryz.underlying59
 have HB := aM_ (Below.refl w.heap.size w)
 have HH := aM_ (show ∀ w' : World, Below w.heap.size w w' → w'.heap[g]? = some (.cells (chiC n T) 96 (0, 0)) from fun w' h => blk_below hI.1 h)
 have HR := aM_ hr
 have HC := aM_ (chiC_zero n T)
 have HL := aM_ hlen
 have HA := aM_ hasc
 have H1 := aM_ (show ∀ a b c : Int, 0 ≤ a ∧ a < 7 → 0 ≤ b ∧ b < 7 → 0 ≤ c ∧ c < 7 → (chiC n T)[1 + a.toNat * 49 + b.toNat * 7 + c.toNat]? = some (.int .i64 (T (tix a b c))) from fun a b c h1 h2 h3 => by
  have h := chiC_at n T (tix a b c) (tix_lt h1 h2 h3)
  rw [← tix_ix] at h
  exact h)
 clear hr hlen hasc hI
 go_enter Tryz.func80, Tryz.ntmps80
 go_wp2_with (first | ((with_reducible refine gate_dst (N := 2) rfl ?_); refine box_event ?hg (N := 2) ?hd (cs := #[.int .i64 0, .string (⟨#[]⟩ : ByteArray)]) (t := 45) ?hr ?_; (case hd => rfl); (case hg => rfl); (case hr => first | (go_simp; done) | (go_simp; rfl)); intro gb101 hg w4 hbox hb; have n0_ := aM_ (below_step (by repeat (first | (with_reducible first | exact HB.out | apply bA_ | apply bN_ | apply bD_) | exact HB.out)) hb); have n1_ := aM_ (hbox); have n3_ := aM_ ((by rw [hg]; exact (below_size (by repeat (first | (with_reducible first | exact HB.out | apply bA_ | apply bN_ | apply bD_) | exact HB.out))) : w.heap.size ≤ gb101)); clear HB; have HB := n0_; have BK101 := n1_; have GE101 := n3_; clear n0_ n1_ n3_; clear hb hbox hg; have hcz0 : w4.cell? ⟨g, 0, none⟩ = some (.int .i64 n) := (blk_cell (HH.out _ HB.out) 0).trans HC.out) | ((with_reducible refine gate_callee (f := 38) rfl ?_); refine goesL_ (some 10) rfl rfl Tryz.func38 (by kernel_rfl) rfl #[.int .i64 n] rfl (by (try simp only [List.map_toArray, List.map_cons, List.map_nil]); first | done | rfl | (simp only [List.length_drop, List.length_take]; rfl)) ?_; (with_reducible refine (impl_triplesOf.calls K n r _ HR.out).mono ?_); rintro e w3 ⟨v102, rfl, ho0, hb⟩; refine ⟨_, rfl, ?_⟩; have n0_ := aM_ (Kd.R_lower ho0 (below_size (by repeat (first | (with_reducible first | exact HB.out | apply bA_ | apply bN_ | apply bD_) | exact HB.out)))); have n1_ := aM_ (below_step (by repeat (first | (with_reducible first | exact HB.out | apply bA_ | apply bN_ | apply bD_) | exact HB.out)) hb); have n2_ := aM_ (blk_below (g := gb101) (o := .cells #[.int .i64 0, .string (⟨#[]⟩ : ByteArray)] 45 (0, 0)) (by (with_reducible repeat (first | refine blk_drewN ?_ _ | refine blk_drew ?_ | refine blk_alloc ?_ _)); exact BK101.out) hb); clear HB BK101 hcz0; have HO_8 := n0_; have HB := n1_; have BK101 := n2_; clear n0_ n1_ n2_ hb ho0; obtain ⟨Ao4, co4, eo4⟩ := Kd.R_slice HO_8.out; subst eo4))
 go_loopg [3, 12] r.length (fun kq v3 v12 w' => ∃ (x : Int) (ix : Nat) (tx : List Int), v12 = .int .i64 x ∧ Aside0 (x = (ix : Int)) ∧ Aside0 (kq + ix = r.length) ∧ Aside0 (tx = (r.take ix).map (sgnB T)) ∧ Aside0 (w'.heap[gb101]? = some (.cells #[.int .i64 0, .string (⟨#[]⟩ : ByteArray)] 45 (0, 0))) ∧ Aside0 (Kd.R (Kd.int .u8) 5 w' w.heap.size (fun _ => True) v3 tx) ∧ Aside0 (Kd.R k59 59 w' w.heap.size (fun _ => True) (.slice Ao4 r.length co4) r) ∧ Aside0 (Below w.heap.size w w'))
 case atStart => exact ⟨0, 0, [], rfl, ⟨rfl⟩, ⟨rfl⟩, ⟨rfl⟩, ⟨BK101.out⟩, ⟨Kd.R_nil _ _ _ _ _⟩, HO_8, HB⟩
 case round =>
  clear BK101 HO_8 HB
  obtain ⟨x, ix, tx, rfl, HX, HK1, HT, BK101, HO_3, HO_8, HB⟩ := hrel
  by_cases c5 : x < (r.length : Int)
  ·have c5b0 : decide (x < (r.length : Int)) = true := decide_eq_true c5
   have hx := HX.out
   have p104 : 0 ≤ x := by omega
   have q104 := c5
   have hixn : ix < r.length := by omega
   have hrd : rd_T59 r x = r[ix] := by rw [hx]; simp [rd_T59, hixn]
   have hmem : rd_T59 r x ∈ r := by rw [hrd]; exact List.getElem_mem hixn
   have HASC := aM_ (HA.out _ hmem)
   have HSG := aM_ (show (r.take (ix + 1)).map (sgnB T) = (r.take ix).map (sgnB T) ++ [sgnB T (rd_T59 r x)] by rw [List.take_add_one, List.getElem?_eq_getElem hixn, hrd, List.map_append]; rfl)
   have HIX := aM_ hixn
   have HW : wrap64 (x + 1) = ((ix + 1 : Nat) : Int) := by have := HL.out; unfold wrap64; omega
   have HW := aM_ HW
   clear c5 hrd hmem hixn hx
   obtain ⟨ad104, e104, hx104_0, hx104_1, hx104_2⟩ := at_T59 (Kd.R_reads' HO_8.out).2.2 x p104 q104
   cases e104
   replace p104 := eq_true p104
   replace q104 := eq_true q104
   go_wp2_with ((with_reducible refine gate_dst (N := 5) rfl ?_); refine box_event ?hg (N := 5) ?hd (cs := #[.int .i64 0, .int .i64 0, .int .i64 0]) (t := 59) ?hr ?_; (case hd => rfl); (case hg => rfl); (case hr => first | (go_simp; done) | (go_simp; rfl)); intro gb105 hg w8 hbox hb; have n0_ := aM_ (Kd.R_below (Kd.R_elderB (by (with_reducible repeat (first | apply kA_ | apply kN_ | apply kD_)); exact HO_3.out) gb105 (Nat.le_of_eq hg.symm)) hb); have n1_ := aM_ (Kd.R_below (Kd.R_elderB (by (with_reducible repeat (first | apply kA_ | apply kN_ | apply kD_)); exact HO_8.out) gb105 (Nat.le_of_eq hg.symm)) hb); have n2_ := aM_ (below_step (by repeat (first | (with_reducible first | exact HB.out | apply bA_ | apply bN_ | apply bD_) | exact HB.out)) hb); have n3_ := aM_ (hbox); have n4_ := aM_ (show gb105 ≠ gb101 by have := blk_lt BK101.out; rw [hg]; show _ ≠ gb101; exact Nat.ne_of_gt this); have n5_ := aM_ ((by rw [hg]; exact (below_size (by repeat (first | (with_reducible first | exact HB.out | apply bA_ | apply bN_ | apply bD_) | exact HB.out))) : w.heap.size ≤ gb105)); have n6_ := aM_ (blk_below (g := gb101) (o := .cells #[.int .i64 0, .string (⟨#[]⟩ : ByteArray)] 45 (0, 0)) (by (with_reducible repeat (first | refine blk_drewN ?_ _ | refine blk_drew ?_ | refine blk_alloc ?_ _)); exact BK101.out) hb); clear HO_3; clear HO_8; clear HB; clear BK101; have HO_3 := n0_; have HO_8 := n1_; have HB := n2_; have BK105 := n3_; have GW105 := n4_; have GE105 := n5_; have BK101 := n6_; clear n0_ n1_ n2_ n3_ n4_ n5_ n6_; clear hb hbox hg; have hcz9_0 : w8.cell? ⟨gb105, 0, none⟩ = some (.int .i64 0) := (blk_cell BK105.out 0).trans rfl; have hcz9_1 : w8.cell? ⟨gb105, 1, none⟩ = some (.int .i64 0) := (blk_cell BK105.out 1).trans rfl; have hcz9_2 : w8.cell? ⟨gb105, 2, none⟩ = some (.int .i64 0) := (blk_cell BK105.out 2).trans rfl; have hfz9_0 := blk_frozen BK105.out 0; have hfz9_1 := blk_frozen BK105.out 1; have hfz9_2 := blk_frozen BK105.out 2)
   have hN := Ne.symm GW105.out
   have T75 := aM_ (show (((w8.setCell ⟨gb105, 0, none⟩ (.int .i64 (rd_T59 r x).f0)).setCell ⟨gb105, 1, none⟩ (.int .i64 (rd_T59 r x).f1)).setCell ⟨gb105, 2, none⟩ (.int .i64 (rd_T59 r x).f2)).heap[gb105]? = some (.cells #[.int .i64 (rd_T59 r x).f0, .int .i64 (rd_T59 r x).f1, .int .i64 (rd_T59 r x).f2] 59 (0, 0)) by
    refine blk_put (cs := #[.int .i64 (rd_T59 r x).f0, .int .i64 (rd_T59 r x).f1, .int .i64 0]) ?_ 2 _ rfl
    refine blk_put (cs := #[.int .i64 (rd_T59 r x).f0, .int .i64 0, .int .i64 0]) ?_ 1 _ rfl
    refine blk_put (cs := #[.int .i64 0, .int .i64 0, .int .i64 0]) ?_ 0 _ rfl
    exact BK105.out)
   have m1_ := aM_ ((Below.heap_setCell (w8.setCell ⟨gb105, 0, none⟩ (.int .i64 (rd_T59 r x).f0) |>.setCell ⟨gb105, 1, none⟩ (.int .i64 (rd_T59 r x).f1)) ⟨gb105, 2, none⟩ (.int .i64 (rd_T59 r x).f2) gb101 hN).trans ((Below.heap_setCell _ _ _ _ hN).trans ((Below.heap_setCell _ _ _ _ hN).trans BK101.out)))
   have m2_ := aM_ (below_set (v := (.int .i64 (rd_T59 r x).f2)) (j := 2) (below_set (v := (.int .i64 (rd_T59 r x).f1)) (j := 1) (below_set (v := (.int .i64 (rd_T59 r x).f0)) (j := 0) HB.out GE105.out) GE105.out) GE105.out)
   have m3_ := aM_ (Kd.R_far (p := ⟨gb105, 2, none⟩) (Kd.R_far (p := ⟨gb105, 1, none⟩) (Kd.R_far (p := ⟨gb105, 0, none⟩) HO_3.out (fun _ hk => hk.2) (.int .i64 ((rd_T59 r x).f0))) (fun _ hk => hk.2) (.int .i64 ((rd_T59 r x).f1))) (fun _ hk => hk.2) (.int .i64 ((rd_T59 r x).f2)))
   have m4_ := aM_ (Kd.R_far (p := ⟨gb105, 2, none⟩) (Kd.R_far (p := ⟨gb105, 1, none⟩) (Kd.R_far (p := ⟨gb105, 0, none⟩) HO_8.out (fun _ hk => hk.2) (.int .i64 ((rd_T59 r x).f0))) (fun _ hk => hk.2) (.int .i64 ((rd_T59 r x).f1))) (fun _ hk => hk.2) (.int .i64 ((rd_T59 r x).f2)))
   clear BK101 HB HO_3 HO_8 BK105 hcz9_0 hcz9_1 hcz9_2 hfz9_0 hfz9_1 hfz9_2 hx104_0 hx104_1 hx104_2 hN
   generalize ((w8.setCell ⟨gb105, 0, none⟩ (.int .i64 (rd_T59 r x).f0)).setCell ⟨gb105, 1, none⟩ (.int .i64 (rd_T59 r x).f1)).setCell ⟨gb105, 2, none⟩ (.int .i64 (rd_T59 r x).f2) = wA at T75 m1_ m2_ m3_ m4_ ⊢
   have BK101 := m1_
   have HB := m2_
   have HO_3 := aM_ (kD_ (Kd.R_mono (ok' := fun _ => True) m3_.out (fun _ _ => trivial)))
   have HO_8 := aM_ (kD_ (Kd.R_mono (ok' := fun _ => True) m4_.out (fun _ _ => trivial)))
   clear m1_ m2_ m3_ m4_
   have hA := HASC.out
   unfold chiAsc at hA
   have I58 := chi_ix58 g (rd_T59 r x).f0 (by omega)
   have I57 := chi_ix57 g (rd_T59 r x).f1 (by omega)
   have I56 := chi_ix56 g (rd_T59 r x).f2 (by omega)
   have hone := H1.out (rd_T59 r x).f0 (rd_T59 r x).f1 (rd_T59 r x).f2 (by omega) (by omega) (by omega)
   obtain ⟨v, hv⟩ : ∃ v, T (tix (rd_T59 r x).f0 (rd_T59 r x).f1 (rd_T59 r x).f2) = v := ⟨_, rfl⟩
   rw [hv] at hone
   have HONE := aM_ hone
   have HV := aM_ (show sgnB T (rd_T59 r x) = if v > 0 then 43 else 45 by unfold sgnB; rw [hv])
   clear hA hone hv
   refine start_ (n := 14) (S := fun w' => w'.cell? ⟨gb105, 0, none⟩ = some (.int .i64 (rd_T59 r x).f0) ∧ w'.cell? ⟨gb105, 1, none⟩ = some (.int .i64 (rd_T59 r x).f1) ∧ w'.cell? ⟨gb105, 2, none⟩ = some (.int .i64 (rd_T59 r x).f2) ∧ w'.cell? ⟨g, 1 + (rd_T59 r x).f0.toNat * 49 + (rd_T59 r x).f1.toNat * 7 + (rd_T59 r x).f2.toNat, none⟩ = some (.int .i64 v)) (ds := []) (bm 14 0) (by kernel_rfl) rfl rfl ⟨(blk_cell (w := wA) T75.out 0).trans rfl, (blk_cell (w := wA) T75.out 1).trans rfl, (blk_cell (w := wA) T75.out 2).trans rfl, (blk_cell (w := wA) (HH.out wA HB.out) _).trans HONE.out⟩ (fun hHeld => ?_); refine with_tabW chi_tab5 chi_bits5 (fun HT_ HW_ => ?_)
   have HB := aM_ (bD_ HB.out)
   have BK101 := aM_ (show wA.drew.heap[gb101]? = _ from BK101.out)
   clear T75
   generalize wA.drew = wB at HB BK101 HO_3 HO_8 hHeld ⊢
   refine plan_ ((0, 0, 16, 1) :: (0, 1, 17, 3) :: (0, 3, 19, 11) :: (0, 5, 21, 43) :: (0, 7, 23, 171) :: (0, 8, 24, 427) :: (2, 2, 18, 431) :: (2, 4, 20, 447) :: (2, 6, 22, 511) :: (0, 9, 25, 1023) :: (0, 10, 26, 2047) :: (0, 11, 27, 4095) :: (2, 12, 28, 8191) :: (0, 13, 29, 16383) :: []) ?_
   iterate 14 (first | (refine planV_ ?_ ?_ rfl rfl (any_of HT_.out (by kernel_rfl)) (fun _ _ _ h => h) (Or.inl ⟨by rfl, ?_⟩) ?_ ?_; rotate_left 2; (· intro w'; go_simp; with_reducible rfl); (· simp only [Act.put, List.setIfInBounds_toArray, List.set_cons_zero, List.set_cons_succ, i64_w, i32_w]; rfl)) | (refine planT_ ?_ ?_ rfl rfl (take_ofW HT_.out HW_.out (by kernel_rfl)) (fun _ _ _ h => h) (Or.inl ⟨by rfl, ?_⟩) hHeld ?_ ?_; rotate_left 2; (· rintro w' ⟨s0, s1, s2, s3⟩; go_simp; with_reducible rfl); (· simp only [Act.put, List.setIfInBounds_toArray, List.set_cons_zero, List.set_cons_succ, i64_w, i32_w]; rfl)))
   refine planEnd_ ?_
   refine done_ (done_of HT_.out (by kernel_rfl)) ?_
   clear HT_ HW_ hHeld I58 I57 I56
   by_cases cv : v > 0
   ·have HQ := aM_ cv
    have cvb : decide (0 < v) = true := decide_eq_true cv
    rw [cvb]
    clear cv cvb
    go_wp2_with ((with_reducible refine gate_builtin (b := .append) (xs := #[.tmp 30, .tmp 31]) rfl ?_); at_builtin; refine Kd.R_append (Kd.int .u8) (w0 := w) w.heap.size rfl (.tmp 30) (.tmp 31) 43 5 (.int .u8 0) 1 rfl Tryz.underlying43 chi_info5 rfl (by decide) (by omega) u3 tx 43 [.int .u8 43] (fun _ => True) (fun _ => False) rfl rfl ?aP (fun _ hk => hk.elim) ?aF ?aO ?aB ?aS ?aL ?_; (case aP => exact rfl); (case aB => exact (by repeat (first | (with_reducible first | exact HB.out | apply bA_ | apply bN_ | apply bD_) | exact HB.out))); (case aF => exact (fun _ _ => trivial)); (case aO => exact (by (with_reducible repeat (first | apply kA_ | apply kN_ | apply kD_)); exact HO_3.out)); (case aS => exact (below_size (by repeat (first | (with_reducible first | exact HB.out | apply bA_ | apply bN_ | apply bD_) | exact HB.out)))); (case aL => have h1 := HL.out; have h2 := HIX.out; rw [HT.out, List.length_map, List.length_take]; omega); intro v102 w7 ho hb hg hat; have n0_ := aM_ (Kd.R_over' (by (with_reducible repeat (first | apply kA_ | apply kN_ | apply kD_)); exact HO_8.out) (Kd.R_typed (by (with_reducible repeat (first | apply kA_ | apply kN_ | apply kD_)); exact HO_3.out)) (by decide) hg); have n1_ := aM_ (blk_grown (g := gb101) (o := .cells #[.int .i64 0, .string (⟨#[]⟩ : ByteArray)] 45 (0, 0)) (by (with_reducible repeat (first | refine blk_drewN ?_ _ | refine blk_drew ?_ | refine blk_alloc ?_ _)); exact BK101.out) hg (Kd.R_ne HO_3.out BK101.out (by decide))); have n2_ := aM_ (hb); have n3_ := aM_ (ho); clear HO_8; clear BK101; clear HB; clear HO_3; have HO_8 := n0_; have BK101 := n1_; have HB := n2_; have HO_3 := n3_; clear n0_ n1_ n2_ n3_; clear ho hb hg hat)
    go_roundg (gk - 1)
    case measure => have := HK1.out; have := HIX.out; omega
    case rel => exact ⟨wrap64 (x + 1), ix + 1, tx ++ [43], (by first | rfl | (simp; done) | (rw [HW.out]; first | rfl | (simp; done))), ⟨HW.out⟩, ⟨by have := HK1.out; have := HIX.out; omega⟩, ⟨by rw [HSG.out, HT.out, HV.out, if_pos (by have := HQ.out; omega)]⟩, ⟨BK101.out⟩, ⟨HO_3.out⟩, ⟨HO_8.out⟩, ⟨HB.out⟩⟩
   ·have HQ := aM_ cv
    have cvb : decide (0 < v) = false := decide_eq_false cv
    rw [cvb]
    clear cv cvb
    go_wp2_with ((with_reducible refine gate_builtin (b := .append) (xs := #[.tmp 33, .tmp 34]) rfl ?_); at_builtin; refine Kd.R_append (Kd.int .u8) (w0 := w) w.heap.size rfl (.tmp 33) (.tmp 34) 43 5 (.int .u8 0) 1 rfl Tryz.underlying43 chi_info5 rfl (by decide) (by omega) u3 tx 45 [.int .u8 45] (fun _ => True) (fun _ => False) rfl rfl ?aP (fun _ hk => hk.elim) ?aF ?aO ?aB ?aS ?aL ?_; (case aP => exact rfl); (case aB => exact (by repeat (first | (with_reducible first | exact HB.out | apply bA_ | apply bN_ | apply bD_) | exact HB.out))); (case aF => exact (fun _ _ => trivial)); (case aO => exact (by (with_reducible repeat (first | apply kA_ | apply kN_ | apply kD_)); exact HO_3.out)); (case aS => exact (below_size (by repeat (first | (with_reducible first | exact HB.out | apply bA_ | apply bN_ | apply bD_) | exact HB.out)))); (case aL => have h1 := HL.out; have h2 := HIX.out; rw [HT.out, List.length_map, List.length_take]; omega); intro v102 w7 ho hb hg hat; have n0_ := aM_ (Kd.R_over' (by (with_reducible repeat (first | apply kA_ | apply kN_ | apply kD_)); exact HO_8.out) (Kd.R_typed (by (with_reducible repeat (first | apply kA_ | apply kN_ | apply kD_)); exact HO_3.out)) (by decide) hg); have n1_ := aM_ (blk_grown (g := gb101) (o := .cells #[.int .i64 0, .string (⟨#[]⟩ : ByteArray)] 45 (0, 0)) (by (with_reducible repeat (first | refine blk_drewN ?_ _ | refine blk_drew ?_ | refine blk_alloc ?_ _)); exact BK101.out) hg (Kd.R_ne HO_3.out BK101.out (by decide))); have n2_ := aM_ (hb); have n3_ := aM_ (ho); clear HO_8; clear BK101; clear HB; clear HO_3; have HO_8 := n0_; have BK101 := n1_; have HB := n2_; have HO_3 := n3_; clear n0_ n1_ n2_ n3_; clear ho hb hg hat)
    go_roundg (gk - 1)
    case measure => have := HK1.out; have := HIX.out; omega
    case rel => exact ⟨wrap64 (x + 1), ix + 1, tx ++ [45], (by first | rfl | (simp; done) | (rw [HW.out]; first | rfl | (simp; done))), ⟨HW.out⟩, ⟨by have := HK1.out; have := HIX.out; omega⟩, ⟨by rw [HSG.out, HT.out, HV.out, if_neg (by have := HQ.out; omega)]⟩, ⟨BK101.out⟩, ⟨HO_3.out⟩, ⟨HO_8.out⟩, ⟨HB.out⟩⟩
  ·have c5b0 : decide (x < (r.length : Int)) = false := decide_eq_false c5
   have HE := aM_ (show ix = r.length by have := HK1.out; have := HX.out; omega)
   clear c5
   go_wp2_with fail
   have hcv : ∀ w' : World, Kd.R (Kd.int .u8) 5 w' w.heap.size (fun _ => True) u3 tx → (convert 43 9 u3).run Tryz.prog w' = .ok (.string (strOfNums tx)) w' := fun w' h => own_string (P := Tryz.prog) Tryz.underlying43 Tryz.underlying5 Tryz.underlying9 (Kd.own_of_R h)
   refine start_ (n := 8) (S := fun w' => w'.cell? ⟨g, 0, none⟩ = some (.int .i64 n) ∧ (convert 43 9 u3).run Tryz.prog w' = .ok (.string (strOfNums tx)) w') (ds := []) (bm 8 0) (by kernel_rfl) rfl rfl ⟨(blk_cell (HH.out _ HB.out) 0).trans HC.out, hcv _ (kD_ HO_3.out)⟩ (fun hHeld => ?_); refine with_tabW chi_tab9 chi_bits9 (fun HT_ HW_ => ?_)
   have HB := aM_ (bD_ HB.out)
   have BK101 := aM_ (show wr.drew.heap[gb101]? = _ from BK101.out)
   have HO_3 := aM_ (kD_ HO_3.out)
   have HCV := aM_ hcv
   clear hcv HO_8
   generalize wr.drew = wB at HB BK101 HO_3 hHeld ⊢
   refine plan_ ((0, 0, 37, 1) :: (0, 1, 38, 3) :: (0, 2, 39, 7) :: (0, 4, 41, 23) :: (2, 3, 40, 31) :: (2, 5, 42, 63) :: (0, 6, 43, 127) :: []) ?_
   iterate 7 (first | (refine planV_ ?_ ?_ rfl rfl (any_of HT_.out (by kernel_rfl)) (fun _ _ _ h => h) (Or.inl ⟨by rfl, ?_⟩) ?_ ?_; rotate_left 2; (· intro w'; go_simp; with_reducible rfl); (· simp only [Act.put, List.setIfInBounds_toArray, List.set_cons_zero, List.set_cons_succ, i64_w, i32_w]; rfl)) | (refine planT_ ?_ ?_ rfl rfl (take_ofW HT_.out HW_.out (by kernel_rfl)) (fun _ _ _ h => h) (Or.inl ⟨by rfl, ?_⟩) hHeld ?_ ?_; rotate_left 2; (· rintro w' ⟨s0, s1⟩; go_simp; with_reducible rfl); (· simp only [Act.put, List.setIfInBounds_toArray, List.set_cons_zero, List.set_cons_succ, i64_w, i32_w]; rfl)))
   refine planEnd_ ?_
   refine one_ (i := 7) (N := none) (bm 8 255) rfl rfl (one_of HT_.out (by kernel_rfl)) (by decide) (fun K hK => ?_)
   refine chi_store2 (g := gb101) rfl (by rfl) 45 (.tmp 2) (.tmp 43) rfl (.agg #[.int .i64 n, .string (strOfNums tx)]) (.int .i64 n) (.string (strOfNums tx)) rfl rfl rfl (by kernel_rfl) (by intro q hq; simp at hq; rcases hq with rfl | rfl <;> rfl) BK101.out (by decide) ?_
   refine hK.out _ _ ⟨(blk_cell (HH.out _ (below_set (below_set HB.out GE101.out) GE101.out)) 0).trans HC.out, HCV.out _ (Kd.R_mono (Kd.R_far (p := ⟨gb101, 1, none⟩) (Kd.R_far (p := ⟨gb101, 0, none⟩) (Kd.R_types HO_3.out BK101.out (by decide)) (fun _ hk => hk.2) _) (fun _ hk => hk.2) _) (fun _ _ => trivial))⟩ (fun hHeld => ?_)
   clear hK K
   refine done_ (done_of HT_.out (by kernel_rfl)) ?_
   clear HT_ HW_ hHeld
   go_wp2
   refine bodyPost_ret (results_cell_row rfl _ _ gb101 45 #[.int .i64 n, .string (strOfNums tx)] (0, 0) _ rfl (by refine blk_put (cs := #[.int .i64 n, .string (⟨#[]⟩ : ByteArray)]) ?_ 1 _ rfl; refine blk_put (cs := #[.int .i64 0, .string (⟨#[]⟩ : ByteArray)]) ?_ 0 _ rfl; exact BK101.out) Tryz.underlying45 rfl (by kernel_rfl)) rfl ?_
   exact ⟨by rw [HT.out, HE.out, List.take_length], below_set (below_set HB.out GE101.out) GE101.out⟩
def chiList (n : Int) : List S59 := (impl_triplesOf.f 300 n).getD []
theorem chi_list (n : Int) (h : 3 ≤ n ∧ n ≤ 7) : impl_triplesOf.f 300 n = some (chiList n) ∧ (chiList n).length ≤ 35 ∧ ∀ t ∈ chiList n, chiAsc t := by
 obtain ⟨h1, h2⟩ := h
 have hn : n = 3 ∨ n = 4 ∨ n = 5 ∨ n = 6 ∨ n = 7 := by omega
 have hd : ∀ l : List S59, l.all (fun t => decide (0 ≤ t.f0) && decide (t.f0 < t.f1) && decide (t.f1 < t.f2) && decide (t.f2 < 7)) = true → ∀ t ∈ l, chiAsc t := by
  intro l hl t ht
  have := List.all_eq_true.1 hl t ht
  simp only [Bool.and_eq_true, decide_eq_true_eq] at this
  exact ⟨this.1.1.1, this.1.1.2, this.1.2, this.2⟩
 rcases hn with rfl | rfl | rfl | rfl | rfl
 ·exact ⟨by kernel_rfl, of_decide_eq_true (by kernel_rfl), hd _ (by kernel_rfl)⟩
 ·exact ⟨by kernel_rfl, of_decide_eq_true (by kernel_rfl), hd _ (by kernel_rfl)⟩
 ·exact ⟨by kernel_rfl, of_decide_eq_true (by kernel_rfl), hd _ (by kernel_rfl)⟩
 ·exact ⟨by kernel_rfl, of_decide_eq_true (by kernel_rfl), hd _ (by kernel_rfl)⟩
 ·exact ⟨by kernel_rfl, of_decide_eq_true (by kernel_rfl), hd _ (by kernel_rfl)⟩
end Go.Proofs.YteaagaekdkolnaaGreatDoor.P

namespace Go.Proofs.YteaagaekdkolnaaGreatDoor.P
open Go.RowKit Go.Proofs.YteaagaekdkolnaaGreatDoorW.PrintWords Go.Proofs.YteaagaekdkolnaaGreatDoorW.PrintLast Go.Proofs.YteaagaekdkolnaaGreatDoorW.PrintMore
attribute [local go_sem] max2_int min2_int max_two min_two max_three min_three max_four min_four   -- for this text's walks alone
set_option linter.unusedVariables false
set_option linter.unusedSimpArgs false
/-! ### impl_tableOf: function 66 -/
def tabStep (s : ByteArray) (T : Nat → Int) (p : S59 × Nat) : Nat → Int := setT T p.1.f0 p.1.f1 p.1.f2 (if bt s (p.2 : Int) = 45 then -1 else 1)
def tabOf (s : ByteArray) (L : List S59) : Nat → Int := L.zipIdx.foldl (tabStep s) fun _ => 0
def impl_tableOf.f (a0_0 : Int) (a0_1 : ByteArray) : Option (Int × (Nat → Int)) := if (3 ≤ a0_0 ∧ a0_0 ≤ 7) ∧ (chiList a0_0).length ≤ a0_1.size then some (a0_0, tabOf a0_1 (chiList a0_0)) else none
theorem chi_zero_cells : Tryz.zeroCells96 = chiC 0 (fun _ => 0) := by kernel_rfl
theorem chiC_num (m n : Int) (T : Nat → Int) : (chiC m T).setIfInBounds 0 (.int .i64 n) = chiC n T := by
 apply Array.ext_getElem?
 intro q
 rw [Array.getElem?_setIfInBounds]
 by_cases h0 : 0 = q
 ·subst h0
  rw [if_pos rfl, if_pos (by rw [chiC_size]; omega), chiC_zero]
 ·rw [if_neg h0]
  obtain ⟨p, rfl⟩ : ∃ p, q = 1 + p := ⟨q - 1, by omega⟩
  by_cases hm : p < 343
  ·rw [chiC_at _ _ _ hm, chiC_at _ _ _ hm]
  ·rw [Array.getElem?_eq_none (by rw [chiC_size]; omega), Array.getElem?_eq_none (by rw [chiC_size]; omega)]
theorem chi_fresh (n : Int) : Tryz.zeroCells96.setIfInBounds 0 (.int .i64 n) = chiC n (fun _ => 0) := by rw [chi_zero_cells, chiC_num]
theorem zip_step {α : Type} (L : List α) (ix : Nat) (h : ix < L.length) : (L.take (ix + 1)).zipIdx = (L.take ix).zipIdx ++ [(L[ix], ix)] := by
 rw [List.take_add_one, List.getElem?_eq_getElem h, List.zipIdx_append]
 simp [Nat.min_eq_left (Nat.le_of_lt h)]
set_option maxHeartbeats 8000000 in
set_option maxRecDepth 100000 in
theorem impl_tableOf.calls (a0_0 : Int) (a0_1 : ByteArray) (r1 : Int) (r2 : Nat → Int) (w0 w : World) (hB : Below w0.heap.size w0 w) (h : impl_tableOf.f a0_0 a0_1 = some (r1, r2)) :
  Calls Tryz.prog 66 #[.agg #[.int .i64 a0_0, .string a0_1]] w fun e w' => ∃ g, e = .returned (.pointer (some ⟨g, 0, none⟩)) ∧ IsS96 w0 w' g r1 r2 ∧ Below w0.heap.size w0 w' ∧ Below w.heap.size w w' := by
 unfold impl_tableOf.f at h
 by_cases hc : (3 ≤ a0_0 ∧ a0_0 ≤ 7) ∧ (chiList a0_0).length ≤ a0_1.size
 case neg => rw [if_neg hc] at h; cases h
 rw [if_pos hc] at h
 simp only [Option.some.injEq, Prod.mk.injEq] at h
 obtain ⟨rfl, rfl⟩ := h
 suffices hs : Calls Tryz.prog 66 #[.agg #[.int .i64 a0_0, .string a0_1]] w fun e w' => ∃ g, e = .returned (.pointer (some ⟨g, 0, none⟩)) ∧ IsS96 w w' g a0_0 (tabOf a0_1 (chiList a0_0)) ∧ Below w.heap.size w w' by
  refine hs.mono ?_
  rintro e w' ⟨g, he, hi, hb⟩
  exact ⟨g, he, ⟨hi.1, Nat.le_trans hB.size hi.2⟩, below_step hB hb, hb⟩
 obtain ⟨h37, hsz⟩ := hc
 obtain ⟨hr, hlen, hasc⟩ := chi_list a0_0 h37
 have hu75 := Tryz.underlying59
 have hus := Tryz.underlying45
 have HR := aM_ hr
 have HSZ := aM_ hsz
 have HL := aM_ hlen
 have HA := aM_ hasc
 obtain ⟨gS, hgS⟩ : ∃ gS, w.heap.size = gS := ⟨_, rfl⟩
 have HGS := aM_ hgS
 clear h37 hB hr hsz hlen hasc
 go_enter Tryz.func66, Tryz.ntmps66
 go_wp2_with fail
 have hB0 := bA_ (bA_ (Below.refl w.heap.size w) (.cells #[.int .i64 a0_0, .string a0_1] 45)) (.cells (Tryz.zeroCells96.setIfInBounds 0 (.int .i64 a0_0)) 96)
 have hbs : ((w.alloc (.cells #[.int .i64 a0_0, .string a0_1] 45)).alloc (.cells (Tryz.zeroCells96.setIfInBounds 0 (.int .i64 a0_0)) 96)).heap[gS]? = some (.cells #[.int .i64 a0_0, .string a0_1] 45 (0, 0)) := by
  rw [← HGS.out]
  exact blk_alloc (blk_new w _) _
 have hsz1 : (w.alloc (.cells #[.int .i64 a0_0, .string a0_1] 45)).heap.size = gS + 1 := by rw [← HGS.out]; show (w.heap.push _).size = _; rw [Array.size_push]
 have hch : ((w.alloc (.cells #[.int .i64 a0_0, .string a0_1] 45)).alloc (.cells (Tryz.zeroCells96.setIfInBounds 0 (.int .i64 a0_0)) 96)).heap[gS + 1]? = some (.cells (chiC a0_0 (fun _ => 0)) 96 (0, 0)) := by
  rw [← hsz1, ← chi_fresh]
  exact blk_new (w.alloc (.cells #[.int .i64 a0_0, .string a0_1] 45)) _
 obtain ⟨g, hg⟩ : ∃ g, gS + 1 = g := ⟨_, rfl⟩
 rw [hg] at hch ⊢
 have HGG := aM_ (show gS ≠ g by omega)
 have HB := aM_ hB0
 have BS := aM_ hbs
 have HI0 := aM_ (show IsS96 w _ g a0_0 (fun _ => 0) from ⟨hch, by have := HGS.out; omega⟩)
 generalize (w.alloc (.cells #[.int .i64 a0_0, .string a0_1] 45)).alloc (.cells (Tryz.zeroCells96.setIfInBounds 0 (.int .i64 a0_0)) 96) = wC at HB BS HI0 ⊢
 clear hB0 hbs hsz1 hch hg
 (with_reducible refine (impl_triplesOf.calls 300 a0_0 (chiList a0_0) _ HR.out).mono ?_)
 rintro e w3 ⟨v102, rfl, ho0, hb⟩
 have HO_8 := aM_ (Kd.R_lower ho0 (below_size HB.out))
 have n1_ := aM_ (below_step HB.out hb)
 have n2_ := aM_ (blk_below BS.out hb)
 have n3_ := aM_ (HI0.out.below hb)
 clear HB BS HI0
 have HB := n1_
 have BS := n2_
 have HI0 := n3_
 clear n1_ n2_ n3_ hb ho0
 obtain ⟨Ao4, co4, eo4⟩ := Kd.R_slice HO_8.out
 subst eo4
 obtain ⟨r, hr⟩ : ∃ r, chiList a0_0 = r := ⟨_, rfl⟩
 have HRR := aM_ hr
 rw [hr] at HO_8 HL HA HSZ ⊢
 clear hr HR
 go_wp2
 go_loopg [15] r.length (fun kq v15 w' => ∃ (x : Int) (ix : Nat) (T : Nat → Int), v15 = .int .i64 x ∧ Aside0 (x = (ix : Int)) ∧ Aside0 (kq + ix = r.length) ∧ Aside0 (T = ((r.take ix).zipIdx).foldl (tabStep a0_1) (fun _ => 0)) ∧ Aside0 (IsS96 w w' g a0_0 T) ∧ Aside0 (w'.heap[gS]? = some (.cells #[.int .i64 a0_0, .string a0_1] 45 (0, 0))) ∧ Aside0 (Kd.R k59 59 w' w.heap.size (fun _ => True) (.slice Ao4 r.length co4) r) ∧ Aside0 (Below w.heap.size w w'))
 case atStart => exact ⟨0, 0, _, rfl, ⟨rfl⟩, ⟨rfl⟩, ⟨rfl⟩, HI0, BS, HO_8, HB⟩
 case round =>
  clear HI0 BS HO_8 HB
  obtain ⟨x, ix, T, rfl, HX, HK1, HT, HI0, BS, HO_8, HB⟩ := hrel
  by_cases c5 : x < (r.length : Int)
  ·have c5b0 : decide (x < (r.length : Int)) = true := decide_eq_true c5
   have hx := HX.out
   have p104 : 0 ≤ x := by omega
   have q104 := c5
   have hixn : ix < r.length := by omega
   have hrd : rd_T59 r x = r[ix] := by rw [hx]; simp [rd_T59, hixn]
   have HASC := aM_ (show chiAsc (rd_T59 r x) by rw [hrd]; exact HA.out _ (List.getElem_mem hixn))
   have HST := aM_ (show ((r.take (ix + 1)).zipIdx).foldl (tabStep a0_1) (fun _ => 0) = tabStep a0_1 (((r.take ix).zipIdx).foldl (tabStep a0_1) (fun _ => 0)) (rd_T59 r x, ix) by rw [zip_step _ _ hixn, List.foldl_append, hrd]; rfl)
   have HIX := aM_ hixn
   have HW : wrap64 (x + 1) = ((ix + 1 : Nat) : Int) := by have := HL.out; unfold wrap64; omega
   have HW := aM_ HW
   have qz0 : (x < (a0_1.size : Int)) = True := eq_true (by have := HSZ.out; omega)
   have hxz := bt_at a0_1 x
   clear c5 hrd hixn hx
   obtain ⟨ad104, e104, hx104_0, hx104_1, hx104_2⟩ := at_T59 (Kd.R_reads' HO_8.out).2.2 x p104 q104
   cases e104
   replace p104 := eq_true p104
   replace q104 := eq_true q104
   by_cases cv : bt a0_1 x = 45
   ·have HSG := aM_ (show (if bt a0_1 x = 45 then (-1 : Int) else 1) = (-1) by rw [if_pos cv])
    have cvb : ((bt a0_1 x) == 45) = true := beq_iff_eq.2 cv
    clear cv
    go_wp2_with (first | ((with_reducible refine gate_dst (N := 5) rfl ?_); refine box_event ?hg (N := 5) ?hd (cs := #[.int .i64 0, .int .i64 0, .int .i64 0]) (t := 59) ?hr ?_; (case hd => rfl); (case hg => rfl); (case hr => first | (go_simp; done) | (go_simp; rfl)); intro gb105 hg w8 hbox hb; have n1_ := aM_ (Kd.R_below (Kd.R_elderB (by (with_reducible repeat (first | apply kA_ | apply kN_ | apply kD_)); exact HO_8.out) gb105 (Nat.le_of_eq hg.symm)) hb); have n2_ := aM_ (below_step (by repeat (first | (with_reducible first | exact HB.out | apply bA_ | apply bN_ | apply bD_) | exact HB.out)) hb); have n3_ := aM_ (hbox); have n4_ := aM_ (show gb105 ≠ g by have := IsS96.lt HI0.out; rw [hg]; show _ ≠ g; exact Nat.ne_of_gt this); have n5_ := aM_ ((by rw [hg]; exact (below_size (by repeat (first | (with_reducible first | exact HB.out | apply bA_ | apply bN_ | apply bD_) | exact HB.out))) : w.heap.size ≤ gb105)); have n6_ := aM_ (HI0.out.below hb); have n7_ := aM_ (blk_below BS.out hb); have n8_ := aM_ (show gb105 ≠ gS by have := blk_lt BS.out; rw [hg]; show _ ≠ gS; exact Nat.ne_of_gt this); clear HO_8; clear HB; clear HI0 BS; have HO_8 := n1_; have HB := n2_; have BK105 := n3_; have GW105 := n4_; have GE105 := n5_; have HI0 := n6_; have BS := n7_; have GS105 := n8_; clear n1_ n2_ n3_ n4_ n5_ n6_ n7_ n8_; clear hb hbox hg; have hcz9_0 : w8.cell? ⟨gb105, 0, none⟩ = some (.int .i64 0) := (blk_cell BK105.out 0).trans rfl; have hcz9_1 : w8.cell? ⟨gb105, 1, none⟩ = some (.int .i64 0) := (blk_cell BK105.out 1).trans rfl; have hcz9_2 : w8.cell? ⟨gb105, 2, none⟩ = some (.int .i64 0) := (blk_cell BK105.out 2).trans rfl; have hfz9_0 := blk_frozen BK105.out 0; have hfz9_1 := blk_frozen BK105.out 1; have hfz9_2 := blk_frozen BK105.out 2; have hczS : (((w8.setCell ⟨gb105, 0, none⟩ (.int .i64 (rd_T59 r x).f0)).setCell ⟨gb105, 1, none⟩ (.int .i64 (rd_T59 r x).f1)).setCell ⟨gb105, 2, none⟩ (.int .i64 (rd_T59 r x).f2)).cell? ⟨gS, 1, none⟩ = some (.string a0_1) := (blk_cell (g := gS) (t := 45) (cs := #[.int .i64 a0_0, .string a0_1]) ((Below.heap_setCell _ _ _ _ (Ne.symm GS105.out)).trans ((Below.heap_setCell _ _ _ _ (Ne.symm GS105.out)).trans ((Below.heap_setCell _ _ _ _ (Ne.symm GS105.out)).trans BS.out))) 1).trans rfl) | (go_at_call 79; have hA := HASC.out; unfold chiAsc at hA; have hN := GW105.out; (with_reducible refine (chi_setT_calls w _ g a0_0 T (rd_T59 r x).f0 (rd_T59 r x).f1 (rd_T59 r x).f2 (-1) ?h1 ?h2 (by omega) (by omega) (by omega)).mono ?_); (case h1 => exact IsS96.far (IsS96.far (IsS96.far HI0.out (Ne.symm hN) _) (Ne.symm hN) _) (Ne.symm hN) _); (case h2 => exact (by repeat (first | (with_reducible first | exact HB.out | apply bA_ | apply bN_ | apply bD_ | refine below_set ?_ GE105.out) | exact HB.out))); rintro e' w10 ⟨rfl, hh1, hb1, hk1⟩))
    have HO9 := aM_ (Kd.R_keep (Kd.R_far (p := ⟨gb105, 2, none⟩) (Kd.R_far (p := ⟨gb105, 1, none⟩) (Kd.R_far (p := ⟨gb105, 0, none⟩) (Kd.R_types HO_8.out HI0.out.1 (by decide)) (fun _ hk => hk.1.2) (.int .i64 ((rd_T59 r x).f0))) (fun _ hk => hk.1.2) (.int .i64 ((rd_T59 r x).f1))) (fun _ hk => hk.1.2) (.int .i64 ((rd_T59 r x).f2))) hk1 (fun _ hk => hk.2))
    have HO9 := aM_ (Kd.R_mono (ok' := fun _ => True) HO9.out (fun _ _ => trivial))
    have HBS := aM_ (show w10.heap[gS]? = some (.cells #[.int .i64 a0_0, .string a0_1] 45 (0, 0)) from (hk1.2 gS (by have := blk_lt BS.out; simpa [World.setCell] using this) HGG.out (by simp)).trans ((Below.heap_setCell _ _ _ _ (Ne.symm GS105.out)).trans ((Below.heap_setCell _ _ _ _ (Ne.symm GS105.out)).trans ((Below.heap_setCell _ _ _ _ (Ne.symm GS105.out)).trans BS.out))))
    go_roundg (gk - 1)
    case measure => have := HK1.out; have := HIX.out; omega
    case rel => exact ⟨wrap64 (x + 1), ix + 1, _, (by first | rfl | (simp; done) | (rw [HW.out]; first | rfl | (simp; done))), ⟨HW.out⟩, ⟨by have := HK1.out; have := HIX.out; omega⟩, ⟨by rw [HST.out, HT.out, tabStep, ← HX.out, HSG.out]⟩, ⟨hh1⟩, HBS, HO9, ⟨hb1⟩⟩
   ·have HSG := aM_ (show (if bt a0_1 x = 45 then (-1 : Int) else 1) = 1 by rw [if_neg cv])
    have cvb : ((bt a0_1 x) == 45) = false := beq_eq_false_iff_ne.2 cv
    clear cv
    go_wp2_with (first | ((with_reducible refine gate_dst (N := 5) rfl ?_); refine box_event ?hg (N := 5) ?hd (cs := #[.int .i64 0, .int .i64 0, .int .i64 0]) (t := 59) ?hr ?_; (case hd => rfl); (case hg => rfl); (case hr => first | (go_simp; done) | (go_simp; rfl)); intro gb105 hg w8 hbox hb; have n1_ := aM_ (Kd.R_below (Kd.R_elderB (by (with_reducible repeat (first | apply kA_ | apply kN_ | apply kD_)); exact HO_8.out) gb105 (Nat.le_of_eq hg.symm)) hb); have n2_ := aM_ (below_step (by repeat (first | (with_reducible first | exact HB.out | apply bA_ | apply bN_ | apply bD_) | exact HB.out)) hb); have n3_ := aM_ (hbox); have n4_ := aM_ (show gb105 ≠ g by have := IsS96.lt HI0.out; rw [hg]; show _ ≠ g; exact Nat.ne_of_gt this); have n5_ := aM_ ((by rw [hg]; exact (below_size (by repeat (first | (with_reducible first | exact HB.out | apply bA_ | apply bN_ | apply bD_) | exact HB.out))) : w.heap.size ≤ gb105)); have n6_ := aM_ (HI0.out.below hb); have n7_ := aM_ (blk_below BS.out hb); have n8_ := aM_ (show gb105 ≠ gS by have := blk_lt BS.out; rw [hg]; show _ ≠ gS; exact Nat.ne_of_gt this); clear HO_8; clear HB; clear HI0 BS; have HO_8 := n1_; have HB := n2_; have BK105 := n3_; have GW105 := n4_; have GE105 := n5_; have HI0 := n6_; have BS := n7_; have GS105 := n8_; clear n1_ n2_ n3_ n4_ n5_ n6_ n7_ n8_; clear hb hbox hg; have hcz9_0 : w8.cell? ⟨gb105, 0, none⟩ = some (.int .i64 0) := (blk_cell BK105.out 0).trans rfl; have hcz9_1 : w8.cell? ⟨gb105, 1, none⟩ = some (.int .i64 0) := (blk_cell BK105.out 1).trans rfl; have hcz9_2 : w8.cell? ⟨gb105, 2, none⟩ = some (.int .i64 0) := (blk_cell BK105.out 2).trans rfl; have hfz9_0 := blk_frozen BK105.out 0; have hfz9_1 := blk_frozen BK105.out 1; have hfz9_2 := blk_frozen BK105.out 2; have hczS : (((w8.setCell ⟨gb105, 0, none⟩ (.int .i64 (rd_T59 r x).f0)).setCell ⟨gb105, 1, none⟩ (.int .i64 (rd_T59 r x).f1)).setCell ⟨gb105, 2, none⟩ (.int .i64 (rd_T59 r x).f2)).cell? ⟨gS, 1, none⟩ = some (.string a0_1) := (blk_cell (g := gS) (t := 45) (cs := #[.int .i64 a0_0, .string a0_1]) ((Below.heap_setCell _ _ _ _ (Ne.symm GS105.out)).trans ((Below.heap_setCell _ _ _ _ (Ne.symm GS105.out)).trans ((Below.heap_setCell _ _ _ _ (Ne.symm GS105.out)).trans BS.out))) 1).trans rfl) | (go_at_call 79; have hA := HASC.out; unfold chiAsc at hA; have hN := GW105.out; (with_reducible refine (chi_setT_calls w _ g a0_0 T (rd_T59 r x).f0 (rd_T59 r x).f1 (rd_T59 r x).f2 1 ?h1 ?h2 (by omega) (by omega) (by omega)).mono ?_); (case h1 => exact IsS96.far (IsS96.far (IsS96.far HI0.out (Ne.symm hN) _) (Ne.symm hN) _) (Ne.symm hN) _); (case h2 => exact (by repeat (first | (with_reducible first | exact HB.out | apply bA_ | apply bN_ | apply bD_ | refine below_set ?_ GE105.out) | exact HB.out))); rintro e' w10 ⟨rfl, hh1, hb1, hk1⟩))
    have HO9 := aM_ (Kd.R_keep (Kd.R_far (p := ⟨gb105, 2, none⟩) (Kd.R_far (p := ⟨gb105, 1, none⟩) (Kd.R_far (p := ⟨gb105, 0, none⟩) (Kd.R_types HO_8.out HI0.out.1 (by decide)) (fun _ hk => hk.1.2) (.int .i64 ((rd_T59 r x).f0))) (fun _ hk => hk.1.2) (.int .i64 ((rd_T59 r x).f1))) (fun _ hk => hk.1.2) (.int .i64 ((rd_T59 r x).f2))) hk1 (fun _ hk => hk.2))
    have HO9 := aM_ (Kd.R_mono (ok' := fun _ => True) HO9.out (fun _ _ => trivial))
    have HBS := aM_ (show w10.heap[gS]? = some (.cells #[.int .i64 a0_0, .string a0_1] 45 (0, 0)) from (hk1.2 gS (by have := blk_lt BS.out; simpa [World.setCell] using this) HGG.out (by simp)).trans ((Below.heap_setCell _ _ _ _ (Ne.symm GS105.out)).trans ((Below.heap_setCell _ _ _ _ (Ne.symm GS105.out)).trans ((Below.heap_setCell _ _ _ _ (Ne.symm GS105.out)).trans BS.out))))
    go_roundg (gk - 1)
    case measure => have := HK1.out; have := HIX.out; omega
    case rel => exact ⟨wrap64 (x + 1), ix + 1, _, (by first | rfl | (simp; done) | (rw [HW.out]; first | rfl | (simp; done))), ⟨HW.out⟩, ⟨by have := HK1.out; have := HIX.out; omega⟩, ⟨by rw [HST.out, HT.out, tabStep, ← HX.out, HSG.out]⟩, ⟨hh1⟩, HBS, HO9, ⟨hb1⟩⟩
  ·have c5b0 : decide (x < (r.length : Int)) = false := decide_eq_false c5
   have HE := aM_ (show ix = r.length by have := HK1.out; have := HX.out; omega)
   clear c5
   go_wp2
   first | go_ret | go_ret2 | go_end0
   exact ⟨g, rfl, by rw [HRR.out]; unfold tabOf; rw [show r.zipIdx = (r.take ix).zipIdx by rw [HE.out, List.take_length], ← HT.out]; exact HI0.out, HB.out⟩
end Go.Proofs.YteaagaekdkolnaaGreatDoor.P

namespace Go.Proofs.YteaagaekdkolnaaGreatDoor.P
open Go.RowKit Go.Proofs.YteaagaekdkolnaaGreatDoorW.PrintWords Go.Proofs.YteaagaekdkolnaaGreatDoorW.PrintLast Go.Proofs.YteaagaekdkolnaaGreatDoorW.PrintMore
attribute [local go_sem] max2_int min2_int max_two min_two max_three min_three max_four min_four   -- for this text's walks alone
set_option linter.unusedVariables false
set_option linter.unusedSimpArgs false
/-! ### impl_SignsOf: function 65 -/
theorem chi_list_lt (n : Int) (h : 3 ≤ n ∧ n ≤ 7) : ∀ t ∈ chiList n, t.f2 < n := by
 obtain ⟨h1, h2⟩ := h
 have hn : n = 3 ∨ n = 4 ∨ n = 5 ∨ n = 6 ∨ n = 7 := by omega
 have hd : ∀ (m : Int) (l : List S59), l.all (fun t => decide (t.f2 < m)) = true → ∀ t ∈ l, t.f2 < m := by
  intro m l hl t ht
  have := List.all_eq_true.1 hl t ht
  exact of_decide_eq_true this
 rcases hn with rfl | rfl | rfl | rfl | rfl <;> exact hd _ _ (by kernel_rfl)
def turnP (l : List S34) (t : S59) : Option Int := impl_TurnOf.f (rd_T34 l t.f0).f0 (rd_T34 l t.f0).f1 (rd_T34 l t.f1).f0 (rd_T34 l t.f1).f1 (rd_T34 l t.f2).f0 (rd_T34 l t.f2).f1
def turnStep (l : List S34) (T : Nat → Int) (t : S59) : Nat → Int := setT T t.f0 t.f1 t.f2 ((turnP l t).getD 0)
def turnTab (l : List S34) (L : List S59) : Nat → Int := L.foldl (turnStep l) fun _ => 0
def impl_SignsOf.f (k : Nat) (l0 : List S34) : Option (Int × ByteArray × Bool) := (impl_ArePoints.f k l0).bind fun ok => if ok = true then (if (3 ≤ (l0.length : Int) ∧ (l0.length : Int) ≤ 7) ∧ (∀ t ∈ chiList (l0.length : Int), (turnP l0 t).isSome = true) then some ((l0.length : Int), strOfNums ((chiList (l0.length : Int)).map (sgnB (turnTab l0 (chiList (l0.length : Int))))), true) else none) else some (0, (⟨#[]⟩ : ByteArray), false)
def impl_SignsOf.T7 : Bool × List (List Nat × List Nat) := (true, [([], []), ([], []), ([1], [1]), ([], []), ([3], [3]), ([], []), ([5], [5]), ([], []), ([], []), ([8], [8]), ([7, 9], [7, 9]), ([10], [10]), ([], []), ([], []), ([13], [13]), ([12, 14], [12, 14]), ([15], [15]), ([], []), ([], []), ([18], [18]), ([17, 19], [17, 19]), ([20], [20]), ([11, 16, 21], [11, 16, 21]), ([0, 2, 4, 6, 22, 22], [0, 2, 4, 6, 22])])
def impl_SignsOf.B7 : List Nat := [0, 0, 2, 0, 8, 0, 32, 0, 0, 256, 640, 1024, 0, 0, 8192, 20480, 32768, 0, 0, 262144, 655360, 1048576, 2164736, 4194389]
theorem impl_SignsOf.tab7 : rtab .any (opsOf Tryz.f65 7) = impl_SignsOf.T7 := by kernel_rfl
theorem impl_SignsOf.bits7 : waitsOk impl_SignsOf.T7.2 impl_SignsOf.B7 = true := by kernel_rfl
set_option maxHeartbeats 8000000 in
set_option maxRecDepth 100000 in
theorem impl_SignsOf.calls (k : Nat) (A0 : Option Addr) (c0 : Nat) (l0 : List S34) (r1 : Int) (r2 : ByteArray) (r3 : Bool) (w : World) (hr0 : Kd.C k34 w A0 l0.length l0) (hc0 : l0.length ≤ c0) (h : impl_SignsOf.f k l0 = some (r1, r2, r3)) :
  Calls Tryz.prog 65 #[.slice A0 l0.length c0] w fun e w' => e = .returned (.tuple #[.agg #[.int .i64 r1, .string r2], .bool r3]) ∧ Below w.heap.size w w' := by
 have hu65 := Tryz.underlying59
 have hu25 := Tryz.underlying34
 have hus := Tryz.underlying45
 have HR0 := aM_ hr0
 have HC0 := aM_ hc0
 clear hr0 hc0
 have HB := aM_ (Below.refl w.heap.size w)
 unfold impl_SignsOf.f at h
 obtain ⟨ok, hA, h⟩ := oB_ h
 have HA := aM_ hA
 clear hA
 cases ok
 case false =>
  rw [if_neg (by decide)] at h
  simp only [Option.some.injEq, Prod.mk.injEq] at h
  obtain ⟨rfl, rfl, rfl⟩ := h
  go_enter Tryz.func65, Tryz.ntmps65
  go_wp2_with (first | ((with_reducible refine gate_dst (N := 2) rfl ?_); refine box_event ?hg (N := 2) ?hd (cs := #[.int .i64 0, .string (⟨#[]⟩ : ByteArray)]) (t := 45) ?hr ?_; (case hd => rfl); (case hg => rfl); (case hr => first | (go_simp; done) | (go_simp; rfl)); intro gb101 hg w4 hbox hb; have n0_ := aM_ (below_step (by repeat (first | (with_reducible first | exact HB.out | apply bA_ | apply bN_ | apply bD_) | exact HB.out)) hb); have n1_ := aM_ (hbox); have n3_ := aM_ ((by rw [hg]; exact (below_size (by repeat (first | (with_reducible first | exact HB.out | apply bA_ | apply bN_ | apply bD_) | exact HB.out))) : w.heap.size ≤ gb101)); clear HB; have HB := n0_; have BK101 := n1_; have GE101 := n3_; clear n0_ n1_ n3_; clear hb hbox hg) | (go_at_call 17; (with_reducible refine (impl_ArePoints.calls k A0 c0 l0 false _ ?side1 HC0.out HA.out).mono ?_); (case side1 => repeat (first | exact (Kd.C_below HR0.out HB.out) | (with_reducible refine Kd.C_alloc ?_ _) | (with_reducible refine Kd.C_drewN ?_ _) | (with_reducible refine Kd.C_drew ?_))); rintro e w6 ⟨rfl, hb⟩; have n0_ := aM_ (below_step (by repeat (first | (with_reducible first | exact HB.out | apply bA_ | apply bN_ | apply bD_) | exact HB.out)) hb); have n1_ := aM_ (blk_below (g := gb101) (o := .cells #[.int .i64 0, .string (⟨#[]⟩ : ByteArray)] 45 (0, 0)) BK101.out hb); clear HB BK101; have HB := n0_; have BK101 := n1_; clear n0_ n1_ hb; have hcz14_0 : w6.cell? ⟨gb101, 0, none⟩ = some (.int .i64 0) := (blk_cell BK101.out 0).trans rfl; have hcz14_1 : w6.cell? ⟨gb101, 1, none⟩ = some (.string (⟨#[]⟩ : ByteArray)) := (blk_cell BK101.out 1).trans rfl; have hfz14_0 := blk_frozen BK101.out 0; have hfz14_1 := blk_frozen BK101.out 1))
  refine bodyPost_ret (results_ct rfl _ _ gb101 45 #[.int .i64 0, .string (⟨#[]⟩ : ByteArray)] (0, 0) _ rfl (by (with_reducible repeat (first | refine blk_drewN ?_ _ | refine blk_drew ?_ | refine blk_alloc ?_ _)); refine blk_put (cs := #[.int .i64 0, .string (⟨#[]⟩ : ByteArray)]) ?_ 1 _ rfl; (with_reducible repeat (first | refine blk_drewN ?_ _ | refine blk_drew ?_ | refine blk_alloc ?_ _)); refine blk_put (cs := #[.int .i64 0, .string (⟨#[]⟩ : ByteArray)]) ?_ 0 _ rfl; (with_reducible repeat (first | refine blk_drewN ?_ _ | refine blk_drew ?_ | refine blk_alloc ?_ _)); exact BK101.out) Tryz.underlying45 rfl (by kernel_rfl)) rfl ?_
  exact ⟨by first | rfl | (simp [errW_none, errW_some] <;> rfl) | (simp [*, errW_none, errW_some] <;> rfl), by repeat (first | (with_reducible first | exact HB.out | apply bA_ | apply bN_ | apply bD_ | refine below_set ?_ GE101.out) | exact HB.out)⟩
 rw [if_pos rfl] at h
 by_cases hc : (3 ≤ (l0.length : Int) ∧ (l0.length : Int) ≤ 7) ∧ (∀ t ∈ chiList (l0.length : Int), (turnP l0 t).isSome = true)
 case neg => rw [if_neg hc] at h; cases h
 rw [if_pos hc] at h
 simp only [Option.some.injEq, Prod.mk.injEq] at h
 obtain ⟨rfl, rfl, rfl⟩ := h
 obtain ⟨hR, hL, hS⟩ := chi_list _ hc.1
 have HR := aM_ hR
 have HL := aM_ hL
 have HAS := aM_ hS
 have HLL := aM_ (chi_list_lt _ hc.1)
 have HSO := aM_ hc.2
 clear hR hL hS hc
 go_enter Tryz.func65, Tryz.ntmps65
 go_wp2_with (first | ((with_reducible refine gate_dst (N := 2) rfl ?_); refine box_event ?hg (N := 2) ?hd (cs := #[.int .i64 0, .string (⟨#[]⟩ : ByteArray)]) (t := 45) ?hr ?_; (case hd => rfl); (case hg => rfl); (case hr => first | (go_simp; done) | (go_simp; rfl)); intro gb101 hg w4 hbox hb; have n0_ := aM_ (below_step (by repeat (first | (with_reducible first | exact HB.out | apply bA_ | apply bN_ | apply bD_) | exact HB.out)) hb); have n1_ := aM_ (hbox); have n3_ := aM_ ((by rw [hg]; exact (below_size (by repeat (first | (with_reducible first | exact HB.out | apply bA_ | apply bN_ | apply bD_) | exact HB.out))) : w.heap.size ≤ gb101)); clear HB; have HB := n0_; have BK101 := n1_; have GE101 := n3_; clear n0_ n1_ n3_; clear hb hbox hg) | (go_at_call 17; (with_reducible refine (impl_ArePoints.calls k A0 c0 l0 true _ ?side1 HC0.out HA.out).mono ?_); (case side1 => repeat (first | exact (Kd.C_below HR0.out HB.out) | (with_reducible refine Kd.C_alloc ?_ _) | (with_reducible refine Kd.C_drewN ?_ _) | (with_reducible refine Kd.C_drew ?_))); rintro e w6 ⟨rfl, hb⟩; have n0_ := aM_ (below_step (by repeat (first | (with_reducible first | exact HB.out | apply bA_ | apply bN_ | apply bD_) | exact HB.out)) hb); have n1_ := aM_ (blk_below (g := gb101) (o := .cells #[.int .i64 0, .string (⟨#[]⟩ : ByteArray)] 45 (0, 0)) BK101.out hb); clear HB BK101; have HB := n0_; have BK101 := n1_; clear n0_ n1_ hb))
 have hch : (w6.alloc (.cells (Tryz.zeroCells96.setIfInBounds 0 (.int .i64 (l0.length : Int))) 96)).heap[w6.heap.size]? = some (.cells (chiC (l0.length : Int) (fun _ => 0)) 96 (0, 0)) := by
  rw [← chi_fresh]
  exact blk_new w6 _
 obtain ⟨g, hg⟩ : ∃ g, w6.heap.size = g := ⟨_, rfl⟩
 have HGG := aM_ (show gb101 ≠ g by have := blk_lt BK101.out; rw [← hg]; exact Nat.ne_of_lt this)
 have hgw : w.heap.size ≤ g := by rw [← hg]; exact below_size HB.out
 rw [hg] at hch ⊢
 have n1_ := aM_ (bA_ HB.out (.cells (Tryz.zeroCells96.setIfInBounds 0 (.int .i64 (l0.length : Int))) 96))
 have n2_ := aM_ (blk_alloc BK101.out (.cells (Tryz.zeroCells96.setIfInBounds 0 (.int .i64 (l0.length : Int))) 96))
 have HI0 := aM_ (show IsS96 w _ g (l0.length : Int) (fun _ => 0) from ⟨hch, hgw⟩)
 clear HB BK101 hch hgw hg
 have HB := n1_
 have BK101 := n2_
 clear n1_ n2_
 generalize w6.alloc (.cells (Tryz.zeroCells96.setIfInBounds 0 (.int .i64 (l0.length : Int))) 96) = wC at HB BK101 HI0 ⊢
 (with_reducible refine (impl_triplesOf.calls 300 (l0.length : Int) (chiList (l0.length : Int)) _ HR.out).mono ?_)
 rintro e w3 ⟨v102, rfl, ho0, hb⟩
 have HO_8 := aM_ (Kd.R_lower ho0 (below_size HB.out))
 have n1_ := aM_ (below_step HB.out hb)
 have n2_ := aM_ (blk_below BK101.out hb)
 have n3_ := aM_ (HI0.out.below hb)
 clear HB BK101 HI0
 have HB := n1_
 have BK101 := n2_
 have HI0 := n3_
 clear n1_ n2_ n3_ hb ho0
 obtain ⟨Ao4, co4, eo4⟩ := Kd.R_slice HO_8.out
 subst eo4
 obtain ⟨r, hr⟩ : ∃ r, chiList (l0.length : Int) = r := ⟨_, rfl⟩
 have HRR := aM_ hr
 rw [hr] at HO_8 HL HAS HLL HSO ⊢
 clear hr
 go_wp2
 go_loopg [21] r.length (fun kq v21 w' => ∃ (x : Int) (ix : Nat) (T : Nat → Int), v21 = .int .i64 x ∧ Aside0 (x = (ix : Int)) ∧ Aside0 (kq + ix = r.length) ∧ Aside0 (T = (r.take ix).foldl (turnStep l0) (fun _ => 0)) ∧ Aside0 (IsS96 w w' g (l0.length : Int) T) ∧ Aside0 (w'.heap[gb101]? = some (.cells #[.int .i64 0, .string (⟨#[]⟩ : ByteArray)] 45 (0, 0))) ∧ Aside0 (Kd.R k59 59 w' w.heap.size (fun _ => True) (.slice Ao4 r.length co4) r) ∧ Aside0 (Below w.heap.size w w'))
 case atStart => exact ⟨0, 0, _, rfl, ⟨rfl⟩, ⟨rfl⟩, ⟨rfl⟩, HI0, BK101, HO_8, HB⟩
 case round =>
  clear HI0 BK101 HO_8 HB
  obtain ⟨x, ix, T, rfl, HX, HK1, HT, HI0, BK101, HO_8, HB⟩ := hrel
  by_cases c5 : x < (r.length : Int)
  ·have c5b0 : decide (x < (r.length : Int)) = true := decide_eq_true c5
   have hx := HX.out
   have p104 : 0 ≤ x := by omega
   have q104 := c5
   have hixn : ix < r.length := by omega
   have hrd : rd_T59 r x = r[ix] := by rw [hx]; simp [rd_T59, hixn]
   have HASC := aM_ (show chiAsc (rd_T59 r x) by rw [hrd]; exact HAS.out _ (List.getElem_mem hixn))
   have HLT := aM_ (show (rd_T59 r x).f2 < (l0.length : Int) by rw [hrd]; exact HLL.out _ (List.getElem_mem hixn))
   obtain ⟨v, hv⟩ := Option.isSome_iff_exists.1 (show (turnP l0 (rd_T59 r x)).isSome = true by rw [hrd]; exact HSO.out _ (List.getElem_mem hixn))
   have HST := aM_ (show (r.take (ix + 1)).foldl (turnStep l0) (fun _ => 0) = setT ((r.take ix).foldl (turnStep l0) (fun _ => 0)) ((rd_T59 r x).f0) ((rd_T59 r x).f1) ((rd_T59 r x).f2) v by rw [List.take_add_one, List.getElem?_eq_getElem hixn, List.foldl_append, ← hrd]; show turnStep l0 _ _ = _; rw [turnStep, hv]; rfl)
   have HV := aM_ (show impl_TurnOf.f (rd_T34 l0 ((rd_T59 r x).f0)).f0 (rd_T34 l0 ((rd_T59 r x).f0)).f1 (rd_T34 l0 ((rd_T59 r x).f1)).f0 (rd_T34 l0 ((rd_T59 r x).f1)).f1 (rd_T34 l0 ((rd_T59 r x).f2)).f0 (rd_T34 l0 ((rd_T59 r x).f2)).f1 = some v from hv)
   have HIX := aM_ hixn
   have HW : wrap64 (x + 1) = ((ix + 1 : Nat) : Int) := by have := HL.out; unfold wrap64; omega
   have HW := aM_ HW
   clear c5 hrd hixn hx hv
   obtain ⟨ad104, e104, hx104_0, hx104_1, hx104_2⟩ := at_T59 (Kd.R_reads' HO_8.out).2.2 x p104 q104
   cases e104
   replace p104 := eq_true p104
   replace q104 := eq_true q104
   try go_wp2_with (first | ((with_reducible refine gate_dst (N := 6) rfl ?_); refine box_event ?hg (N := 6) ?hd (cs := #[.int .i64 0, .int .i64 0, .int .i64 0]) (t := 59) ?hr ?_; (case hd => rfl); (case hg => rfl); (case hr => first | (go_simp; done) | (go_simp; rfl)); intro gb106 hg w22 hbox hb; have n0_ := aM_ (Kd.R_below (Kd.R_elderB (by (with_reducible repeat (first | apply kA_ | apply kN_ | apply kD_)); exact HO_8.out) gb106 (Nat.le_of_eq hg.symm)) hb); have n1_ := aM_ (below_step (by repeat (first | (with_reducible first | exact HB.out | apply bA_ | apply bN_ | apply bD_) | exact HB.out)) hb); have n2_ := aM_ (hbox); have n3_ := aM_ (show gb106 ≠ g by have := IsS96.lt HI0.out; rw [hg]; show _ ≠ g; exact Nat.ne_of_gt this); have n4_ := aM_ ((by rw [hg]; exact (below_size (by repeat (first | (with_reducible first | exact HB.out | apply bA_ | apply bN_ | apply bD_) | exact HB.out))) : w.heap.size ≤ gb106)); have n5_ := aM_ (HI0.out.below hb); have n6_ := aM_ (blk_below (g := gb101) (o := .cells #[.int .i64 0, .string (⟨#[]⟩ : ByteArray)] 45 (0, 0)) BK101.out hb); have n7_ := aM_ (show gb106 ≠ gb101 by have := blk_lt BK101.out; rw [hg]; show _ ≠ gb101; exact Nat.ne_of_gt this); clear HO_8 HB HI0 BK101; have HO_8 := n0_; have HB := n1_; have BK106 := n2_; have GW106 := n3_; have GE106 := n4_; have HI0 := n5_; have BK101 := n6_; have GS106 := n7_; clear n0_ n1_ n2_ n3_ n4_ n5_ n6_ n7_; clear hb hbox hg; have hcz23_0 : w22.cell? ⟨gb106, 0, none⟩ = some (.int .i64 0) := (blk_cell BK106.out 0).trans rfl; have hcz23_1 : w22.cell? ⟨gb106, 1, none⟩ = some (.int .i64 0) := (blk_cell BK106.out 1).trans rfl; have hcz23_2 : w22.cell? ⟨gb106, 2, none⟩ = some (.int .i64 0) := (blk_cell BK106.out 2).trans rfl; have hfz23_0 := blk_frozen BK106.out 0; have hfz23_1 := blk_frozen BK106.out 1; have hfz23_2 := blk_frozen BK106.out 2))
   have n0_ : Aside0 (Kd.R k59 59 (((w22.setCell ⟨gb106, 0, none⟩ (.int .i64 ((rd_T59 r x).f0))).setCell ⟨gb106, 1, none⟩ (.int .i64 ((rd_T59 r x).f1))).setCell ⟨gb106, 2, none⟩ (.int .i64 ((rd_T59 r x).f2))) w.heap.size (fun k_ => (True ∧ k_ ≠ gb106) ∧ k_ ≠ g) (.slice (some ad104) r.length co4) r) := ⟨Kd.R_mono (Kd.R_far (p := ⟨gb106, 2, none⟩) (Kd.R_far (p := ⟨gb106, 1, none⟩) (Kd.R_far (p := ⟨gb106, 0, none⟩) (Kd.R_types HO_8.out HI0.out.1 (by decide)) (fun _ hk => hk.1.2) (.int .i64 ((rd_T59 r x).f0))) (fun _ hk => hk.1.2) (.int .i64 ((rd_T59 r x).f1))) (fun _ hk => hk.1.2) (.int .i64 ((rd_T59 r x).f2))) (fun _ hk => hk)⟩
   have n1_ : Aside0 ((((w22.setCell ⟨gb106, 0, none⟩ (.int .i64 ((rd_T59 r x).f0))).setCell ⟨gb106, 1, none⟩ (.int .i64 ((rd_T59 r x).f1))).setCell ⟨gb106, 2, none⟩ (.int .i64 ((rd_T59 r x).f2))).heap[gb106]? = some (.cells #[.int .i64 ((rd_T59 r x).f0), .int .i64 ((rd_T59 r x).f1), .int .i64 ((rd_T59 r x).f2)] 59 (0, 0))) := ⟨by refine blk_put (cs := #[.int .i64 ((rd_T59 r x).f0), .int .i64 ((rd_T59 r x).f1), .int .i64 0]) ?_ 2 _ rfl; refine blk_put (cs := #[.int .i64 ((rd_T59 r x).f0), .int .i64 0, .int .i64 0]) ?_ 1 _ rfl; refine blk_put (cs := #[.int .i64 0, .int .i64 0, .int .i64 0]) ?_ 0 _ rfl; exact BK106.out⟩
   have n2_ : Aside0 (Below w.heap.size w (((w22.setCell ⟨gb106, 0, none⟩ (.int .i64 ((rd_T59 r x).f0))).setCell ⟨gb106, 1, none⟩ (.int .i64 ((rd_T59 r x).f1))).setCell ⟨gb106, 2, none⟩ (.int .i64 ((rd_T59 r x).f2)))) := ⟨by repeat (first | (with_reducible first | exact HB.out | refine below_set ?_ GE106.out) | exact HB.out)⟩
   have n3_ : Aside0 (IsS96 w (((w22.setCell ⟨gb106, 0, none⟩ (.int .i64 ((rd_T59 r x).f0))).setCell ⟨gb106, 1, none⟩ (.int .i64 ((rd_T59 r x).f1))).setCell ⟨gb106, 2, none⟩ (.int .i64 ((rd_T59 r x).f2))) g (l0.length : Int) T) := ⟨IsS96.far (IsS96.far (IsS96.far HI0.out (Ne.symm GW106.out) _) (Ne.symm GW106.out) _) (Ne.symm GW106.out) _⟩
   have n4_ : Aside0 ((((w22.setCell ⟨gb106, 0, none⟩ (.int .i64 ((rd_T59 r x).f0))).setCell ⟨gb106, 1, none⟩ (.int .i64 ((rd_T59 r x).f1))).setCell ⟨gb106, 2, none⟩ (.int .i64 ((rd_T59 r x).f2))).heap[gb101]? = some (.cells #[.int .i64 0, .string (⟨#[]⟩ : ByteArray)] 45 (0, 0))) := ⟨(Below.heap_setCell _ _ _ _ (Ne.symm GS106.out)).trans ((Below.heap_setCell _ _ _ _ (Ne.symm GS106.out)).trans ((Below.heap_setCell _ _ _ _ (Ne.symm GS106.out)).trans BK101.out))⟩
   clear HO_8 BK106 HB HI0 BK101
   generalize (((w22.setCell ⟨gb106, 0, none⟩ (.int .i64 ((rd_T59 r x).f0))).setCell ⟨gb106, 1, none⟩ (.int .i64 ((rd_T59 r x).f1))).setCell ⟨gb106, 2, none⟩ (.int .i64 ((rd_T59 r x).f2))) = w24 at n0_ n1_ n2_ n3_ n4_ ⊢
   have HO_8 := aM_ (kD_ n0_.out)
   have BK106 := aM_ (blk_drew n1_.out)
   have HB := aM_ (bD_ n2_.out)
   have HI0 := aM_ n3_.out.drew
   have BK101 := aM_ (blk_drew n4_.out)
   clear n0_ n1_ n2_ n3_ n4_
   have p107 : 0 ≤ ((rd_T59 r x).f0) := by have := HASC.out; unfold chiAsc at this; omega
   have q107 : ((rd_T59 r x).f0) < (l0.length : Int) := by have := HASC.out; have := HLT.out; unfold chiAsc at *; omega
   obtain ⟨ad107, e107, hx107_0, hx107_1⟩ := at_T34 HR0.out ((rd_T59 r x).f0) p107 q107
   have hw107_1 := hx107_1
   have hw107_0 := hx107_0
   cases e107
   replace hx107_0 := (HB.out.cell (World.block_lt_of_cell? w _ hx107_0)).trans hx107_0
   replace hx107_1 := (HB.out.cell (World.block_lt_of_cell? w _ hx107_1)).trans hx107_1
   replace p107 := eq_true p107
   replace q107 := eq_true q107
   have p108 : 0 ≤ ((rd_T59 r x).f1) := by have := HASC.out; unfold chiAsc at this; omega
   have q108 : ((rd_T59 r x).f1) < (l0.length : Int) := by have := HASC.out; have := HLT.out; unfold chiAsc at *; omega
   obtain ⟨ad108, e108, hx108_0, hx108_1⟩ := at_T34 HR0.out ((rd_T59 r x).f1) p108 q108
   have hw108_1 := hx108_1
   have hw108_0 := hx108_0
   obtain rfl : ad107 = ad108 := (by injection e108)
   replace hx108_0 := (HB.out.cell (World.block_lt_of_cell? w _ hx108_0)).trans hx108_0
   replace hx108_1 := (HB.out.cell (World.block_lt_of_cell? w _ hx108_1)).trans hx108_1
   replace p108 := eq_true p108
   replace q108 := eq_true q108
   have p109 : 0 ≤ ((rd_T59 r x).f2) := by have := HASC.out; unfold chiAsc at this; omega
   have q109 : ((rd_T59 r x).f2) < (l0.length : Int) := by have := HASC.out; have := HLT.out; unfold chiAsc at *; omega
   obtain ⟨ad109, e109, hx109_0, hx109_1⟩ := at_T34 HR0.out ((rd_T59 r x).f2) p109 q109
   have hw109_1 := hx109_1
   have hw109_0 := hx109_0
   obtain rfl : ad107 = ad109 := (by injection e109)
   replace hx109_0 := (HB.out.cell (World.block_lt_of_cell? w _ hx109_0)).trans hx109_0
   replace hx109_1 := (HB.out.cell (World.block_lt_of_cell? w _ hx109_1)).trans hx109_1
   replace p109 := eq_true p109
   replace q109 := eq_true q109
   refine start_ (n := 24) (S := fun w' => w'.cell? ⟨gb106, 0, none⟩ = some (.int .i64 ((rd_T59 r x).f0)) ∧ w'.cell? ⟨gb106, 1, none⟩ = some (.int .i64 ((rd_T59 r x).f1)) ∧ w'.cell? ⟨gb106, 2, none⟩ = some (.int .i64 ((rd_T59 r x).f2)) ∧ w'.cell? (ad107.add (((rd_T59 r x).f0).toNat * 2)) = some (.int .i64 (rd_T34 l0 ((rd_T59 r x).f0)).f0) ∧ w'.cell? ⟨(ad107.add (((rd_T59 r x).f0).toNat * 2)).block, (ad107.add (((rd_T59 r x).f0).toNat * 2)).off + 1, none⟩ = some (.int .i64 (rd_T34 l0 ((rd_T59 r x).f0)).f1) ∧ w'.cell? (ad107.add (((rd_T59 r x).f1).toNat * 2)) = some (.int .i64 (rd_T34 l0 ((rd_T59 r x).f1)).f0) ∧ w'.cell? ⟨(ad107.add (((rd_T59 r x).f1).toNat * 2)).block, (ad107.add (((rd_T59 r x).f1).toNat * 2)).off + 1, none⟩ = some (.int .i64 (rd_T34 l0 ((rd_T59 r x).f1)).f1) ∧ w'.cell? (ad107.add (((rd_T59 r x).f2).toNat * 2)) = some (.int .i64 (rd_T34 l0 ((rd_T59 r x).f2)).f0) ∧ w'.cell? ⟨(ad107.add (((rd_T59 r x).f2).toNat * 2)).block, (ad107.add (((rd_T59 r x).f2).toNat * 2)).off + 1, none⟩ = some (.int .i64 (rd_T34 l0 ((rd_T59 r x).f2)).f1)) (ds := []) (bm 24 0) (by kernel_rfl) rfl rfl ⟨(blk_cell BK106.out 0).trans rfl, (blk_cell BK106.out 1).trans rfl, (blk_cell BK106.out 2).trans rfl, ((HB.out.cell (World.block_lt_of_cell? w _ hw107_0)).trans hw107_0), ((HB.out.cell (World.block_lt_of_cell? w _ hw107_1)).trans hw107_1), ((HB.out.cell (World.block_lt_of_cell? w _ hw108_0)).trans hw108_0), ((HB.out.cell (World.block_lt_of_cell? w _ hw108_1)).trans hw108_1), ((HB.out.cell (World.block_lt_of_cell? w _ hw109_0)).trans hw109_0), ((HB.out.cell (World.block_lt_of_cell? w _ hw109_1)).trans hw109_1)⟩ (fun hHeld => ?_); refine with_tabW impl_SignsOf.tab7 impl_SignsOf.bits7 (fun HT_ HW_ => ?_)
   generalize w24.drew = w30 at HO_8 BK106 HB HI0 BK101 hx107_0 hx107_1 hx108_0 hx108_1 hx109_0 hx109_1 hHeld ⊢
   refine plan_ ((0, 0, 25, 1) :: (0, 1, 26, 3) :: (2, 2, 27, 7) :: (0, 3, 28, 15) :: (2, 4, 29, 31) :: (0, 5, 30, 63) :: (2, 6, 31, 127) :: (0, 7, 32, 255) :: (0, 8, 33, 511) :: (2, 9, 34, 1023) :: (0, 10, 35, 2047) :: (2, 11, 36, 4095) :: (0, 12, 37, 8191) :: (0, 13, 38, 16383) :: (2, 14, 39, 32767) :: (0, 15, 40, 65535) :: (2, 16, 41, 131071) :: (0, 17, 42, 262143) :: (0, 18, 43, 524287) :: (2, 19, 44, 1048575) :: (0, 20, 45, 2097151) :: (2, 21, 46, 4194303) :: []) ?_
   iterate 22 (first | (refine planV_ ?_ ?_ rfl rfl (any_of HT_.out (by kernel_rfl)) (fun _ _ _ h => h) (Or.inl ⟨by rfl, ?_⟩) ?_ ?_; rotate_left 2; (· intro w'; go_simp; with_reducible rfl); (· simp only [Act.put, List.setIfInBounds_toArray, List.set_cons_zero, List.set_cons_succ, i64_w, i32_w]; rfl)) | (refine planT_ ?_ ?_ rfl rfl (take_ofW HT_.out HW_.out (by kernel_rfl)) (fun _ _ _ h => h) (Or.inl ⟨by rfl, ?_⟩) hHeld ?_ ?_; rotate_left 2; (· rintro w' ⟨s0, s1, s2, s3, s4, s5, s6, s7, s8⟩; go_simp; with_reducible rfl); (· simp only [Act.put, List.setIfInBounds_toArray, List.set_cons_zero, List.set_cons_succ, i64_w, i32_w]; rfl)))
   refine planEnd_ ?_
   refine one_ (i := 22) (N := some 47) (bm 24 8388607) rfl rfl (one_of HT_.out (by kernel_rfl)) (by decide) (fun K hK => ?_)
   refine goes_ Tryz.func39 (by kernel_rfl) rfl #[.agg #[.int .i64 (rd_T34 l0 ((rd_T59 r x).f0)).f0, .int .i64 (rd_T34 l0 ((rd_T59 r x).f0)).f1], .agg #[.int .i64 (rd_T34 l0 ((rd_T59 r x).f1)).f0, .int .i64 (rd_T34 l0 ((rd_T59 r x).f1)).f1], .agg #[.int .i64 (rd_T34 l0 ((rd_T59 r x).f2)).f0, .int .i64 (rd_T34 l0 ((rd_T59 r x).f2)).f1]] (by rfl) rfl rfl (by (try simp only [List.map_toArray, List.map_cons, List.map_nil]); first | done | rfl) ?_
   with_reducible refine (impl_TurnOf.calls ((rd_T34 l0 ((rd_T59 r x).f0)).f0) ((rd_T34 l0 ((rd_T59 r x).f0)).f1) ((rd_T34 l0 ((rd_T59 r x).f1)).f0) ((rd_T34 l0 ((rd_T59 r x).f1)).f1) ((rd_T34 l0 ((rd_T59 r x).f2)).f0) ((rd_T34 l0 ((rd_T59 r x).f2)).f1) v _ HV.out).mono ?_
   rintro e w31 ⟨rfl, hb⟩
   refine ⟨_, rfl, ?_⟩
   have n0_ := aM_ (Kd.R_below HO_8.out hb)
   have n1_ := aM_ (blk_below (g := gb106) (o := .cells #[.int .i64 ((rd_T59 r x).f0), .int .i64 ((rd_T59 r x).f1), .int .i64 ((rd_T59 r x).f2)] 59 (0, 0)) BK106.out hb)
   have n2_ := aM_ (below_step HB.out hb)
   have n3_ := aM_ (HI0.out.below hb)
   have n4_ := aM_ (blk_below (g := gb101) (o := .cells #[.int .i64 0, .string (⟨#[]⟩ : ByteArray)] 45 (0, 0)) BK101.out hb)
   clear HO_8 BK106 HB HI0 BK101
   have HO_8 := n0_
   have BK106 := n1_
   have HB := n2_
   have HI0 := n3_
   have BK101 := n4_
   clear n0_ n1_ n2_ n3_ n4_ hb
   refine hK.out _ _ ⟨(blk_cell BK106.out 0).trans rfl, (blk_cell BK106.out 1).trans rfl, (blk_cell BK106.out 2).trans rfl, ((HB.out.cell (World.block_lt_of_cell? w _ hw107_0)).trans hw107_0), ((HB.out.cell (World.block_lt_of_cell? w _ hw107_1)).trans hw107_1), ((HB.out.cell (World.block_lt_of_cell? w _ hw108_0)).trans hw108_0), ((HB.out.cell (World.block_lt_of_cell? w _ hw108_1)).trans hw108_1), ((HB.out.cell (World.block_lt_of_cell? w _ hw109_0)).trans hw109_0), ((HB.out.cell (World.block_lt_of_cell? w _ hw109_1)).trans hw109_1)⟩ (fun hHeld => ?_)
   clear hK K
   refine norm_ (a' := ?_) ?_ ?_
   rotate_left
   ·show Act.put _ (some 47) _ = _
    simp only [Act.put, List.setIfInBounds_toArray, List.set_cons_zero, List.set_cons_succ, i64_w, i32_w]
    rfl
   refine one_ (i := 23) (N := some 48) (bm 24 16777215) rfl rfl (one_of HT_.out (by kernel_rfl)) (by decide) (fun K hK => ?_)
   refine goes_ Tryz.func79 (by kernel_rfl) rfl #[.pointer (some ⟨g, 0, none⟩), .int .i64 ((rd_T59 r x).f0), .int .i64 ((rd_T59 r x).f1), .int .i64 ((rd_T59 r x).f2), .int .i64 v] (by rfl) rfl rfl (by (try simp only [List.map_toArray, List.map_cons, List.map_nil]); first | done | rfl) ?_
   have hA := HASC.out
   unfold chiAsc at hA
   (with_reducible refine (chi_setT_calls w _ g (l0.length : Int) T ((rd_T59 r x).f0) ((rd_T59 r x).f1) ((rd_T59 r x).f2) v HI0.out HB.out (by omega) (by omega) (by omega)).mono ?_)
   rintro e' w10 ⟨rfl, hh1, hb1, hk1⟩
   refine ⟨_, rfl, ?_⟩
   have HO9 := aM_ (Kd.R_mono (ok' := fun _ => True) (Kd.R_keep HO_8.out hk1 (fun _ hk => hk.2)) (fun _ _ => trivial))
   have HBS := aM_ (show w10.heap[gb101]? = some (.cells #[.int .i64 0, .string (⟨#[]⟩ : ByteArray)] 45 (0, 0)) from (hk1.2 gb101 (blk_lt BK101.out) HGG.out (by simp)).trans BK101.out)
   have HB6 := aM_ (show w10.heap[gb106]? = some (.cells #[.int .i64 ((rd_T59 r x).f0), .int .i64 ((rd_T59 r x).f1), .int .i64 ((rd_T59 r x).f2)] 59 (0, 0)) from (hk1.2 gb106 (blk_lt BK106.out) GW106.out (by simp)).trans BK106.out)
   clear HO_8 BK106 HB HI0 BK101
   have BK106 := HB6
   have HB := aM_ hb1
   refine hK.out _ _ ⟨(blk_cell BK106.out 0).trans rfl, (blk_cell BK106.out 1).trans rfl, (blk_cell BK106.out 2).trans rfl, ((HB.out.cell (World.block_lt_of_cell? w _ hw107_0)).trans hw107_0), ((HB.out.cell (World.block_lt_of_cell? w _ hw107_1)).trans hw107_1), ((HB.out.cell (World.block_lt_of_cell? w _ hw108_0)).trans hw108_0), ((HB.out.cell (World.block_lt_of_cell? w _ hw108_1)).trans hw108_1), ((HB.out.cell (World.block_lt_of_cell? w _ hw109_0)).trans hw109_0), ((HB.out.cell (World.block_lt_of_cell? w _ hw109_1)).trans hw109_1)⟩ (fun hHeld => ?_)
   clear hK K
   refine done_ (done_of HT_.out (by kernel_rfl)) ?_
   try go_wp2
   go_roundg (gk - 1)
   case measure => have := HK1.out; have := HIX.out; omega
   case rel => exact ⟨wrap64 (x + 1), ix + 1, _, (by first | rfl | (simp; done) | (rw [HW.out]; first | rfl | (simp; done))), ⟨HW.out⟩, ⟨by have := HK1.out; have := HIX.out; omega⟩, ⟨by rw [HST.out, HT.out]⟩, ⟨hh1⟩, HBS, HO9, ⟨hb1⟩⟩
  ·have c5b0 : decide (x < (r.length : Int)) = false := decide_eq_false c5
   have HE := aM_ (show ix = r.length by have := HK1.out; have := HX.out; omega)
   clear c5
   go_wp2_with (first | (go_at_call 80; (with_reducible refine (chi_signsT_calls 300 w _ g (l0.length : Int) T r (by rw [← HRR.out]; exact HR.out) HL.out HAS.out HI0.out).mono ?_); rintro e w7 ⟨rfl, hb⟩; have n0_ := aM_ (below_step HB.out hb); have n1_ := aM_ (blk_below (g := gb101) (o := .cells #[.int .i64 0, .string (⟨#[]⟩ : ByteArray)] 45 (0, 0)) BK101.out hb); clear HB BK101; have HB := n0_; have BK101 := n1_; clear n0_ n1_ hb; have hcz14_0 : w7.cell? ⟨gb101, 0, none⟩ = some (.int .i64 0) := (blk_cell BK101.out 0).trans rfl; have hcz14_1 : w7.cell? ⟨gb101, 1, none⟩ = some (.string (⟨#[]⟩ : ByteArray)) := (blk_cell BK101.out 1).trans rfl; have hfz14_0 := blk_frozen BK101.out 0; have hfz14_1 := blk_frozen BK101.out 1))
   have hTT : T = turnTab l0 r := by rw [HT.out, HE.out, List.take_length]; rfl
   rw [HRR.out, ← hTT]
   refine bodyPost_ret (results_ct rfl _ _ gb101 45 #[.int .i64 (l0.length : Int), .string (strOfNums (r.map (sgnB T)))] (0, 0) _ rfl (by (with_reducible repeat (first | refine blk_drewN ?_ _ | refine blk_drew ?_ | refine blk_alloc ?_ _)); refine blk_put (cs := #[.int .i64 (l0.length : Int), .string (⟨#[]⟩ : ByteArray)]) ?_ 1 _ rfl; (with_reducible repeat (first | refine blk_drewN ?_ _ | refine blk_drew ?_ | refine blk_alloc ?_ _)); refine blk_put (cs := #[.int .i64 0, .string (⟨#[]⟩ : ByteArray)]) ?_ 0 _ rfl; (with_reducible repeat (first | refine blk_drewN ?_ _ | refine blk_drew ?_ | refine blk_alloc ?_ _)); exact BK101.out) Tryz.underlying45 rfl (by kernel_rfl)) rfl ?_
   exact ⟨by first | rfl | (simp [errW_none, errW_some] <;> rfl) | (simp [*, errW_none, errW_some] <;> rfl), by repeat (first | (with_reducible first | exact HB.out | apply bA_ | apply bN_ | apply bD_ | refine below_set ?_ GE101.out) | exact HB.out)⟩
end Go.Proofs.YteaagaekdkolnaaGreatDoor.P

