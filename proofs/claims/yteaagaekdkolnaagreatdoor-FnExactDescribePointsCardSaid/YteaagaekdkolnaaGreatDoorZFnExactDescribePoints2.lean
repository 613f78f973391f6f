/- A part of the proof of FnExactDescribePoints: printed contracts and plain laws, joined by a program of this session. -/
import Derived.Test.YteaagaekdkolnaaGreatDoorZFnExactDescribePoints1
namespace Go.Proofs.YteaagaekdkolnaaGreatDoor.P
open Go.RowKit Go.Proofs.YteaagaekdkolnaaGreatDoorW.PrintWords Go.Proofs.YteaagaekdkolnaaGreatDoorW.PrintLast Go.Proofs.YteaagaekdkolnaaGreatDoorW.PrintMore
attribute [local go_sem] max2_int min2_int max_two min_two max_three min_three max_four min_four   -- for this text's walks alone
set_option linter.unusedVariables false
set_option linter.unusedSimpArgs false
/-! ### spec_l5Inner: function 88 -/
def spec_l5Inner.f (k : Nat) (a0_0 : Int) (a0_1 : ByteArray) (l1 : List Int) : Option (Int) := (spec_l5Split.f k a0_0 a0_1 l1).bind fun bt102 => ((spec_l5Only.f k bt102.1).bind fun t104 => ((spec_l5Only.f k bt102.2).bind fun t105 => ((spec_l1Max.f t104 t105).bind fun t106 => (some t106))))
set_option maxHeartbeats 8000000 in
set_option maxRecDepth 100000 in
theorem spec_l5Inner.calls (k : Nat) (a0_0 : Int) (a0_1 : ByteArray) (A1 : Option Addr) (c1 : Nat) (l1 : List Int) (r : Int) (w : World) (hr1 : Kd.C (Kd.int .i64) w A1 l1.length l1) (hc1 : l1.length ≤ c1) (h : spec_l5Inner.f k a0_0 a0_1 l1 = some r) :
  Calls Tryz.prog 88 #[.agg #[.int .i64 a0_0, .string a0_1], .slice A1 l1.length c1] w fun e w' => e = .returned (.int .i64 r) ∧ Below w.heap.size w w' := by
 have hu45 := Tryz.underlying45
 have HR1 := aM_ hr1
 have HC1 := aM_ hc1
 clear hr1 hc1
 have HB := aM_ (Below.refl w.heap.size w)
 have H : ((spec_l5Split.f k a0_0 a0_1 l1).bind fun bt102 => ((spec_l5Only.f k bt102.1).bind fun t104 => ((spec_l5Only.f k bt102.2).bind fun t105 => ((spec_l1Max.f t104 t105).bind fun t106 => (some t106))))) = some r := h
 clear h
 replace H := oB_ H
 obtain ⟨⟨t102, t103⟩, A30, H⟩ := H
 replace H : ((spec_l5Only.f k t102).bind fun t104 => ((spec_l5Only.f k t103).bind fun t105 => ((spec_l1Max.f t104 t105).bind fun t106 => (some t106)))) = some r := H
 have A3 := aM_ A30
 clear A30
 replace H := oB_ H
 obtain ⟨t104, A40, H⟩ := H
 have A4 := aM_ A40
 clear A40
 replace H := oB_ H
 obtain ⟨t105, A50, H⟩ := H
 have A5 := aM_ A50
 clear A50
 replace H := oB_ H
 obtain ⟨t106, A60, H⟩ := H
 have A6 := aM_ A60
 clear A60
 obtain rfl := Option.some.inj H
 go_enter Tryz.func88, Tryz.ntmps88
 go_wp2_with (first | ((with_reducible refine gate_dst (N := 2) rfl ?_); refine boxE_ (N := 2) #[.int .i64 a0_0, .string a0_1] 45 ?_; intro gb101 hg w7 hbox hb; have BK101 := aM_ (hbox); have GW101 := aM_ ((bs_ HB hg)); have GE101 := aM_ ((bs_ HB hg)); replace HB := aM_ (below_step (bB_ HB) hb); clear hb hbox hg; have hcz8_0 := bc_ BK101 0; have hcz8_1 := bc_ BK101 1; have hfz8_0 := blk_frozen BK101.out 0; have hfz8_1 := blk_frozen BK101.out 1) | ((with_reducible refine gate_callee (f := 100) rfl ?_); refine goesM_ (some 10) Tryz.func100 #[.agg #[.int .i64 a0_0, .string a0_1], .slice A1 l1.length c1] ?_; (with_reducible refine (spec_l5Split.calls k a0_0 a0_1 _ _ l1 t102 t103 _ ?side1 ?side2 A3.out).mono ?_); (case side1 => repeat (first | exact (Kd.C_below HR1.out HB.out) | (with_reducible refine Kd.C_alloc ?_ _) | (with_reducible refine Kd.C_drewN ?_ _) | (with_reducible refine Kd.C_drew ?_))); (case side2 => exact HC1.out); rintro e w9 ⟨rfl, hb⟩; refine ⟨_, rfl, ?_⟩; replace BK101 := aM_ (bkb_ BK101 hb); replace HB := aM_ (below_step (bB_ HB) hb); (try clear hb)) | ((with_reducible refine gate_callee (f := 101) rfl ?_); refine goesM_ (some 14) Tryz.func101 #[.int .i64 t102] ?_; (with_reducible refine (spec_l5Only.calls k t102 t104 _ A4.out).mono ?_); rintro e w' ⟨rfl, ⟨nd, rfl⟩⟩; refine ⟨_, rfl, ?_⟩) | ((with_reducible refine gate_callee (f := 101) rfl ?_); refine goesM_ (some 16) Tryz.func101 #[.int .i64 t103] ?_; (with_reducible refine (spec_l5Only.calls k t103 t105 _ A5.out).mono ?_); rintro e w' ⟨rfl, ⟨nd, rfl⟩⟩; refine ⟨_, rfl, ?_⟩) | ((with_reducible refine gate_callee (f := 53) rfl ?_); refine goesM_ (some 17) Tryz.func53 #[.int .i64 t104, .int .i64 t105] ?_; (with_reducible refine (spec_l1Max.calls t104 t105 t106 _ A6.out).mono ?_); rintro e w' ⟨rfl, ⟨nd, rfl⟩⟩; refine ⟨_, rfl, ?_⟩))
 go_ret
 exact ⟨verr_, bB_ HB⟩
end Go.Proofs.YteaagaekdkolnaaGreatDoor.P

namespace Go.Proofs.YteaagaekdkolnaaGreatDoor.P
open Go.RowKit Go.Proofs.YteaagaekdkolnaaGreatDoorW.PrintWords Go.Proofs.YteaagaekdkolnaaGreatDoorW.PrintLast Go.Proofs.YteaagaekdkolnaaGreatDoorW.PrintMore
attribute [local go_sem] max2_int min2_int max_two min_two max_three min_three max_four min_four   -- for this text's walks alone
set_option linter.unusedVariables false
set_option linter.unusedSimpArgs false
/-! ### spec_l6In: function 72 -/
mutual
def spec_l6In.l0 : Nat → Int → Int → Int → Int → ByteArray → Option (Bool)
 | 0, _, _, _, _, _ => none
 | k + 1, x1, x2, x7, x102000, x102001 => if x7 < x102000 then (spec_l6In.l1 k x1 x2 x7 (wrap64 (x7 + 1)) x102000 x102001) else (some false)
def spec_l6In.l1 : Nat → Int → Int → Int → Int → Int → ByteArray → Option (Bool)
 | 0, _, _, _, _, _, _ => none
 | k + 1, x1, x2, x7, x8, x102000, x102001 => if x8 < x102000 then (spec_l6In.l2 k x1 x2 x7 x8 (wrap64 (x8 + 1)) x102000 x102001) else (spec_l6In.l0 k x1 x2 (wrap64 (x7 + 1)) x102000 x102001)
def spec_l6In.l2 : Nat → Int → Int → Int → Int → Int → Int → ByteArray → Option (Bool)
 | 0, _, _, _, _, _, _, _ => none
 | k + 1, x1, x2, x7, x8, x9, x102000, x102001 => if x9 < x102000 then (if x2 = x7 then (spec_l6In.l2 k x1 x2 x7 x8 (wrap64 (x9 + 1)) x102000 x102001) else (if x2 = x8 then (spec_l6In.l2 k x1 x2 x7 x8 (wrap64 (x9 + 1)) x102000 x102001) else (if x2 = x9 then (spec_l6In.l2 k x1 x2 x7 x8 (wrap64 (x9 + 1)) x102000 x102001) else ((spec_l6Has.f x1 x7).bind fun t102 => (if t102 = true then ((spec_l6Has.f x1 x8).bind fun t103 => (if t103 = true then ((spec_l6Has.f x1 x9).bind fun t104 => (if t104 = true then ((spec_l5Inner.f k x102000 x102001 (([x2, x7, x8, x9] : List Int))).bind fun t108 => (if t108 = x2 then (some true) else (spec_l6In.l2 k x1 x2 x7 x8 (wrap64 (x9 + 1)) x102000 x102001))) else (spec_l6In.l2 k x1 x2 x7 x8 (wrap64 (x9 + 1)) x102000 x102001))) else (spec_l6In.l2 k x1 x2 x7 x8 (wrap64 (x9 + 1)) x102000 x102001))) else (spec_l6In.l2 k x1 x2 x7 x8 (wrap64 (x9 + 1)) x102000 x102001)))))) else (spec_l6In.l1 k x1 x2 x7 (wrap64 (x8 + 1)) x102000 x102001)
end
def spec_l6In.f (k : Nat) (a0_0 : Int) (a0_1 : ByteArray) (a1 : Int) (a2 : Int) : Option (Bool) := spec_l6In.l0 k a1 a2 0 a0_0 a0_1
set_option maxHeartbeats 8000000 in
set_option maxRecDepth 100000 in
theorem spec_l6In.calls (k : Nat) (a0_0 : Int) (a0_1 : ByteArray) (a1 : Int) (a2 : Int) (r : Bool) (w : World) (h : spec_l6In.f k a0_0 a0_1 a1 a2 = some r) :
  Calls Tryz.prog 72 #[.agg #[.int .i64 a0_0, .string a0_1], .int .i64 a1, .int .i64 a2] w fun e w' => e = .returned (.bool r) ∧ Below w.heap.size w w' := by
 have hu45 := Tryz.underlying45
 have HB := aM_ (Below.refl w.heap.size w)
 have H : (spec_l6In.l0 k a1 a2 0 a0_0 a0_1) = some r := h
 clear h
 have H' := aM_ H
 clear H
 go_enter Tryz.func72, Tryz.ntmps72
 go_wp2_with (first | ((with_reducible refine gate_dst (N := 3) rfl ?_); (try (refine gate_guard (by rfl) ?_; dsimp only)); refine boxE_ (N := 3) #[.int .i64 a0_0, .string a0_1] 45 ?_; intro gb101 hg w4 hbox hb; have BK101 := aM_ (hbox); have GW101 := aM_ ((bs_ HB hg)); have GE101 := aM_ ((bs_ HB hg)); replace HB := aM_ (below_step (bB_ HB) hb); clear hb hbox hg))
 go_loopg [7] k (fun kq v7 w' => ∃ (x7_1 : Int), v7 = .int .i64 x7_1 ∧ Aside0 (spec_l6In.l0 kq a1 a2 x7_1 a0_0 a0_1 = some r) ∧ Aside0 (kq ≤ k) ∧ Aside0 (w'.heap[gb101]? = some (.cells #[.int .i64 a0_0, .string a0_1] 45 (0, 0))) ∧ Aside0 (Below w.heap.size w w'))
 case atStart => exact ⟨(0), veq_, H', ⟨Nat.le_refl _⟩, ⟨bk_ BK101⟩, ⟨bB_ HB⟩⟩
 case round =>
  clear H'
  obtain ⟨x7_1, rfl, HA, HK1, BK101, HB⟩ := hrel
  cases gk with
  | zero => exact absurd HA.out (by simp [spec_l6In.l0])
  | succ k1 =>
   have H := HA.out
   clear HA
   simp only [spec_l6In.l0] at H
   rcases ifd_ H with ⟨c5b0, H⟩ | ⟨c5b0, H⟩
   ·have H' := aM_ H
    clear H
    have hcz6_0 := bc_ BK101 0
    have hcz6_1 := bc_ BK101 1
    have hfz6_0 := blk_frozen BK101.out 0
    have hfz6_1 := blk_frozen BK101.out 1
    go_wp2
    go_loopg [8] k1 (fun kq v8 w' => ∃ (x8_2 : Int), v8 = .int .i64 x8_2 ∧ Aside0 (spec_l6In.l1 kq a1 a2 x7_1 x8_2 a0_0 a0_1 = some r) ∧ Aside0 (kq ≤ k1) ∧ Aside0 (w'.heap[gb101]? = some (.cells #[.int .i64 a0_0, .string a0_1] 45 (0, 0))) ∧ Aside0 (Below w.heap.size w w'))
    case atStart => exact ⟨(wrap64 (x7_1 + 1)), veq_, H', ⟨Nat.le_refl _⟩, ⟨bk_ BK101⟩, ⟨bB_ HB⟩⟩
    case round =>
     clear H'
     try clear c5b0
     try clear hcz6_0
     try clear hcz6_1
     try clear hfz6_0
     try clear hfz6_1
     obtain ⟨x8_2, rfl, HA, HK2, BK101, HB⟩ := hrel
     cases gk with
     | zero => exact absurd HA.out (by simp [spec_l6In.l1])
     | succ k2 =>
      have H := HA.out
      clear HA
      simp only [spec_l6In.l1] at H
      rcases ifd_ H with ⟨c7b0, H⟩ | ⟨c7b0, H⟩
      ·have H' := aM_ H
       clear H
       have hcz8_0 := bc_ BK101 0
       have hcz8_1 := bc_ BK101 1
       have hfz8_0 := blk_frozen BK101.out 0
       have hfz8_1 := blk_frozen BK101.out 1
       go_wp2
       go_loopg [9] k2 (fun kq v9 w' => ∃ (x9_3 : Int), v9 = .int .i64 x9_3 ∧ Aside0 (spec_l6In.l2 kq a1 a2 x7_1 x8_2 x9_3 a0_0 a0_1 = some r) ∧ Aside0 (kq ≤ k2) ∧ Aside0 (w'.heap[gb101]? = some (.cells #[.int .i64 a0_0, .string a0_1] 45 (0, 0))) ∧ Aside0 (Below w.heap.size w w'))
       case atStart => exact ⟨(wrap64 (x8_2 + 1)), veq_, H', ⟨Nat.le_refl _⟩, ⟨bk_ BK101⟩, ⟨bB_ HB⟩⟩
       case round =>
        clear H'
        try clear c5b0
        try clear c7b0
        try clear hcz6_0
        try clear hcz6_1
        try clear hcz8_0
        try clear hcz8_1
        try clear hfz6_0
        try clear hfz6_1
        try clear hfz8_0
        try clear hfz8_1
        obtain ⟨x9_3, rfl, HA, HK3, BK101, HB⟩ := hrel
        cases gk with
        | zero => exact absurd HA.out (by simp [spec_l6In.l2])
        | succ k3 =>
         have H := HA.out
         clear HA
         simp only [spec_l6In.l2] at H
         rcases ifd_ H with ⟨c9b0, H⟩ | ⟨c9b0, H⟩
         ·rcases ifc_ H with ⟨c10, H⟩ | ⟨c10, H⟩
          ·have c10b0 : (a2 == x7_1) = true := beq_iff_eq.mpr c10
           have c10b1 : (a2 != x7_1) = false := bne_eq_false_iff_eq.mpr c10
           clear c10
           have H' := aM_ H
           clear H
           have hcz11_0 := bc_ BK101 0
           have hcz11_1 := bc_ BK101 1
           have hfz11_0 := blk_frozen BK101.out 0
           have hfz11_1 := blk_frozen BK101.out 1
           go_wp2
           go_roundg k3
           case measure => have := HK1.out; have := HK2.out; have := HK3.out; omega
           case rel => exact ⟨(wrap64 (x9_3 + 1)), veq_, H', ⟨by have := HK1.out; have := HK2.out; have := HK3.out; omega⟩, ⟨bk_ BK101⟩, ⟨bB_ HB⟩⟩
          ·have c10b0 : (a2 == x7_1) = false := beq_eq_false_iff_ne.mpr c10
           have c10b1 : (a2 != x7_1) = true := bne_iff_ne.mpr c10
           rcases ifc_ H with ⟨c12, H⟩ | ⟨c12, H⟩
           ·have c12b0 : (a2 == x8_2) = true := beq_iff_eq.mpr c12
            have c12b1 : (a2 != x8_2) = false := bne_eq_false_iff_eq.mpr c12
            clear c12
            have H' := aM_ H
            clear H
            have hcz13_0 := bc_ BK101 0
            have hcz13_1 := bc_ BK101 1
            have hfz13_0 := blk_frozen BK101.out 0
            have hfz13_1 := blk_frozen BK101.out 1
            go_wp2
            go_roundg k3
            case measure => have := HK1.out; have := HK2.out; have := HK3.out; omega
            case rel => exact ⟨(wrap64 (x9_3 + 1)), veq_, H', ⟨by have := HK1.out; have := HK2.out; have := HK3.out; omega⟩, ⟨bk_ BK101⟩, ⟨bB_ HB⟩⟩
           ·have c12b0 : (a2 == x8_2) = false := beq_eq_false_iff_ne.mpr c12
            have c12b1 : (a2 != x8_2) = true := bne_iff_ne.mpr c12
            rcases ifc_ H with ⟨c14, H⟩ | ⟨c14, H⟩
            ·have c14b0 : (a2 == x9_3) = true := beq_iff_eq.mpr c14
             have c14b1 : (a2 != x9_3) = false := bne_eq_false_iff_eq.mpr c14
             clear c14
             have H' := aM_ H
             clear H
             have hcz15_0 := bc_ BK101 0
             have hcz15_1 := bc_ BK101 1
             have hfz15_0 := blk_frozen BK101.out 0
             have hfz15_1 := blk_frozen BK101.out 1
             go_wp2
             go_roundg k3
             case measure => have := HK1.out; have := HK2.out; have := HK3.out; omega
             case rel => exact ⟨(wrap64 (x9_3 + 1)), veq_, H', ⟨by have := HK1.out; have := HK2.out; have := HK3.out; omega⟩, ⟨bk_ BK101⟩, ⟨bB_ HB⟩⟩
            ·have c14b0 : (a2 == x9_3) = false := beq_eq_false_iff_ne.mpr c14
             have c14b1 : (a2 != x9_3) = true := bne_iff_ne.mpr c14
             replace H := oB_ H
             obtain ⟨t102, A160, H⟩ := H
             have A16 := aM_ A160
             clear A160
             by_cases c17 : t102 = true
             ·subst c17
              rw [if_pos rfl] at H
              replace H := oB_ H
              obtain ⟨t103, A180, H⟩ := H
              have A18 := aM_ A180
              clear A180
              by_cases c19 : t103 = true
              ·subst c19
               rw [if_pos rfl] at H
               replace H := oB_ H
               obtain ⟨t104, A200, H⟩ := H
               have A20 := aM_ A200
               clear A200
               by_cases c21 : t104 = true
               ·subst c21
                rw [if_pos rfl] at H
                obtain ⟨y105, hy105⟩ : ∃ y_ : List Int, y_ = (([a2, x7_1, x8_2, x9_3] : List Int)) := ⟨_, rfl⟩
                replace H : ((spec_l5Inner.f k3 a0_0 a0_1 y105).bind fun t108 => (if t108 = a2 then (some true) else (spec_l6In.l2 k3 a1 a2 x7_1 x8_2 (wrap64 (x9_3 + 1)) a0_0 a0_1))) = some r := by first | (rw [hy105]; with_reducible exact H) | (have H2_ := (Option.bind_some _ _).symm.trans H; rw [hy105]; with_reducible exact H2_) | (have H2_ := (Option.bind_some _ _).symm.trans H; with_reducible exact H2_) | with_reducible exact H | (rw [hy105]; exact H) | exact H
                have Ny105 := aM_ hy105
                clear hy105
                replace H := oB_ H
                obtain ⟨t108, A220, H⟩ := H
                have A22 := aM_ A220
                clear A220
                rcases ifc_ H with ⟨c23, H⟩ | ⟨c23, H⟩
                ·have c23b0 : (t108 == a2) = true := beq_iff_eq.mpr c23
                 have c23b1 : (t108 != a2) = false := bne_eq_false_iff_eq.mpr c23
                 clear c23
                 obtain rfl := Option.some.inj H
                 have hcz24_0 := bc_ BK101 0
                 have hcz24_1 := bc_ BK101 1
                 have hfz24_0 := blk_frozen BK101.out 0
                 have hfz24_1 := blk_frozen BK101.out 1
                 go_wp2_with (first | (go_at_call 49; (with_reducible refine (spec_l6Has.calls a1 x7_1 true _ A16.out).mono ?_); rintro e w' ⟨rfl, ⟨nd, rfl⟩⟩) | (go_at_call 49; (with_reducible refine (spec_l6Has.calls a1 x8_2 true _ A18.out).mono ?_); rintro e w' ⟨rfl, ⟨nd, rfl⟩⟩) | (go_at_call 49; (with_reducible refine (spec_l6Has.calls a1 x9_3 true _ A20.out).mono ?_); rintro e w' ⟨rfl, ⟨nd, rfl⟩⟩) | ((with_reducible refine gate_dst (N := 66) rfl ?_); (try (refine gate_guard (by rfl) ?_; dsimp only)); refine Kd.R_lit (Kd.int .i64) _ 3 ?hg (N := 66) ?hd (xs := ([a2, x7_1, x8_2, x9_3] : List Int)) (inner := [.int .i64 a2, .int .i64 x7_1, .int .i64 x8_2, .int .i64 x9_3]) (ok := fun _ => True) (okp := fun _ => True) ?hr ?hp (fun _ hk => hk) trivial (Below.refl _ _) (Nat.le_refl _) (by simp) ?_; (case hd => rfl); (case hg => rfl); (case hr => first | (go_simp; done) | (go_simp; rfl)); (case hp => exact (Reps.one (show Kd.M (Kd.int .i64) _ _ _ a2 [.int .i64 a2] from rfl) (Reps.one (show Kd.M (Kd.int .i64) _ _ _ x7_1 [.int .i64 x7_1] from rfl) (Reps.one (show Kd.M (Kd.int .i64) _ _ _ x8_2 [.int .i64 x8_2] from rfl) (Reps.one (show Kd.M (Kd.int .i64) _ _ _ x9_3 [.int .i64 x9_3] from rfl) (Reps.none _ _)))))); intro v106 w25 ho26 hb hg_ hnew_; clear hg_ hnew_; (first | rw [← Ny105.out] at ho26 | (simp only [Int.reduceToNat] at ho26; rw [← Ny105.out] at ho26)); have HO107 := aM_ (Kd.R_lower ho26 (below_size (bB_ HB))); replace BK101 := aM_ (bkb_ BK101 hb); replace HB := aM_ (below_step (bB_ HB) hb); clear hb ho26; obtain ⟨Ao27, co27, eo27⟩ := Kd.R_slice HO107.out; subst eo27) | (go_at_call 88; (with_reducible refine (spec_l5Inner.calls k3 a0_0 a0_1 _ _ y105 t108 _ ?side1 ?side2 A22.out).mono ?_); (case side1 => repeat (first | exact (Kd.R_reads' HO107.out).2.2 | (with_reducible refine Kd.C_alloc ?_ _) | (with_reducible refine Kd.C_drewN ?_ _) | (with_reducible refine Kd.C_drew ?_))); (case side2 => exact (Kd.R_reads' HO107.out).2.1); rintro e w28 ⟨rfl, hb⟩; replace HO107 := aM_ (Kd.R_below (kr_ HO107) hb); replace BK101 := aM_ (bkb_ BK101 hb); replace HB := aM_ (below_step (bB_ HB) hb); (try clear hb); (try clear hk)))
                 go_ret
                 exact ⟨verr_, bB_ HB⟩
                ·have c23b0 : (t108 == a2) = false := beq_eq_false_iff_ne.mpr c23
                 have c23b1 : (t108 != a2) = true := bne_iff_ne.mpr c23
                 have H' := aM_ H
                 clear H
                 have hcz29_0 := bc_ BK101 0
                 have hcz29_1 := bc_ BK101 1
                 have hfz29_0 := blk_frozen BK101.out 0
                 have hfz29_1 := blk_frozen BK101.out 1
                 go_wp2_with (first | (go_at_call 49; (with_reducible refine (spec_l6Has.calls a1 x7_1 true _ A16.out).mono ?_); rintro e w' ⟨rfl, ⟨nd, rfl⟩⟩) | (go_at_call 49; (with_reducible refine (spec_l6Has.calls a1 x8_2 true _ A18.out).mono ?_); rintro e w' ⟨rfl, ⟨nd, rfl⟩⟩) | (go_at_call 49; (with_reducible refine (spec_l6Has.calls a1 x9_3 true _ A20.out).mono ?_); rintro e w' ⟨rfl, ⟨nd, rfl⟩⟩) | ((with_reducible refine gate_dst (N := 66) rfl ?_); (try (refine gate_guard (by rfl) ?_; dsimp only)); refine Kd.R_lit (Kd.int .i64) _ 3 ?hg (N := 66) ?hd (xs := ([a2, x7_1, x8_2, x9_3] : List Int)) (inner := [.int .i64 a2, .int .i64 x7_1, .int .i64 x8_2, .int .i64 x9_3]) (ok := fun _ => True) (okp := fun _ => True) ?hr ?hp (fun _ hk => hk) trivial (Below.refl _ _) (Nat.le_refl _) (by simp) ?_; (case hd => rfl); (case hg => rfl); (case hr => first | (go_simp; done) | (go_simp; rfl)); (case hp => exact (Reps.one (show Kd.M (Kd.int .i64) _ _ _ a2 [.int .i64 a2] from rfl) (Reps.one (show Kd.M (Kd.int .i64) _ _ _ x7_1 [.int .i64 x7_1] from rfl) (Reps.one (show Kd.M (Kd.int .i64) _ _ _ x8_2 [.int .i64 x8_2] from rfl) (Reps.one (show Kd.M (Kd.int .i64) _ _ _ x9_3 [.int .i64 x9_3] from rfl) (Reps.none _ _)))))); intro v106 w30 ho31 hb hg_ hnew_; clear hg_ hnew_; (first | rw [← Ny105.out] at ho31 | (simp only [Int.reduceToNat] at ho31; rw [← Ny105.out] at ho31)); have HO107 := aM_ (Kd.R_lower ho31 (below_size (bB_ HB))); replace BK101 := aM_ (bkb_ BK101 hb); replace HB := aM_ (below_step (bB_ HB) hb); clear hb ho31; obtain ⟨Ao32, co32, eo32⟩ := Kd.R_slice HO107.out; subst eo32) | (go_at_call 88; (with_reducible refine (spec_l5Inner.calls k3 a0_0 a0_1 _ _ y105 t108 _ ?side1 ?side2 A22.out).mono ?_); (case side1 => repeat (first | exact (Kd.R_reads' HO107.out).2.2 | (with_reducible refine Kd.C_alloc ?_ _) | (with_reducible refine Kd.C_drewN ?_ _) | (with_reducible refine Kd.C_drew ?_))); (case side2 => exact (Kd.R_reads' HO107.out).2.1); rintro e w33 ⟨rfl, hb⟩; replace HO107 := aM_ (Kd.R_below (kr_ HO107) hb); replace BK101 := aM_ (bkb_ BK101 hb); replace HB := aM_ (below_step (bB_ HB) hb); (try clear hb); (try clear hk)))
                 go_roundg k3
                 case measure => have := HK1.out; have := HK2.out; have := HK3.out; omega
                 case rel => exact ⟨(wrap64 (x9_3 + 1)), veq_, H', ⟨by have := HK1.out; have := HK2.out; have := HK3.out; omega⟩, ⟨bk_ BK101⟩, ⟨bB_ HB⟩⟩
               ·replace c21 := Bool.eq_false_iff.mpr c21
                subst c21
                rw [if_neg (show ¬ (false = true) by decide)] at H
                have H' := aM_ H
                clear H
                have hcz34_0 := bc_ BK101 0
                have hcz34_1 := bc_ BK101 1
                have hfz34_0 := blk_frozen BK101.out 0
                have hfz34_1 := blk_frozen BK101.out 1
                go_wp2_with (first | (go_at_call 49; (with_reducible refine (spec_l6Has.calls a1 x7_1 true _ A16.out).mono ?_); rintro e w' ⟨rfl, ⟨nd, rfl⟩⟩) | (go_at_call 49; (with_reducible refine (spec_l6Has.calls a1 x8_2 true _ A18.out).mono ?_); rintro e w' ⟨rfl, ⟨nd, rfl⟩⟩) | (go_at_call 49; (with_reducible refine (spec_l6Has.calls a1 x9_3 false _ A20.out).mono ?_); rintro e w' ⟨rfl, ⟨nd, rfl⟩⟩))
                go_roundg k3
                case measure => have := HK1.out; have := HK2.out; have := HK3.out; omega
                case rel => exact ⟨(wrap64 (x9_3 + 1)), veq_, H', ⟨by have := HK1.out; have := HK2.out; have := HK3.out; omega⟩, ⟨bk_ BK101⟩, ⟨bB_ HB⟩⟩
              ·replace c19 := Bool.eq_false_iff.mpr c19
               subst c19
               rw [if_neg (show ¬ (false = true) by decide)] at H
               have H' := aM_ H
               clear H
               have hcz35_0 := bc_ BK101 0
               have hcz35_1 := bc_ BK101 1
               have hfz35_0 := blk_frozen BK101.out 0
               have hfz35_1 := blk_frozen BK101.out 1
               go_wp2_with (first | (go_at_call 49; (with_reducible refine (spec_l6Has.calls a1 x7_1 true _ A16.out).mono ?_); rintro e w' ⟨rfl, ⟨nd, rfl⟩⟩) | (go_at_call 49; (with_reducible refine (spec_l6Has.calls a1 x8_2 false _ A18.out).mono ?_); rintro e w' ⟨rfl, ⟨nd, rfl⟩⟩))
               go_roundg k3
               case measure => have := HK1.out; have := HK2.out; have := HK3.out; omega
               case rel => exact ⟨(wrap64 (x9_3 + 1)), veq_, H', ⟨by have := HK1.out; have := HK2.out; have := HK3.out; omega⟩, ⟨bk_ BK101⟩, ⟨bB_ HB⟩⟩
             ·replace c17 := Bool.eq_false_iff.mpr c17
              subst c17
              rw [if_neg (show ¬ (false = true) by decide)] at H
              have H' := aM_ H
              clear H
              have hcz36_0 := bc_ BK101 0
              have hcz36_1 := bc_ BK101 1
              have hfz36_0 := blk_frozen BK101.out 0
              have hfz36_1 := blk_frozen BK101.out 1
              go_wp2_with (first | (go_at_call 49; (with_reducible refine (spec_l6Has.calls a1 x7_1 false _ A16.out).mono ?_); rintro e w' ⟨rfl, ⟨nd, rfl⟩⟩))
              go_roundg k3
              case measure => have := HK1.out; have := HK2.out; have := HK3.out; omega
              case rel => exact ⟨(wrap64 (x9_3 + 1)), veq_, H', ⟨by have := HK1.out; have := HK2.out; have := HK3.out; omega⟩, ⟨bk_ BK101⟩, ⟨bB_ HB⟩⟩
         ·have H' := aM_ H
          clear H
          have hcz37_0 := bc_ BK101 0
          have hcz37_1 := bc_ BK101 1
          have hfz37_0 := blk_frozen BK101.out 0
          have hfz37_1 := blk_frozen BK101.out 1
          go_wp2
          go_roundg k3
          case measure => have := HK1.out; have := HK2.out; have := HK3.out; omega
          case rel => exact ⟨(wrap64 (x8_2 + 1)), veq_, H', ⟨by have := HK1.out; have := HK2.out; have := HK3.out; omega⟩, ⟨bk_ BK101⟩, ⟨bB_ HB⟩⟩
      ·have H' := aM_ H
       clear H
       have hcz38_0 := bc_ BK101 0
       have hcz38_1 := bc_ BK101 1
       have hfz38_0 := blk_frozen BK101.out 0
       have hfz38_1 := blk_frozen BK101.out 1
       go_wp2
       go_roundg k2
       case measure => have := HK1.out; have := HK2.out; omega
       case rel => exact ⟨(wrap64 (x7_1 + 1)), veq_, H', ⟨by have := HK1.out; have := HK2.out; omega⟩, ⟨bk_ BK101⟩, ⟨bB_ HB⟩⟩
   ·obtain rfl := Option.some.inj H
    have hcz39_0 := bc_ BK101 0
    have hcz39_1 := bc_ BK101 1
    have hfz39_0 := blk_frozen BK101.out 0
    have hfz39_1 := blk_frozen BK101.out 1
    go_wp2
    go_ret
    exact ⟨verr_, bB_ HB⟩
end Go.Proofs.YteaagaekdkolnaaGreatDoor.P

namespace Go.Proofs.YteaagaekdkolnaaGreatDoor.P
open Go.RowKit Go.Proofs.YteaagaekdkolnaaGreatDoorW.PrintWords Go.Proofs.YteaagaekdkolnaaGreatDoorW.PrintLast Go.Proofs.YteaagaekdkolnaaGreatDoorW.PrintMore
attribute [local go_sem] max2_int min2_int max_two min_two max_three min_three max_four min_four   -- for this text's walks alone
set_option linter.unusedVariables false
set_option linter.unusedSimpArgs false
/-! ### spec_l6Extreme: function 48 -/
def spec_l6Extreme.l0 : Nat → Int → Int → Int → Int → ByteArray → Option (Int)
 | 0, _, _, _, _, _ => none
 | k + 1, x1, x5, x6, x102000, x102001 => if x6 < x102000 then ((spec_l6Has.f x1 x6).bind fun t102 => (if t102 = true then ((spec_l6In.f k x102000 x102001 x1 x6).bind fun t103 => (if t103 = true then (spec_l6Extreme.l0 k x1 x5 (wrap64 (x6 + 1)) x102000 x102001) else (if 0 ≤ (IntKind.u64.wrap (x6)) then (spec_l6Extreme.l0 k x1 (wrap64 (x5 + (shl .i64 1 (IntKind.u64.wrap (x6))))) (wrap64 (x6 + 1)) x102000 x102001) else (none)))) else (spec_l6Extreme.l0 k x1 x5 (wrap64 (x6 + 1)) x102000 x102001))) else (some x5)
def spec_l6Extreme.f (k : Nat) (a0_0 : Int) (a0_1 : ByteArray) (a1 : Int) : Option (Int) := spec_l6Extreme.l0 k a1 0 0 a0_0 a0_1
set_option maxHeartbeats 8000000 in
set_option maxRecDepth 100000 in
theorem spec_l6Extreme.calls (k : Nat) (a0_0 : Int) (a0_1 : ByteArray) (a1 : Int) (r : Int) (w : World) (h : spec_l6Extreme.f k a0_0 a0_1 a1 = some r) :
  Calls Tryz.prog 48 #[.agg #[.int .i64 a0_0, .string a0_1], .int .i64 a1] w fun e w' => e = .returned (.int .i64 r) ∧ Below w.heap.size w w' := by
 have hu45 := Tryz.underlying45
 have HB := aM_ (Below.refl w.heap.size w)
 have H : (spec_l6Extreme.l0 k a1 0 0 a0_0 a0_1) = some r := h
 clear h
 have H' := aM_ H
 clear H
 go_enter Tryz.func48, Tryz.ntmps48
 go_wp2_with (first | ((with_reducible refine gate_dst (N := 2) rfl ?_); refine boxE_ (N := 2) #[.int .i64 a0_0, .string a0_1] 45 ?_; intro gb101 hg w3 hbox hb; have BK101 := aM_ (hbox); have GW101 := aM_ ((bs_ HB hg)); have GE101 := aM_ ((bs_ HB hg)); replace HB := aM_ (below_step (bB_ HB) hb); clear hb hbox hg))
 go_loopg [5, 6] k (fun kq v5 v6 w' => ∃ (x5_1 : Int) (x6_1 : Int), v5 = .int .i64 x5_1 ∧ v6 = .int .i64 x6_1 ∧ Aside0 (spec_l6Extreme.l0 kq a1 x5_1 x6_1 a0_0 a0_1 = some r) ∧ Aside0 (kq ≤ k) ∧ Aside0 (w'.heap[gb101]? = some (.cells #[.int .i64 a0_0, .string a0_1] 45 (0, 0))) ∧ Aside0 (Below w.heap.size w w'))
 case atStart => exact ⟨(0), (0), veq_, veq_, H', ⟨Nat.le_refl _⟩, ⟨bk_ BK101⟩, ⟨bB_ HB⟩⟩
 case round =>
  clear H'
  obtain ⟨x5_1, x6_1, rfl, rfl, HA, HK1, BK101, HB⟩ := hrel
  cases gk with
  | zero => exact absurd HA.out (by simp [spec_l6Extreme.l0])
  | succ k1 =>
   have H := HA.out
   clear HA
   simp only [spec_l6Extreme.l0] at H
   rcases ifd_ H with ⟨c4b0, H⟩ | ⟨c4b0, H⟩
   ·replace H := oB_ H
    obtain ⟨t102, A50, H⟩ := H
    have A5 := aM_ A50
    clear A50
    by_cases c6 : t102 = true
    ·subst c6
     rw [if_pos rfl] at H
     replace H := oB_ H
     obtain ⟨t103, A70, H⟩ := H
     have A7 := aM_ A70
     clear A70
     by_cases c8 : t103 = true
     ·subst c8
      rw [if_pos rfl] at H
      have H' := aM_ H
      clear H
      have hcz9_0 := bc_ BK101 0
      have hcz9_1 := bc_ BK101 1
      have hfz9_0 := blk_frozen BK101.out 0
      have hfz9_1 := blk_frozen BK101.out 1
      go_wp2_with (first | ((with_reducible refine gate_callee (f := 49) rfl ?_); refine goesM_ (some 15) Tryz.func49 #[.int .i64 a1, .int .i64 x6_1] ?_; (with_reducible refine (spec_l6Has.calls a1 x6_1 true _ A5.out).mono ?_); rintro e w' ⟨rfl, ⟨nd, rfl⟩⟩; refine ⟨_, rfl, ?_⟩) | (go_at_call 72; (with_reducible refine (spec_l6In.calls k1 a0_0 a0_1 a1 x6_1 true _ A7.out).mono ?_); rintro e w10 ⟨rfl, hb⟩; replace BK101 := aM_ (bkb_ BK101 hb); replace HB := aM_ (below_step (bB_ HB) hb); (try clear hb)))
      go_roundg k1
      case measure => have := HK1.out; omega
      case rel => exact ⟨(x5_1), (wrap64 (x6_1 + 1)), veq_, veq_, H', ⟨by have := HK1.out; omega⟩, ⟨bk_ BK101⟩, ⟨bB_ HB⟩⟩
     ·replace c8 := Bool.eq_false_iff.mpr c8
      subst c8
      rw [if_neg (show ¬ (false = true) by decide)] at H
      obtain ⟨ji11, hji11⟩ : ∃ j_ : Int, (IntKind.u64.wrap (x6_1)) = j_ := ⟨_, rfl⟩
      replace H : (if 0 ≤ (ji11) then (spec_l6Extreme.l0 k1 a1 (wrap64 (x5_1 + (shl .i64 1 (ji11)))) (wrap64 (x6_1 + 1)) a0_0 a0_1) else (none)) = some r := by first | (rw [hji11] at H; exact H) | (simp only [hji11] at H ⊢; exact H)
      (try rw [hji11] at A5)
      (try rw [hji11] at A7)
      obtain ⟨c12, H⟩ := ifp_ H
      have c12b0 := eq_true c12
      have c12b1 := decide_eq_true c12
      clear c12
      obtain ⟨ji13, hji13⟩ : ∃ j_ : Int, (shl .i64 1 (ji11)) = j_ := ⟨_, rfl⟩
      replace H : (spec_l6Extreme.l0 k1 a1 (wrap64 (x5_1 + (ji13))) (wrap64 (x6_1 + 1)) a0_0 a0_1) = some r := by first | (rw [hji13] at H; exact H) | (simp only [hji13] at H ⊢; exact H)
      (try rw [hji13] at A5)
      (try rw [hji13] at A7)
      have hji13_ : (IntKind.i64.wrap (1 * 2 ^ min (ji11).toNat 64)) = ji13 := hji13
      have hji13z : (ji11) ≤ 64 → (IntKind.i64.wrap (1 * 2 ^ (ji11).toNat)) = ji13 := shl_small hji13
      have hji13u : (IntKind.i64.wrap (2 ^ min (ji11).toNat 64)) = ji13 := by have h_ := hji13_; rw [Int.one_mul] at h_; exact h_
      have hji13v : (ji11) ≤ 64 → (IntKind.i64.wrap (2 ^ (ji11).toNat)) = ji13 := fun hle_ => by have h_ := hji13z hle_; rw [Int.one_mul] at h_; exact h_
      have hji13y : (wrap64 (1 * 2 ^ min (ji11).toNat 64)) = ji13 := (i64_w _).symm.trans hji13_
      have hji13x : (ji11) ≤ 64 → (wrap64 (1 * 2 ^ (ji11).toNat)) = ji13 := fun h_ => (i64_w _).symm.trans (hji13z h_)
      have H' := aM_ H
      clear H
      have hcz14_0 := bc_ BK101 0
      have hcz14_1 := bc_ BK101 1
      have hfz14_0 := blk_frozen BK101.out 0
      have hfz14_1 := blk_frozen BK101.out 1
      go_wp2_with (first | ((with_reducible refine gate_callee (f := 49) rfl ?_); refine goesM_ (some 15) Tryz.func49 #[.int .i64 a1, .int .i64 x6_1] ?_; (with_reducible refine (spec_l6Has.calls a1 x6_1 true _ A5.out).mono ?_); rintro e w' ⟨rfl, ⟨nd, rfl⟩⟩; refine ⟨_, rfl, ?_⟩) | (go_at_call 72; (with_reducible refine (spec_l6In.calls k1 a0_0 a0_1 a1 x6_1 false _ A7.out).mono ?_); rintro e w15 ⟨rfl, hb⟩; replace BK101 := aM_ (bkb_ BK101 hb); replace HB := aM_ (below_step (bB_ HB) hb); (try clear hb)))
      go_roundg k1
      case measure => have := HK1.out; omega
      case rel => exact ⟨(wrap64 (x5_1 + (ji13))), (wrap64 (x6_1 + 1)), (by first | rfl | (simp; done) | (simp only [← hji13] <;> (first | rfl | simp)) | (simp [*]; done)), veq_, H', ⟨by have := HK1.out; omega⟩, ⟨bk_ BK101⟩, ⟨bB_ HB⟩⟩
    ·replace c6 := Bool.eq_false_iff.mpr c6
     subst c6
     rw [if_neg (show ¬ (false = true) by decide)] at H
     have H' := aM_ H
     clear H
     have hcz16_0 := bc_ BK101 0
     have hcz16_1 := bc_ BK101 1
     have hfz16_0 := blk_frozen BK101.out 0
     have hfz16_1 := blk_frozen BK101.out 1
     go_wp2_with (first | ((with_reducible refine gate_callee (f := 49) rfl ?_); refine goesM_ (some 15) Tryz.func49 #[.int .i64 a1, .int .i64 x6_1] ?_; (with_reducible refine (spec_l6Has.calls a1 x6_1 false _ A5.out).mono ?_); rintro e w' ⟨rfl, ⟨nd, rfl⟩⟩; refine ⟨_, rfl, ?_⟩))
     go_roundg k1
     case measure => have := HK1.out; omega
     case rel => exact ⟨(x5_1), (wrap64 (x6_1 + 1)), veq_, veq_, H', ⟨by have := HK1.out; omega⟩, ⟨bk_ BK101⟩, ⟨bB_ HB⟩⟩
   ·obtain rfl := Option.some.inj H
    have hcz17_0 := bc_ BK101 0
    have hcz17_1 := bc_ BK101 1
    have hfz17_0 := blk_frozen BK101.out 0
    have hfz17_1 := blk_frozen BK101.out 1
    go_wp2
    go_ret
    exact ⟨verr_, bB_ HB⟩
end Go.Proofs.YteaagaekdkolnaaGreatDoor.P

namespace Go.Proofs.YteaagaekdkolnaaGreatDoor.P
open Go.RowKit Go.Proofs.YteaagaekdkolnaaGreatDoorW.PrintWords Go.Proofs.YteaagaekdkolnaaGreatDoorW.PrintLast Go.Proofs.YteaagaekdkolnaaGreatDoorW.PrintMore
attribute [local go_sem] max2_int min2_int max_two min_two max_three min_three max_four min_four   -- for this text's walks alone
set_option linter.unusedVariables false
set_option linter.unusedSimpArgs false
/-! ### spec_l6Left: function 50 -/
def spec_l6Left.l0 : Nat → Int → Int → Int → Int → Int → ByteArray → Option (Bool)
 | 0, _, _, _, _, _, _ => none
 | k + 1, x1, x2, x3, x9, x102000, x102001 => if x9 < x102000 then (if x9 = x2 then (spec_l6Left.l0 k x1 x2 x3 (wrap64 (x9 + 1)) x102000 x102001) else (if x9 = x3 then (spec_l6Left.l0 k x1 x2 x3 (wrap64 (x9 + 1)) x102000 x102001) else ((spec_l6Has.f x1 x9).bind fun t102 => (if t102 = true then ((spec_l3At.f k x102000 x102001 x2 x3 x9).bind fun t103 => (if t103 < 0 then (some false) else (spec_l6Left.l0 k x1 x2 x3 (wrap64 (x9 + 1)) x102000 x102001))) else (spec_l6Left.l0 k x1 x2 x3 (wrap64 (x9 + 1)) x102000 x102001))))) else (some true)
def spec_l6Left.f (k : Nat) (a0_0 : Int) (a0_1 : ByteArray) (a1 : Int) (a2 : Int) (a3 : Int) : Option (Bool) := spec_l6Left.l0 k a1 a2 a3 0 a0_0 a0_1
set_option maxHeartbeats 8000000 in
set_option maxRecDepth 100000 in
theorem spec_l6Left.calls (k : Nat) (a0_0 : Int) (a0_1 : ByteArray) (a1 : Int) (a2 : Int) (a3 : Int) (r : Bool) (w : World) (h : spec_l6Left.f k a0_0 a0_1 a1 a2 a3 = some r) :
  Calls Tryz.prog 50 #[.agg #[.int .i64 a0_0, .string a0_1], .int .i64 a1, .int .i64 a2, .int .i64 a3] w fun e w' => e = .returned (.bool r) ∧ Below w.heap.size w w' := by
 have hu45 := Tryz.underlying45
 have HB := aM_ (Below.refl w.heap.size w)
 have H : (spec_l6Left.l0 k a1 a2 a3 0 a0_0 a0_1) = some r := h
 clear h
 have H' := aM_ H
 clear H
 go_enter Tryz.func50, Tryz.ntmps50
 go_wp2_with (first | ((with_reducible refine gate_dst (N := 4) rfl ?_); refine boxE_ (N := 4) #[.int .i64 a0_0, .string a0_1] 45 ?_; intro gb101 hg w5 hbox hb; have BK101 := aM_ (hbox); have GW101 := aM_ ((bs_ HB hg)); have GE101 := aM_ ((bs_ HB hg)); replace HB := aM_ (below_step (bB_ HB) hb); clear hb hbox hg))
 go_loopg [9] k (fun kq v9 w' => ∃ (x9_1 : Int), v9 = .int .i64 x9_1 ∧ Aside0 (spec_l6Left.l0 kq a1 a2 a3 x9_1 a0_0 a0_1 = some r) ∧ Aside0 (kq ≤ k) ∧ Aside0 (w'.heap[gb101]? = some (.cells #[.int .i64 a0_0, .string a0_1] 45 (0, 0))) ∧ Aside0 (Below w.heap.size w w'))
 case atStart => exact ⟨(0), veq_, H', ⟨Nat.le_refl _⟩, ⟨bk_ BK101⟩, ⟨bB_ HB⟩⟩
 case round =>
  clear H'
  obtain ⟨x9_1, rfl, HA, HK1, BK101, HB⟩ := hrel
  cases gk with
  | zero => exact absurd HA.out (by simp [spec_l6Left.l0])
  | succ k1 =>
   have H := HA.out
   clear HA
   simp only [spec_l6Left.l0] at H
   rcases ifd_ H with ⟨c6b0, H⟩ | ⟨c6b0, H⟩
   ·rcases ifc_ H with ⟨c7, H⟩ | ⟨c7, H⟩
    ·have c7b0 : (x9_1 == a2) = true := beq_iff_eq.mpr c7
     have c7b1 : (x9_1 != a2) = false := bne_eq_false_iff_eq.mpr c7
     clear c7
     have H' := aM_ H
     clear H
     have hcz8_0 := bc_ BK101 0
     have hcz8_1 := bc_ BK101 1
     have hfz8_0 := blk_frozen BK101.out 0
     have hfz8_1 := blk_frozen BK101.out 1
     go_wp2
     go_roundg k1
     case measure => have := HK1.out; omega
     case rel => exact ⟨(wrap64 (x9_1 + 1)), veq_, H', ⟨by have := HK1.out; omega⟩, ⟨bk_ BK101⟩, ⟨bB_ HB⟩⟩
    ·have c7b0 : (x9_1 == a2) = false := beq_eq_false_iff_ne.mpr c7
     have c7b1 : (x9_1 != a2) = true := bne_iff_ne.mpr c7
     rcases ifc_ H with ⟨c9, H⟩ | ⟨c9, H⟩
     ·have c9b0 : (x9_1 == a3) = true := beq_iff_eq.mpr c9
      have c9b1 : (x9_1 != a3) = false := bne_eq_false_iff_eq.mpr c9
      clear c9
      have H' := aM_ H
      clear H
      have hcz10_0 := bc_ BK101 0
      have hcz10_1 := bc_ BK101 1
      have hfz10_0 := blk_frozen BK101.out 0
      have hfz10_1 := blk_frozen BK101.out 1
      go_wp2
      go_roundg k1
      case measure => have := HK1.out; omega
      case rel => exact ⟨(wrap64 (x9_1 + 1)), veq_, H', ⟨by have := HK1.out; omega⟩, ⟨bk_ BK101⟩, ⟨bB_ HB⟩⟩
     ·have c9b0 : (x9_1 == a3) = false := beq_eq_false_iff_ne.mpr c9
      have c9b1 : (x9_1 != a3) = true := bne_iff_ne.mpr c9
      replace H := oB_ H
      obtain ⟨t102, A110, H⟩ := H
      have A11 := aM_ A110
      clear A110
      by_cases c12 : t102 = true
      ·subst c12
       rw [if_pos rfl] at H
       replace H := oB_ H
       obtain ⟨t103, A130, H⟩ := H
       have A13 := aM_ A130
       clear A130
       rcases ifd_ H with ⟨c14b0, H⟩ | ⟨c14b0, H⟩
       ·obtain rfl := Option.some.inj H
        have hcz15_0 := bc_ BK101 0
        have hcz15_1 := bc_ BK101 1
        have hfz15_0 := blk_frozen BK101.out 0
        have hfz15_1 := blk_frozen BK101.out 1
        go_wp2_with (first | (go_at_call 49; (with_reducible refine (spec_l6Has.calls a1 x9_1 true _ A11.out).mono ?_); rintro e w' ⟨rfl, ⟨nd, rfl⟩⟩) | (go_at_call 73; (with_reducible refine (spec_l3At.calls k1 a0_0 a0_1 a2 a3 x9_1 t103 _ A13.out).mono ?_); rintro e w16 ⟨rfl, hb⟩; replace BK101 := aM_ (bkb_ BK101 hb); replace HB := aM_ (below_step (bB_ HB) hb); (try clear hb)))
        go_ret
        exact ⟨verr_, bB_ HB⟩
       ·have H' := aM_ H
        clear H
        have hcz17_0 := bc_ BK101 0
        have hcz17_1 := bc_ BK101 1
        have hfz17_0 := blk_frozen BK101.out 0
        have hfz17_1 := blk_frozen BK101.out 1
        go_wp2_with (first | (go_at_call 49; (with_reducible refine (spec_l6Has.calls a1 x9_1 true _ A11.out).mono ?_); rintro e w' ⟨rfl, ⟨nd, rfl⟩⟩) | (go_at_call 73; (with_reducible refine (spec_l3At.calls k1 a0_0 a0_1 a2 a3 x9_1 t103 _ A13.out).mono ?_); rintro e w18 ⟨rfl, hb⟩; replace BK101 := aM_ (bkb_ BK101 hb); replace HB := aM_ (below_step (bB_ HB) hb); (try clear hb)))
        go_roundg k1
        case measure => have := HK1.out; omega
        case rel => exact ⟨(wrap64 (x9_1 + 1)), veq_, H', ⟨by have := HK1.out; omega⟩, ⟨bk_ BK101⟩, ⟨bB_ HB⟩⟩
      ·replace c12 := Bool.eq_false_iff.mpr c12
       subst c12
       rw [if_neg (show ¬ (false = true) by decide)] at H
       have H' := aM_ H
       clear H
       have hcz19_0 := bc_ BK101 0
       have hcz19_1 := bc_ BK101 1
       have hfz19_0 := blk_frozen BK101.out 0
       have hfz19_1 := blk_frozen BK101.out 1
       go_wp2_with (first | (go_at_call 49; (with_reducible refine (spec_l6Has.calls a1 x9_1 false _ A11.out).mono ?_); rintro e w' ⟨rfl, ⟨nd, rfl⟩⟩))
       go_roundg k1
       case measure => have := HK1.out; omega
       case rel => exact ⟨(wrap64 (x9_1 + 1)), veq_, H', ⟨by have := HK1.out; omega⟩, ⟨bk_ BK101⟩, ⟨bB_ HB⟩⟩
   ·obtain rfl := Option.some.inj H
    have hcz20_0 := bc_ BK101 0
    have hcz20_1 := bc_ BK101 1
    have hfz20_0 := blk_frozen BK101.out 0
    have hfz20_1 := blk_frozen BK101.out 1
    go_wp2
    go_ret
    exact ⟨verr_, bB_ HB⟩
end Go.Proofs.YteaagaekdkolnaaGreatDoor.P

namespace Go.Proofs.YteaagaekdkolnaaGreatDoor.P
open Go.RowKit Go.Proofs.YteaagaekdkolnaaGreatDoorW.PrintWords Go.Proofs.YteaagaekdkolnaaGreatDoorW.PrintLast Go.Proofs.YteaagaekdkolnaaGreatDoorW.PrintMore
attribute [local go_sem] max2_int min2_int max_two min_two max_three min_three max_four min_four   -- for this text's walks alone
set_option linter.unusedVariables false
set_option linter.unusedSimpArgs false
/-! ### spec_HullOf: function 30 -/
mutual
def spec_HullOf.l0 : Nat → List Int → Int → Int → Int → Int → ByteArray → Option (List Int)
 | 0, _, _, _, _, _, _ => none
 | k + 1, x3, x4, x5, x6, x102000, x102001 => (spec_l6Has.f x5 x6).bind fun t107 => (if t107 = true then (spec_HullOf.l1 k x3 x4 x5 x6 0 x102000 x102001) else (spec_HullOf.l0 k x3 x4 x5 (wrap64 (x6 + 1)) x102000 x102001))
def spec_HullOf.l1 : Nat → List Int → Int → Int → Int → Int → Int → ByteArray → Option (List Int)
 | 0, _, _, _, _, _, _, _ => none
 | k + 1, x3, x4, x5, x6, x7, x102000, x102001 => if x7 < x102000 then (if x3.length < 17592186044416 then (spec_HullOf.l2 k (x3 ++ [x6]) x4 x5 x6 x7 (-1) 0 x102000 x102001) else (none)) else (some x3)
def spec_HullOf.l2 : Nat → List Int → Int → Int → Int → Int → Int → Int → Int → ByteArray → Option (List Int)
 | 0, _, _, _, _, _, _, _, _, _ => none
 | k + 1, x3, x4, x5, x6, x7, x8, x9, x102000, x102001 => if x9 < x102000 then (if x9 = x6 then (spec_HullOf.l2 k x3 x4 x5 x6 x7 x8 (wrap64 (x9 + 1)) x102000 x102001) else ((spec_l6Has.f x5 x9).bind fun t112 => (if t112 = true then ((spec_l6Left.f k x102000 x102001 x4 x6 x9).bind fun t113 => (if t113 = true then (spec_HullOf.l2 k x3 x4 x5 x6 x7 x9 (wrap64 (x9 + 1)) x102000 x102001) else (spec_HullOf.l2 k x3 x4 x5 x6 x7 x8 (wrap64 (x9 + 1)) x102000 x102001))) else (spec_HullOf.l2 k x3 x4 x5 x6 x7 x8 (wrap64 (x9 + 1)) x102000 x102001)))) else (if 0 < (x3.length : Int) then (if x8 = (rd x3 0) then (some x3) else (if x8 < 0 then (some x3) else (spec_HullOf.l1 k x3 x4 x5 x8 (wrap64 (x7 + 1)) x102000 x102001))) else (none))
end
def spec_HullOf.f (k : Nat) (a0_0 : Int) (a0_1 : ByteArray) : Option (List Int) := (some (([] : List Int) : List Int)).bind fun y102 => ((spec_IsAcyclic.f k a0_0 a0_1).bind fun t105 => (if t105 = true then (if 0 ≤ (IntKind.u64.wrap (a0_0)) then ((spec_l6Extreme.f k a0_0 a0_1 (wrap64 ((shl .i64 1 (IntKind.u64.wrap (a0_0))) - 1))).bind fun t106 => (spec_HullOf.l0 k y102 (wrap64 ((shl .i64 1 (IntKind.u64.wrap (a0_0))) - 1)) t106 0 a0_0 a0_1)) else (none)) else (some y102)))
set_option maxHeartbeats 8000000 in
set_option maxRecDepth 100000 in
theorem spec_HullOf.calls (k : Nat) (a0_0 : Int) (a0_1 : ByteArray) (r : List Int) (w : World) (h : spec_HullOf.f k a0_0 a0_1 = some r) :
  Calls Tryz.prog 30 #[.agg #[.int .i64 a0_0, .string a0_1]] w fun e w' => ∃ v0_ : Value, e = .returned (v0_) ∧ Kd.R (Kd.int .i64) 3 w' w.heap.size (fun _ => True) v0_ r ∧ Below w.heap.size w w' := by
 have hu45 := Tryz.underlying45
 have HB := aM_ (Below.refl w.heap.size w)
 have H : ((some (([] : List Int) : List Int)).bind fun y102 => ((spec_IsAcyclic.f k a0_0 a0_1).bind fun t105 => (if t105 = true then (if 0 ≤ (IntKind.u64.wrap (a0_0)) then ((spec_l6Extreme.f k a0_0 a0_1 (wrap64 ((shl .i64 1 (IntKind.u64.wrap (a0_0))) - 1))).bind fun t106 => (spec_HullOf.l0 k y102 (wrap64 ((shl .i64 1 (IntKind.u64.wrap (a0_0))) - 1)) t106 0 a0_0 a0_1)) else (none)) else (some y102)))) = some r := h
 clear h
 obtain ⟨y102, hy102⟩ : ∃ y_ : List Int, y_ = (([] : List Int)) := ⟨_, rfl⟩
 replace H : ((spec_IsAcyclic.f k a0_0 a0_1).bind fun t105 => (if t105 = true then (if 0 ≤ (IntKind.u64.wrap (a0_0)) then ((spec_l6Extreme.f k a0_0 a0_1 (wrap64 ((shl .i64 1 (IntKind.u64.wrap (a0_0))) - 1))).bind fun t106 => (spec_HullOf.l0 k y102 (wrap64 ((shl .i64 1 (IntKind.u64.wrap (a0_0))) - 1)) t106 0 a0_0 a0_1)) else (none)) else (some y102))) = some r := by first | (rw [hy102]; with_reducible exact H) | (have H2_ := (Option.bind_some _ _).symm.trans H; rw [hy102]; with_reducible exact H2_) | (have H2_ := (Option.bind_some _ _).symm.trans H; with_reducible exact H2_) | with_reducible exact H | (rw [hy102]; exact H) | exact H
 have Ny102 := aM_ hy102
 clear hy102
 replace H := oB_ H
 obtain ⟨t105, A20, H⟩ := H
 have A2 := aM_ A20
 clear A20
 by_cases c3 : t105 = true
 ·subst c3
  rw [if_pos rfl] at H
  obtain ⟨ji4, hji4⟩ : ∃ j_ : Int, (IntKind.u64.wrap (a0_0)) = j_ := ⟨_, rfl⟩
  replace H : (if 0 ≤ (ji4) then ((spec_l6Extreme.f k a0_0 a0_1 (wrap64 ((shl .i64 1 (ji4)) - 1))).bind fun t106 => (spec_HullOf.l0 k y102 (wrap64 ((shl .i64 1 (ji4)) - 1)) t106 0 a0_0 a0_1)) else (none)) = some r := by first | (rw [hji4] at H; exact H) | (simp only [hji4] at H ⊢; exact H)
  (try rw [hji4] at A2)
  obtain ⟨c5, H⟩ := ifp_ H
  have c5b0 := eq_true c5
  have c5b1 := decide_eq_true c5
  clear c5
  obtain ⟨ji6, hji6⟩ : ∃ j_ : Int, (shl .i64 1 (ji4)) = j_ := ⟨_, rfl⟩
  replace H : ((spec_l6Extreme.f k a0_0 a0_1 (wrap64 ((ji6) - 1))).bind fun t106 => (spec_HullOf.l0 k y102 (wrap64 ((ji6) - 1)) t106 0 a0_0 a0_1)) = some r := by first | (rw [hji6] at H; exact H) | (simp only [hji6] at H ⊢; exact H)
  (try rw [hji6] at A2)
  have hji6_ : (IntKind.i64.wrap (1 * 2 ^ min (ji4).toNat 64)) = ji6 := hji6
  have hji6z : (ji4) ≤ 64 → (IntKind.i64.wrap (1 * 2 ^ (ji4).toNat)) = ji6 := shl_small hji6
  have hji6u : (IntKind.i64.wrap (2 ^ min (ji4).toNat 64)) = ji6 := by have h_ := hji6_; rw [Int.one_mul] at h_; exact h_
  have hji6v : (ji4) ≤ 64 → (IntKind.i64.wrap (2 ^ (ji4).toNat)) = ji6 := fun hle_ => by have h_ := hji6z hle_; rw [Int.one_mul] at h_; exact h_
  have hji6y : (wrap64 (1 * 2 ^ min (ji4).toNat 64)) = ji6 := (i64_w _).symm.trans hji6_
  have hji6x : (ji4) ≤ 64 → (wrap64 (1 * 2 ^ (ji4).toNat)) = ji6 := fun h_ => (i64_w _).symm.trans (hji6z h_)
  replace H := oB_ H
  obtain ⟨t106, A70, H⟩ := H
  have A7 := aM_ A70
  clear A70
  have H' := aM_ H
  clear H
  go_enter Tryz.func30, Tryz.ntmps30
  go_wp2_with (first | ((with_reducible refine gate_dst (N := 1) rfl ?_); refine boxE_ (N := 1) #[.int .i64 a0_0, .string a0_1] 45 ?_; intro gb101 hg w8 hbox hb; have BK101 := aM_ (hbox); have GW101 := aM_ ((bs_ HB hg)); have GE101 := aM_ ((bs_ HB hg)); replace HB := aM_ (below_step (bB_ HB) hb); clear hb hbox hg) | ((with_reducible refine gate_dst (N := 10) rfl ?_); refine Kd.R_lit (Kd.int .i64) _ 3 ?hg (N := 10) ?hd (xs := ([] : List Int)) (inner := []) (ok := fun _ => True) (okp := fun _ => True) ?hr ?hp (fun _ hk => hk) trivial (Below.refl _ _) (Nat.le_refl _) (by simp) ?_; (case hd => rfl); (case hg => rfl); (case hr => first | (go_simp; done) | (go_simp; rfl)); (case hp => exact (Reps.none _ _)); intro v103 w9 ho10 hb hg_ hnew_; clear hg_ hnew_; (first | rw [← Ny102.out] at ho10 | (simp only [Int.reduceToNat] at ho10; rw [← Ny102.out] at ho10)); have HO104 := aM_ (Kd.R_lower ho10 (below_size (bB_ HB))); replace BK101 := aM_ (bkb_ BK101 hb); replace HB := aM_ (below_step (bB_ HB) hb); clear hb ho10; have hcz11_0 := bc_ BK101 0; have hcz11_1 := bc_ BK101 1; have hfz11_0 := blk_frozen BK101.out 0; have hfz11_1 := blk_frozen BK101.out 1) | ((with_reducible refine gate_callee (f := 47) rfl ?_); refine goesM_ (some 12) Tryz.func47 #[.agg #[.int .i64 a0_0, .string a0_1]] ?_; (with_reducible refine (spec_IsAcyclic.calls k a0_0 a0_1 true _ A2.out).mono ?_); rintro e w12 ⟨rfl, hb⟩; refine ⟨_, rfl, ?_⟩; replace HO104 := aM_ (Kd.R_below (kr_ HO104) hb); replace BK101 := aM_ (bkb_ BK101 hb); replace HB := aM_ (below_step (bB_ HB) hb); (try clear hb); (try clear hk); have hcz13_0 := bc_ BK101 0; have hcz13_1 := bc_ BK101 1; have hfz13_0 := blk_frozen BK101.out 0; have hfz13_1 := blk_frozen BK101.out 1) | ((with_reducible refine gate_callee (f := 48) rfl ?_); refine goesL_ (some 22) rfl rfl Tryz.func48 (by kernel_rfl) rfl #[.agg #[.int .i64 a0_0, .string a0_1], .int .i64 (wrap64 ((ji6) - 1))] rfl (by (try simp only [List.map_toArray, List.map_cons, List.map_nil]); first | done | (simp only [hji6]; rfl) | rfl | (simp only [List.length_drop, List.length_take]; rfl)) ?_; (with_reducible refine (spec_l6Extreme.calls k a0_0 a0_1 (wrap64 ((ji6) - 1)) t106 _ A7.out).mono ?_); rintro e w14 ⟨rfl, hb⟩; refine ⟨_, rfl, ?_⟩; replace HO104 := aM_ (Kd.R_below (kr_ HO104) hb); replace BK101 := aM_ (bkb_ BK101 hb); replace HB := aM_ (below_step (bB_ HB) hb); (try clear hb); (try clear hk)))
  go_loopg [6] k (fun kq v6 w' => ∃ (x6_1 : Int), v6 = .int .i64 x6_1 ∧ Aside0 (spec_HullOf.l0 kq y102 (wrap64 ((ji6) - 1)) t106 x6_1 a0_0 a0_1 = some r) ∧ Aside0 (kq ≤ k) ∧ Aside0 (Kd.R (Kd.int .i64) 3 w' w.heap.size (fun _ => True) v103 y102) ∧ Aside0 (w'.heap[gb101]? = some (.cells #[.int .i64 a0_0, .string a0_1] 45 (0, 0))) ∧ Aside0 (Below w.heap.size w w'))
  case atStart => exact ⟨(0), veq_, H', ⟨Nat.le_refl _⟩, ⟨kr_ HO104⟩, ⟨bk_ BK101⟩, ⟨bB_ HB⟩⟩
  case round =>
   clear H'
   try clear c3
   try clear c5
   try clear c5b0
   try clear c5b1
   try clear hcz11_0
   try clear hcz11_1
   try clear hcz13_0
   try clear hcz13_1
   try clear hfz11_0
   try clear hfz11_1
   try clear hfz13_0
   try clear hfz13_1
   obtain ⟨x6_1, rfl, HA, HK1, HO_3, BK101, HB⟩ := hrel
   cases gk with
   | zero => exact absurd HA.out (by simp [spec_HullOf.l0])
   | succ k1 =>
    have H := HA.out
    clear HA
    simp only [spec_HullOf.l0] at H
    replace H := oB_ H
    obtain ⟨t107, A150, H⟩ := H
    have A15 := aM_ A150
    clear A150
    by_cases c16 : t107 = true
    ·subst c16
     rw [if_pos rfl] at H
     have H' := aM_ H
     clear H
     go_wp2_with (first | ((with_reducible refine gate_callee (f := 49) rfl ?_); refine goesM_ (some 25) Tryz.func49 #[.int .i64 t106, .int .i64 x6_1] ?_; (with_reducible refine (spec_l6Has.calls t106 x6_1 true _ A15.out).mono ?_); rintro e w' ⟨rfl, ⟨nd, rfl⟩⟩; refine ⟨_, rfl, ?_⟩))
     go_loopg [3, 6, 7] k1 (fun kq v3 v6 v7 w' => ∃ (x3_2 : List Int) (x6_2 : Int) (x7_2 : Int), v6 = .int .i64 x6_2 ∧ v7 = .int .i64 x7_2 ∧ Aside0 (spec_HullOf.l1 kq x3_2 (wrap64 ((ji6) - 1)) t106 x6_2 x7_2 a0_0 a0_1 = some r) ∧ Aside0 (kq ≤ k1) ∧ Aside0 (Kd.R (Kd.int .i64) 3 w' w.heap.size (fun _ => True) v3 x3_2) ∧ Aside0 (w'.heap[gb101]? = some (.cells #[.int .i64 a0_0, .string a0_1] 45 (0, 0))) ∧ Aside0 (Below w.heap.size w w'))
     case atStart => exact ⟨(y102), (x6_1), (0), veq_, veq_, H', ⟨Nat.le_refl _⟩, ⟨kr_ HO_3⟩, ⟨bk_ BK101⟩, ⟨bB_ HB⟩⟩
     case round =>
      clear H'
      try clear c3
      try clear c5
      try clear c5b0
      try clear c5b1
      try clear c16
      try clear hcz11_0
      try clear hcz11_1
      try clear hcz13_0
      try clear hcz13_1
      try clear hfz11_0
      try clear hfz11_1
      try clear hfz13_0
      try clear hfz13_1
      obtain ⟨x3_2, x6_2, x7_2, rfl, rfl, HA, HK2, HO_3, BK101, HB⟩ := hrel
      cases gk with
      | zero => exact absurd HA.out (by simp [spec_HullOf.l1])
      | succ k2 =>
       have H := HA.out
       clear HA
       simp only [spec_HullOf.l1] at H
       rcases ifd_ H with ⟨c17b0, H⟩ | ⟨c17b0, H⟩
       ·obtain ⟨c18, H⟩ := ifp_ H
        have LMc18 := aM_ c18
        clear c18
        obtain ⟨y108, hy108⟩ : ∃ y_ : List Int, y_ = (x3_2 ++ [x6_2]) := ⟨_, rfl⟩
        replace H : (spec_HullOf.l2 k2 y108 (wrap64 ((ji6) - 1)) t106 x6_2 x7_2 (-1) 0 a0_0 a0_1) = some r := by first | (rw [hy108]; with_reducible exact H) | (have H2_ := (Option.bind_some _ _).symm.trans H; rw [hy108]; with_reducible exact H2_) | (have H2_ := (Option.bind_some _ _).symm.trans H; with_reducible exact H2_) | with_reducible exact H | (rw [hy108]; exact H) | exact H
        have Ny108 := aM_ hy108
        clear hy108
        have H' := aM_ H
        clear H
        have hcz19_0 := bc_ BK101 0
        have hcz19_1 := bc_ BK101 1
        have hfz19_0 := blk_frozen BK101.out 0
        have hfz19_1 := blk_frozen BK101.out 1
        go_wp2_with (first | ((with_reducible refine gate_builtin (b := .append) (xs := #[.tmp 35, .tmp 37]) rfl ?_); at_builtin; refine Kd.R_append (Kd.int .i64) (w0 := w) w.heap.size rfl (.tmp 35) (.tmp 37) 48 3 (.int .i64 0) 8 rfl Tryz.underlying48 info3 rfl (by decide) (by omega) u3 x3_2 x6_2 [.int .i64 x6_2] (fun _ => True) (fun _ => False) rfl rfl ?aP (fun _ hk => hk.elim) ?aF ?aO ?aB ?aS ?aL ?_; (case aP => exact rfl); (case aB => exact (bB_ HB)); (case aF => exact (fun _ _ => trivial)); (case aO => exact (kr_ HO_3)); (case aS => exact (below_size (bB_ HB))); (case aL => have := LMc18.out; omega); intro v109 w20 ho hb hg hat; rw [← Ny108.out] at ho; replace BK101 := aM_ (blk_grown (g := gb101) (o := .cells #[.int .i64 a0_0, .string a0_1] 45 (0, 0)) (bk_ BK101) hg (Kd.R_ne HO_3.out BK101.out (by decide))); replace HB := aM_ (hb); have HO110 := aM_ (ho); clear HO_3; clear ho hb hg hat))
        go_loopg [8, 9] k2 (fun kq v8 v9 w' => ∃ (x8_3 : Int) (x9_3 : Int), v8 = .int .i64 x8_3 ∧ v9 = .int .i64 x9_3 ∧ Aside0 (spec_HullOf.l2 kq y108 (wrap64 ((ji6) - 1)) t106 x6_2 x7_2 x8_3 x9_3 a0_0 a0_1 = some r) ∧ Aside0 (kq ≤ k2) ∧ Aside0 (Kd.R (Kd.int .i64) 3 w' w.heap.size (fun _ => True) v109 y108) ∧ Aside0 (w'.heap[gb101]? = some (.cells #[.int .i64 a0_0, .string a0_1] 45 (0, 0))) ∧ Aside0 (Below w.heap.size w w'))
        case atStart => exact ⟨((-1)), (0), veq_, veq_, H', ⟨Nat.le_refl _⟩, ⟨kr_ HO110⟩, ⟨bk_ BK101⟩, ⟨bB_ HB⟩⟩
        case round =>
         clear H'
         try clear c3
         try clear c5
         try clear c5b0
         try clear c5b1
         try clear c16
         try clear c17b0
         try clear c18
         try clear hcz11_0
         try clear hcz11_1
         try clear hcz13_0
         try clear hcz13_1
         try clear hcz19_0
         try clear hcz19_1
         try clear hfz11_0
         try clear hfz11_1
         try clear hfz13_0
         try clear hfz13_1
         try clear hfz19_0
         try clear hfz19_1
         obtain ⟨x8_3, x9_3, rfl, rfl, HA, HK3, HO_3, BK101, HB⟩ := hrel
         cases gk with
         | zero => exact absurd HA.out (by simp [spec_HullOf.l2])
         | succ k3 =>
          have H := HA.out
          clear HA
          simp only [spec_HullOf.l2] at H
          rcases ifd_ H with ⟨c21b0, H⟩ | ⟨c21b0, H⟩
          ·rcases ifc_ H with ⟨c22, H⟩ | ⟨c22, H⟩
           ·have c22b0 : (x9_3 == x6_2) = true := beq_iff_eq.mpr c22
            have c22b1 : (x9_3 != x6_2) = false := bne_eq_false_iff_eq.mpr c22
            clear c22
            have H' := aM_ H
            clear H
            have hcz23_0 := bc_ BK101 0
            have hcz23_1 := bc_ BK101 1
            have hfz23_0 := blk_frozen BK101.out 0
            have hfz23_1 := blk_frozen BK101.out 1
            go_wp2
            go_roundg k3
            case measure => have := HK1.out; have := HK2.out; have := HK3.out; omega
            case rel => exact ⟨(x8_3), (wrap64 (x9_3 + 1)), veq_, veq_, H', ⟨by have := HK1.out; have := HK2.out; have := HK3.out; omega⟩, ⟨kr_ HO_3⟩, ⟨bk_ BK101⟩, ⟨bB_ HB⟩⟩
           ·have c22b0 : (x9_3 == x6_2) = false := beq_eq_false_iff_ne.mpr c22
            have c22b1 : (x9_3 != x6_2) = true := bne_iff_ne.mpr c22
            replace H := oB_ H
            obtain ⟨t112, A240, H⟩ := H
            have A24 := aM_ A240
            clear A240
            by_cases c25 : t112 = true
            ·subst c25
             rw [if_pos rfl] at H
             replace H := oB_ H
             obtain ⟨t113, A260, H⟩ := H
             have A26 := aM_ A260
             clear A260
             by_cases c27 : t113 = true
             ·subst c27
              rw [if_pos rfl] at H
              have H' := aM_ H
              clear H
              have hcz28_0 := bc_ BK101 0
              have hcz28_1 := bc_ BK101 1
              have hfz28_0 := blk_frozen BK101.out 0
              have hfz28_1 := blk_frozen BK101.out 1
              go_wp2_with (first | (go_at_call 49; (with_reducible refine (spec_l6Has.calls t106 x9_3 true _ A24.out).mono ?_); rintro e w' ⟨rfl, ⟨nd, rfl⟩⟩) | (go_at_call 50; (with_reducible refine (spec_l6Left.calls k3 a0_0 a0_1 (wrap64 ((ji6) - 1)) x6_2 x9_3 true _ A26.out).mono ?_); rintro e w29 ⟨rfl, hb⟩; replace HO_3 := aM_ (Kd.R_below (kr_ HO_3) hb); replace BK101 := aM_ (bkb_ BK101 hb); replace HB := aM_ (below_step (bB_ HB) hb); (try clear hb); (try clear hk)))
              go_roundg k3
              case measure => have := HK1.out; have := HK2.out; have := HK3.out; omega
              case rel => exact ⟨(x9_3), (wrap64 (x9_3 + 1)), veq_, veq_, H', ⟨by have := HK1.out; have := HK2.out; have := HK3.out; omega⟩, ⟨kr_ HO_3⟩, ⟨bk_ BK101⟩, ⟨bB_ HB⟩⟩
             ·replace c27 := Bool.eq_false_iff.mpr c27
              subst c27
              rw [if_neg (show ¬ (false = true) by decide)] at H
              have H' := aM_ H
              clear H
              have hcz30_0 := bc_ BK101 0
              have hcz30_1 := bc_ BK101 1
              have hfz30_0 := blk_frozen BK101.out 0
              have hfz30_1 := blk_frozen BK101.out 1
              go_wp2_with (first | (go_at_call 49; (with_reducible refine (spec_l6Has.calls t106 x9_3 true _ A24.out).mono ?_); rintro e w' ⟨rfl, ⟨nd, rfl⟩⟩) | (go_at_call 50; (with_reducible refine (spec_l6Left.calls k3 a0_0 a0_1 (wrap64 ((ji6) - 1)) x6_2 x9_3 false _ A26.out).mono ?_); rintro e w31 ⟨rfl, hb⟩; replace HO_3 := aM_ (Kd.R_below (kr_ HO_3) hb); replace BK101 := aM_ (bkb_ BK101 hb); replace HB := aM_ (below_step (bB_ HB) hb); (try clear hb); (try clear hk)))
              go_roundg k3
              case measure => have := HK1.out; have := HK2.out; have := HK3.out; omega
              case rel => exact ⟨(x8_3), (wrap64 (x9_3 + 1)), veq_, veq_, H', ⟨by have := HK1.out; have := HK2.out; have := HK3.out; omega⟩, ⟨kr_ HO_3⟩, ⟨bk_ BK101⟩, ⟨bB_ HB⟩⟩
            ·replace c25 := Bool.eq_false_iff.mpr c25
             subst c25
             rw [if_neg (show ¬ (false = true) by decide)] at H
             have H' := aM_ H
             clear H
             have hcz32_0 := bc_ BK101 0
             have hcz32_1 := bc_ BK101 1
             have hfz32_0 := blk_frozen BK101.out 0
             have hfz32_1 := blk_frozen BK101.out 1
             go_wp2_with (first | (go_at_call 49; (with_reducible refine (spec_l6Has.calls t106 x9_3 false _ A24.out).mono ?_); rintro e w' ⟨rfl, ⟨nd, rfl⟩⟩))
             go_roundg k3
             case measure => have := HK1.out; have := HK2.out; have := HK3.out; omega
             case rel => exact ⟨(x8_3), (wrap64 (x9_3 + 1)), veq_, veq_, H', ⟨by have := HK1.out; have := HK2.out; have := HK3.out; omega⟩, ⟨kr_ HO_3⟩, ⟨bk_ BK101⟩, ⟨bB_ HB⟩⟩
          ·obtain ⟨c33, H⟩ := ifp_ H
           have c33b0 := decide_eq_true c33
           have c33b1 : decide (0 < y108.length) = true := decide_eq_true (by omega)
           clear c33
           rcases ifc_ H with ⟨c34, H⟩ | ⟨c34, H⟩
           ·have c34b0 : (x8_3 == (rd y108 0)) = true := beq_iff_eq.mpr c34
            have c34b1 : (x8_3 != (rd y108 0)) = false := bne_eq_false_iff_eq.mpr c34
            clear c34
            obtain rfl := Option.some.inj H
            have hcz35_0 := bc_ BK101 0
            have hcz35_1 := bc_ BK101 1
            have hfz35_0 := blk_frozen BK101.out 0
            have hfz35_1 := blk_frozen BK101.out 1
            obtain ⟨Ao36, co36, eo36⟩ := Kd.R_slice HO_3.out
            subst eo36
            have p111 : 0 ≤ (0 : Int) := (by omega)
            have q111 : 0 < (y108.length : Int) := ode_
            obtain ⟨ad111, e111, hx111_0⟩ := Kd.at_int (Kd.R_reads' HO_3.out).2.2 0 p111 q111
            cases e111
            have qi111 : (0 < y108.length) = True := eq_true (by omega)
            (try rw [show ((0 : Int)).toNat = 0 from rfl] at hx111_0)
            (try rw [Addr.add_zero'] at hx111_0)
            replace p111 := eq_true p111
            replace q111 := eq_true q111
            go_wp2
            go_ret
            exact ⟨_, by first | rfl | (simp [errW_none, errW_some] <;> rfl) | (simp only [← hji4, ← hji6]; first | rfl | (simp [errW_none, errW_some] <;> rfl)) | (simp [*, errW_none, errW_some] <;> rfl), kr_ HO_3, bB_ HB⟩
           ·have c34b0 : (x8_3 == (rd y108 0)) = false := beq_eq_false_iff_ne.mpr c34
            have c34b1 : (x8_3 != (rd y108 0)) = true := bne_iff_ne.mpr c34
            rcases ifd_ H with ⟨c37b0, H⟩ | ⟨c37b0, H⟩
            ·obtain rfl := Option.some.inj H
             have hcz38_0 := bc_ BK101 0
             have hcz38_1 := bc_ BK101 1
             have hfz38_0 := blk_frozen BK101.out 0
             have hfz38_1 := blk_frozen BK101.out 1
             obtain ⟨Ao39, co39, eo39⟩ := Kd.R_slice HO_3.out
             subst eo39
             have p111 : 0 ≤ (0 : Int) := (by omega)
             have q111 : 0 < (y108.length : Int) := ode_
             obtain ⟨ad111, e111, hx111_0⟩ := Kd.at_int (Kd.R_reads' HO_3.out).2.2 0 p111 q111
             cases e111
             have qi111 : (0 < y108.length) = True := eq_true (by omega)
             (try rw [show ((0 : Int)).toNat = 0 from rfl] at hx111_0)
             (try rw [Addr.add_zero'] at hx111_0)
             replace p111 := eq_true p111
             replace q111 := eq_true q111
             go_wp2
             go_ret
             exact ⟨_, by first | rfl | (simp [errW_none, errW_some] <;> rfl) | (simp only [← hji4, ← hji6]; first | rfl | (simp [errW_none, errW_some] <;> rfl)) | (simp [*, errW_none, errW_some] <;> rfl), kr_ HO_3, bB_ HB⟩
            ·have H' := aM_ H
             clear H
             have hcz40_0 := bc_ BK101 0
             have hcz40_1 := bc_ BK101 1
             have hfz40_0 := blk_frozen BK101.out 0
             have hfz40_1 := blk_frozen BK101.out 1
             obtain ⟨Ao41, co41, eo41⟩ := Kd.R_slice HO_3.out
             subst eo41
             have p111 : 0 ≤ (0 : Int) := (by omega)
             have q111 : 0 < (y108.length : Int) := ode_
             obtain ⟨ad111, e111, hx111_0⟩ := Kd.at_int (Kd.R_reads' HO_3.out).2.2 0 p111 q111
             cases e111
             have qi111 : (0 < y108.length) = True := eq_true (by omega)
             (try rw [show ((0 : Int)).toNat = 0 from rfl] at hx111_0)
             (try rw [Addr.add_zero'] at hx111_0)
             replace p111 := eq_true p111
             replace q111 := eq_true q111
             go_wp2
             go_roundg k3
             case measure => have := HK1.out; have := HK2.out; have := HK3.out; omega
             case rel => exact ⟨(y108), (x8_3), (wrap64 (x7_2 + 1)), veq_, veq_, H', ⟨by have := HK1.out; have := HK2.out; have := HK3.out; omega⟩, ⟨kr_ HO_3⟩, ⟨bk_ BK101⟩, ⟨bB_ HB⟩⟩
       ·obtain rfl := Option.some.inj H
        have hcz42_0 := bc_ BK101 0
        have hcz42_1 := bc_ BK101 1
        have hfz42_0 := blk_frozen BK101.out 0
        have hfz42_1 := blk_frozen BK101.out 1
        go_wp2
        go_ret
        exact ⟨_, by first | rfl | (simp [errW_none, errW_some] <;> rfl) | (simp only [← hji4, ← hji6]; first | rfl | (simp [errW_none, errW_some] <;> rfl)) | (simp [*, errW_none, errW_some] <;> rfl), kr_ HO_3, bB_ HB⟩
    ·replace c16 := Bool.eq_false_iff.mpr c16
     subst c16
     rw [if_neg (show ¬ (false = true) by decide)] at H
     have H' := aM_ H
     clear H
     go_wp2_with (first | ((with_reducible refine gate_callee (f := 49) rfl ?_); refine goesM_ (some 25) Tryz.func49 #[.int .i64 t106, .int .i64 x6_1] ?_; (with_reducible refine (spec_l6Has.calls t106 x6_1 false _ A15.out).mono ?_); rintro e w' ⟨rfl, ⟨nd, rfl⟩⟩; refine ⟨_, rfl, ?_⟩))
     go_roundg k1
     case measure => have := HK1.out; omega
     case rel => exact ⟨(wrap64 (x6_1 + 1)), veq_, H', ⟨by have := HK1.out; omega⟩, ⟨kr_ HO_3⟩, ⟨bk_ BK101⟩, ⟨bB_ HB⟩⟩
 ·replace c3 := Bool.eq_false_iff.mpr c3
  subst c3
  rw [if_neg (show ¬ (false = true) by decide)] at H
  obtain rfl := Option.some.inj H
  go_enter Tryz.func30, Tryz.ntmps30
  go_wp2_with (first | ((with_reducible refine gate_dst (N := 1) rfl ?_); refine boxE_ (N := 1) #[.int .i64 a0_0, .string a0_1] 45 ?_; intro gb101 hg w43 hbox hb; have BK101 := aM_ (hbox); have GW101 := aM_ ((bs_ HB hg)); have GE101 := aM_ ((bs_ HB hg)); replace HB := aM_ (below_step (bB_ HB) hb); clear hb hbox hg) | ((with_reducible refine gate_dst (N := 10) rfl ?_); refine Kd.R_lit (Kd.int .i64) _ 3 ?hg (N := 10) ?hd (xs := ([] : List Int)) (inner := []) (ok := fun _ => True) (okp := fun _ => True) ?hr ?hp (fun _ hk => hk) trivial (Below.refl _ _) (Nat.le_refl _) (by simp) ?_; (case hd => rfl); (case hg => rfl); (case hr => first | (go_simp; done) | (go_simp; rfl)); (case hp => exact (Reps.none _ _)); intro v103 w44 ho45 hb hg_ hnew_; clear hg_ hnew_; (first | rw [← Ny102.out] at ho45 | (simp only [Int.reduceToNat] at ho45; rw [← Ny102.out] at ho45)); have HO104 := aM_ (Kd.R_lower ho45 (below_size (bB_ HB))); replace BK101 := aM_ (bkb_ BK101 hb); replace HB := aM_ (below_step (bB_ HB) hb); clear hb ho45; have hcz46_0 := bc_ BK101 0; have hcz46_1 := bc_ BK101 1; have hfz46_0 := blk_frozen BK101.out 0; have hfz46_1 := blk_frozen BK101.out 1) | ((with_reducible refine gate_callee (f := 47) rfl ?_); refine goesM_ (some 12) Tryz.func47 #[.agg #[.int .i64 a0_0, .string a0_1]] ?_; (with_reducible refine (spec_IsAcyclic.calls k a0_0 a0_1 false _ A2.out).mono ?_); rintro e w47 ⟨rfl, hb⟩; refine ⟨_, rfl, ?_⟩; replace HO104 := aM_ (Kd.R_below (kr_ HO104) hb); replace BK101 := aM_ (bkb_ BK101 hb); replace HB := aM_ (below_step (bB_ HB) hb); (try clear hb); (try clear hk)))
  go_ret
  exact ⟨_, verr_, kr_ HO104, bB_ HB⟩
end Go.Proofs.YteaagaekdkolnaaGreatDoor.P

namespace Go.Proofs.YteaagaekdkolnaaGreatDoor.P
open Go.RowKit Go.Proofs.YteaagaekdkolnaaGreatDoorW.PrintWords Go.Proofs.YteaagaekdkolnaaGreatDoorW.PrintLast Go.Proofs.YteaagaekdkolnaaGreatDoorW.PrintMore
attribute [local go_sem] max2_int min2_int max_two min_two max_three min_three max_four min_four   -- for this text's walks alone
set_option linter.unusedVariables false
set_option linter.unusedSimpArgs false
/-! ### spec_HullArea: function 11 -/
def spec_HullArea.l0 : Nat → List (S34) → List Int → Int → Int → Option (Int)
 | 0, _, _, _, _ => none
 | k + 1, x0, x5, x6, x7 => if x7 < (x5.length : Int) then (if 0 ≤ x7 then (if 0 ≤ (rd x5 x7) then (if (rd x5 x7) < (x0.length : Int) then (if (x5.length : Int) = 0 then (none) else (if 0 ≤ (Int.tmod (wrap64 (x7 + 1)) (x5.length : Int)) then (if (Int.tmod (wrap64 (x7 + 1)) (x5.length : Int)) < (x5.length : Int) then (if 0 ≤ (rd x5 (Int.tmod (wrap64 (x7 + 1)) (x5.length : Int))) then (if (rd x5 (Int.tmod (wrap64 (x7 + 1)) (x5.length : Int))) < (x0.length : Int) then (spec_HullArea.l0 k x0 x5 (wrap64 ((wrap64 (x6 + (wrap64 (((rd_T34 x0 (rd x5 x7)).f0) * ((rd_T34 x0 (rd x5 (Int.tmod (wrap64 (x7 + 1)) (x5.length : Int)))).f1))))) - (wrap64 (((rd_T34 x0 (rd x5 x7)).f1) * ((rd_T34 x0 (rd x5 (Int.tmod (wrap64 (x7 + 1)) (x5.length : Int)))).f0))))) (wrap64 (x7 + 1))) else (none)) else (none)) else (none)) else (none))) else (none)) else (none)) else (none)) else (some x6)
def spec_HullArea.f (k : Nat) (l0 : List (S34)) : Option (Int) := (spec_SignsOf.f k l0).bind fun bt101 => (if bt101.2.2 = true then ((spec_HullOf.f k bt101.1 bt101.2.1).bind fun t105 => (spec_HullArea.l0 k l0 t105 0 0)) else (some (-1)))
set_option maxHeartbeats 8000000 in
set_option maxRecDepth 100000 in
theorem spec_HullArea.calls (k : Nat) (A0 : Option Addr) (c0 : Nat) (l0 : List (S34)) (r : Int) (w : World) (hr0 : Kd.C k34 w A0 l0.length l0) (hc0 : l0.length ≤ c0) (h : spec_HullArea.f k l0 = some r) :
  Calls Tryz.prog 11 #[.slice A0 l0.length c0] w fun e w' => e = .returned (.int .i64 r) ∧ Below w.heap.size w w' := by
 have hu45 := Tryz.underlying45
 have hu34 := Tryz.underlying34
 have HR0 := aM_ hr0
 have HC0 := aM_ hc0
 clear hr0 hc0
 have HB := aM_ (Below.refl w.heap.size w)
 have H : ((spec_SignsOf.f k l0).bind fun bt101 => (if bt101.2.2 = true then ((spec_HullOf.f k bt101.1 bt101.2.1).bind fun t105 => (spec_HullArea.l0 k l0 t105 0 0)) else (some (-1)))) = some r := h
 clear h
 replace H := oB_ H
 obtain ⟨⟨t101, t102, t103⟩, A20, H⟩ := H
 replace H : (if t103 = true then ((spec_HullOf.f k t101 t102).bind fun t105 => (spec_HullArea.l0 k l0 t105 0 0)) else (some (-1))) = some r := H
 have A2 := aM_ A20
 clear A20
 by_cases c3 : t103 = true
 ·subst c3
  rw [if_pos rfl] at H
  replace H := oB_ H
  obtain ⟨t105, A40, H⟩ := H
  have A4 := aM_ A40
  clear A40
  have H' := aM_ H
  clear H
  go_enter Tryz.func11, Tryz.ntmps11
  go_wp2_with (first | ((with_reducible refine gate_callee (f := 29) rfl ?_); refine goesM_ (some 12) Tryz.func29 #[.slice A0 l0.length c0] ?_; (with_reducible refine (spec_SignsOf.calls k _ _ l0 t101 t102 true _ ?side1 ?side2 A2.out).mono ?_); (case side1 => repeat (first | exact HR0.out | (with_reducible refine Kd.C_alloc ?_ _) | (with_reducible refine Kd.C_drewN ?_ _) | (with_reducible refine Kd.C_drew ?_))); (case side2 => exact HC0.out); rintro e w5 ⟨rfl, hb⟩; refine ⟨_, rfl, ?_⟩; replace HB := aM_ (below_step (bB_ HB) hb); (try clear hb); (try clear hk)) | ((with_reducible refine gate_dst (N := 3) rfl ?_); refine boxE_ (N := 3) #[.int .i64 0, .string (⟨#[]⟩ : ByteArray)] 45 ?_; intro gb104 hg w6 hbox hb; have BK104 := aM_ (hbox); have GW104 := aM_ ((bs_ HB hg)); have GE104 := aM_ ((bs_ HB hg)); replace HB := aM_ (below_step (bB_ HB) hb); clear hb hbox hg; have hcz7_0 := bc_ BK104 0; have hcz7_1 := bc_ BK104 1; have hfz7_0 := blk_frozen BK104.out 0; have hfz7_1 := blk_frozen BK104.out 1) | ((with_reducible refine gate_callee (f := 30) rfl ?_); refine goesM_ (some 18) Tryz.func30 #[.agg #[.int .i64 t101, .string t102]] ?_; (with_reducible refine (spec_HullOf.calls k t101 t102 t105 _ A4.out).mono ?_); rintro e w8 ⟨v106, rfl, ho0, hb⟩; refine ⟨_, rfl, ?_⟩; have HO107 := aM_ (Kd.R_lower ho0 (below_size (bB_ HB))); replace BK104 := aM_ (blk_below (g := gb104) (o := .cells #[.int .i64 t101, .string t102] 45 (0, 0)) (by (with_reducible repeat (first | refine blk_drewN ?_ _ | refine blk_drew ?_ | refine blk_alloc ?_ _)); refine blk_put (cs := #[.int .i64 t101, .string (⟨#[]⟩ : ByteArray)]) ?_ 1 _ rfl; (with_reducible repeat (first | refine blk_drewN ?_ _ | refine blk_drew ?_ | refine blk_alloc ?_ _)); refine blk_put (cs := #[.int .i64 0, .string (⟨#[]⟩ : ByteArray)]) ?_ 0 _ rfl; (with_reducible repeat (first | refine blk_drewN ?_ _ | refine blk_drew ?_ | refine blk_alloc ?_ _)); exact BK104.out) hb); replace HB := aM_ (below_step (bB_ HB) hb); (try clear hb); (try clear hk); (try clear ho0)))
  go_loopg [6, 7] k (fun kq v6 v7 w' => ∃ (x6_1 : Int) (x7_1 : Int), v6 = .int .i64 x6_1 ∧ v7 = .int .i64 x7_1 ∧ Aside0 (spec_HullArea.l0 kq l0 t105 x6_1 x7_1 = some r) ∧ Aside0 (kq ≤ k) ∧ Aside0 (Kd.R (Kd.int .i64) 3 w' w.heap.size (fun _ => True) v106 t105) ∧ Aside0 (w'.heap[gb104]? = some (.cells #[.int .i64 t101, .string t102] 45 (0, 0))) ∧ Aside0 (Below w.heap.size w w'))
  case atStart => exact ⟨(0), (0), veq_, veq_, H', ⟨Nat.le_refl _⟩, ⟨kr_ HO107⟩, ⟨bk_ BK104⟩, ⟨bB_ HB⟩⟩
  case round =>
   clear H'
   try clear c3
   try clear hcz7_0
   try clear hcz7_1
   try clear hfz7_0
   try clear hfz7_1
   obtain ⟨x6_1, x7_1, rfl, rfl, HA, HK1, HO_5, BK104, HB⟩ := hrel
   cases gk with
   | zero => exact absurd HA.out (by simp [spec_HullArea.l0])
   | succ k1 =>
    have H := HA.out
    clear HA
    simp only [spec_HullArea.l0] at H
    rcases ifd_ H with ⟨c9b0, H⟩ | ⟨c9b0, H⟩
    ·obtain ⟨c10b0, H⟩ := ifn_ H
     obtain ⟨c11b0, H⟩ := ifn_ H
     obtain ⟨c12b0, H⟩ := ifn_ H
     obtain ⟨c13, H⟩ := ifm_ H
     have c13b0 : ((t105.length : Int) == 0) = false := beq_eq_false_iff_ne.mpr c13
     have c13b1 : ((t105.length : Int) != 0) = true := bne_iff_ne.mpr c13
     have c13b2 : ¬ (t105 = []) := fun h_ => c13 (by rw [h_]; rfl)
     obtain ⟨ji14, hji14⟩ : ∃ j_ : Int, (Int.tmod (wrap64 (x7_1 + 1)) (t105.length : Int)) = j_ := ⟨_, rfl⟩
     replace H : (if 0 ≤ (ji14) then (if (ji14) < (t105.length : Int) then (if 0 ≤ (rd t105 (ji14)) then (if (rd t105 (ji14)) < (l0.length : Int) then (spec_HullArea.l0 k1 l0 t105 (wrap64 ((wrap64 (x6_1 + (wrap64 (((rd_T34 l0 (rd t105 x7_1)).f0) * ((rd_T34 l0 (rd t105 (ji14))).f1))))) - (wrap64 (((rd_T34 l0 (rd t105 x7_1)).f1) * ((rd_T34 l0 (rd t105 (ji14))).f0))))) (wrap64 (x7_1 + 1))) else (none)) else (none)) else (none)) else (none)) = some r := by first | (rw [hji14] at H; exact H) | (simp only [hji14] at H ⊢; exact H)
     obtain ⟨c15b0, H⟩ := ifn_ H
     obtain ⟨c16b0, H⟩ := ifn_ H
     obtain ⟨c17b0, H⟩ := ifn_ H
     obtain ⟨c18b0, H⟩ := ifn_ H
     have H' := aM_ H
     clear H
     obtain ⟨Ao19, co19, eo19⟩ := Kd.R_slice HO_5.out
     subst eo19
     obtain ⟨p108, q108, ad108, e108, hx108_0⟩ := atW_ (Kd.at_int (Kd.R_reads' HO_5.out).2.2 x7_1)
     cases e108
     have p109 : 0 ≤ ((rd t105 x7_1) : Int) := ode_
     have q109 : (rd t105 x7_1) < (l0.length : Int) := ode_
     obtain ⟨ad109, e109, hx109_0, hx109_1⟩ := at_T34 HR0.out (rd t105 x7_1) p109 q109
     cases e109
     replace hx109_0 := hbc_ HB hx109_0
     replace hx109_1 := hbc_ HB hx109_1
     replace p109 := eq_true p109
     replace q109 := eq_true q109
     go_wp2_with (first | ((with_reducible refine gate_dst (N := 8) rfl ?_); refine boxE_ (N := 8) #[.int .i64 0, .int .i64 0] 34 ?_; intro gb110 hg w20 hbox hb; replace HO_5 := aM_ (Kd.R_below (kr_ HO_5) hb); have BK110 := aM_ (hbox); have GW110 := aM_ ((bs_ HB hg)); have GE110 := aM_ ((bs_ HB hg)); replace HB := aM_ (below_step (bB_ HB) hb); have NB104_110 := aM_ ((bnl_ BK104 hg)); have NB110_104 := aM_ ((bng_ BK104 hg)); replace BK104 := aM_ (bkb_ BK104 hb); clear hb hbox hg; have hnb21 := NB110_104.out; have hnc21 := NB104_110.out; have hcz22_0 := bc_ BK110 0; have hcz22_1 := bc_ BK110 1; have hfz22_0 := blk_frozen BK110.out 0; have hfz22_1 := blk_frozen BK110.out 1; have p111 : 0 ≤ ((ji14) : Int) := ode_; have q111 : (ji14) < (t105.length : Int) := ode_; obtain ⟨ad111, e111, hx111_0⟩ := Kd.at_int (Kd.R_reads' HO_5.out).2.2 (ji14) p111 q111; obtain rfl : ad108 = ad111 := (by injection e111); have hn111_0 : ad108.block ≠ gb110 := Kd.own_blk (Kd.R_ne HO_5.out BK110.out (by decide)); have hn111_1 : ad108.block ≠ gb110 := Kd.own_blk (Kd.R_ne HO_5.out BK110.out (by decide)); replace hx111_0 := (cell_far (p := ⟨gb110, 0, none⟩) (by first | (rw [add_block]; exact hn111_0) | (show (Addr.add _ _).block ≠ _; rw [add_block]; exact hn111_0) | exact hn111_0) (.int .i64 ((rd_T34 l0 (rd t105 x7_1)).f0))).trans hx111_0; replace hx111_0 := (cell_far (p := ⟨gb110, 1, none⟩) (by first | (rw [add_block]; exact hn111_1) | (show (Addr.add _ _).block ≠ _; rw [add_block]; exact hn111_1) | exact hn111_1) (.int .i64 ((rd_T34 l0 (rd t105 x7_1)).f1))).trans hx111_0; clear hn111_0; clear hn111_1; replace p111 := eq_true p111; replace q111 := eq_true q111; have p112 : 0 ≤ ((rd t105 (ji14)) : Int) := ode_; have q112 : (rd t105 (ji14)) < (l0.length : Int) := ode_; obtain ⟨ad112, e112, hx112_0, hx112_1⟩ := at_T34 HR0.out (rd t105 (ji14)) p112 q112; obtain rfl : ad109 = ad112 := (by injection e112); have hn112_0 : ad109.block ≠ gb110 := Nat.ne_of_lt (Nat.lt_of_lt_of_le (by have := World.block_lt_of_cell? _ _ hx112_0; first | rwa [add_block] at this | exact this) GW110.out); have hn112_1 : ad109.block ≠ gb110 := Nat.ne_of_lt (Nat.lt_of_lt_of_le (by have := World.block_lt_of_cell? _ _ hx112_0; first | rwa [add_block] at this | exact this) GW110.out); replace hx112_0 := (HB.out.cell (World.block_lt_of_cell? w _ hx112_0)).trans hx112_0; replace hx112_1 := (HB.out.cell (World.block_lt_of_cell? w _ hx112_1)).trans hx112_1; replace hx112_0 := (cell_far (p := ⟨gb110, 0, none⟩) (by first | (rw [add_block]; exact hn112_0) | (show (Addr.add _ _).block ≠ _; rw [add_block]; exact hn112_0) | exact hn112_0) (.int .i64 ((rd_T34 l0 (rd t105 x7_1)).f0))).trans hx112_0; replace hx112_1 := (cell_far (p := ⟨gb110, 0, none⟩) (by first | (rw [add_block]; exact hn112_0) | (show (Addr.add _ _).block ≠ _; rw [add_block]; exact hn112_0) | exact hn112_0) (.int .i64 ((rd_T34 l0 (rd t105 x7_1)).f0))).trans hx112_1; replace hx112_0 := (cell_far (p := ⟨gb110, 1, none⟩) (by first | (rw [add_block]; exact hn112_1) | (show (Addr.add _ _).block ≠ _; rw [add_block]; exact hn112_1) | exact hn112_1) (.int .i64 ((rd_T34 l0 (rd t105 x7_1)).f1))).trans hx112_0; replace hx112_1 := (cell_far (p := ⟨gb110, 1, none⟩) (by first | (rw [add_block]; exact hn112_1) | (show (Addr.add _ _).block ≠ _; rw [add_block]; exact hn112_1) | exact hn112_1) (.int .i64 ((rd_T34 l0 (rd t105 x7_1)).f1))).trans hx112_1; clear hn112_0; clear hn112_1; replace p112 := eq_true p112; replace q112 := eq_true q112) | ((with_reducible refine gate_dst (N := 9) rfl ?_); refine boxE_ (N := 9) #[.int .i64 0, .int .i64 0] 34 ?_; intro gb113 hg w23 hbox hb; replace HO_5 := aM_ (Kd.R_below (by (with_reducible repeat (first | apply kA_ | apply kN_ | apply kD_)); exact (Kd.R_mono (Kd.R_far (p := ⟨gb110, 1, none⟩) (Kd.R_far (p := ⟨gb110, 0, none⟩) (Kd.R_types HO_5.out BK110.out (by decide)) (fun _ hk => hk.2) (.int .i64 ((rd_T34 l0 (rd t105 x7_1)).f0))) (fun _ hk => hk.2) (.int .i64 ((rd_T34 l0 (rd t105 x7_1)).f1))) (fun _ h_ => h_.1))) hb); have BK113 := aM_ (hbox); have GW113 := aM_ ((bs_ HB hg)); have GE113 := aM_ ((bs_ HB hg)); replace HB := aM_ (below_step (bB_ HB) hb); have NB104_113 := aM_ ((by rw [hg]; exact Nat.ne_of_lt (blk_lt (g := gb104) (o := .cells #[.int .i64 t101, .string t102] 45 (0, 0)) (by (with_reducible repeat (first | refine blk_drewN ?_ _ | refine blk_drew ?_ | refine blk_alloc ?_ _)); refine blk_far ?_ NB104_110.out _; (with_reducible repeat (first | refine blk_drewN ?_ _ | refine blk_drew ?_ | refine blk_alloc ?_ _)); refine blk_far ?_ NB104_110.out _; (with_reducible repeat (first | refine blk_drewN ?_ _ | refine blk_drew ?_ | refine blk_alloc ?_ _)); exact BK104.out)) : gb104 ≠ gb113)); have NB113_104 := aM_ ((by rw [hg]; exact Nat.ne_of_gt (blk_lt (g := gb104) (o := .cells #[.int .i64 t101, .string t102] 45 (0, 0)) (by (with_reducible repeat (first | refine blk_drewN ?_ _ | refine blk_drew ?_ | refine blk_alloc ?_ _)); refine blk_far ?_ NB104_110.out _; (with_reducible repeat (first | refine blk_drewN ?_ _ | refine blk_drew ?_ | refine blk_alloc ?_ _)); refine blk_far ?_ NB104_110.out _; (with_reducible repeat (first | refine blk_drewN ?_ _ | refine blk_drew ?_ | refine blk_alloc ?_ _)); exact BK104.out)) : gb113 ≠ gb104)); replace BK104 := aM_ (blk_below (g := gb104) (o := .cells #[.int .i64 t101, .string t102] 45 (0, 0)) (by (with_reducible repeat (first | refine blk_drewN ?_ _ | refine blk_drew ?_ | refine blk_alloc ?_ _)); refine blk_far ?_ NB104_110.out _; (with_reducible repeat (first | refine blk_drewN ?_ _ | refine blk_drew ?_ | refine blk_alloc ?_ _)); refine blk_far ?_ NB104_110.out _; (with_reducible repeat (first | refine blk_drewN ?_ _ | refine blk_drew ?_ | refine blk_alloc ?_ _)); exact BK104.out) hb); have NB110_113 := aM_ ((by rw [hg]; exact Nat.ne_of_lt (blk_lt (g := gb110) (o := .cells #[.int .i64 ((rd_T34 l0 (rd t105 x7_1)).f0), .int .i64 ((rd_T34 l0 (rd t105 x7_1)).f1)] 34 (0, 0)) (by (with_reducible repeat (first | refine blk_drewN ?_ _ | refine blk_drew ?_ | refine blk_alloc ?_ _)); refine blk_put (cs := #[.int .i64 ((rd_T34 l0 (rd t105 x7_1)).f0), .int .i64 0]) ?_ 1 _ rfl; (with_reducible repeat (first | refine blk_drewN ?_ _ | refine blk_drew ?_ | refine blk_alloc ?_ _)); refine blk_put (cs := #[.int .i64 0, .int .i64 0]) ?_ 0 _ rfl; (with_reducible repeat (first | refine blk_drewN ?_ _ | refine blk_drew ?_ | refine blk_alloc ?_ _)); exact BK110.out)) : gb110 ≠ gb113)); have NB113_110 := aM_ ((by rw [hg]; exact Nat.ne_of_gt (blk_lt (g := gb110) (o := .cells #[.int .i64 ((rd_T34 l0 (rd t105 x7_1)).f0), .int .i64 ((rd_T34 l0 (rd t105 x7_1)).f1)] 34 (0, 0)) (by (with_reducible repeat (first | refine blk_drewN ?_ _ | refine blk_drew ?_ | refine blk_alloc ?_ _)); refine blk_put (cs := #[.int .i64 ((rd_T34 l0 (rd t105 x7_1)).f0), .int .i64 0]) ?_ 1 _ rfl; (with_reducible repeat (first | refine blk_drewN ?_ _ | refine blk_drew ?_ | refine blk_alloc ?_ _)); refine blk_put (cs := #[.int .i64 0, .int .i64 0]) ?_ 0 _ rfl; (with_reducible repeat (first | refine blk_drewN ?_ _ | refine blk_drew ?_ | refine blk_alloc ?_ _)); exact BK110.out)) : gb113 ≠ gb110)); replace BK110 := aM_ (blk_below (g := gb110) (o := .cells #[.int .i64 ((rd_T34 l0 (rd t105 x7_1)).f0), .int .i64 ((rd_T34 l0 (rd t105 x7_1)).f1)] 34 (0, 0)) (by (with_reducible repeat (first | refine blk_drewN ?_ _ | refine blk_drew ?_ | refine blk_alloc ?_ _)); refine blk_put (cs := #[.int .i64 ((rd_T34 l0 (rd t105 x7_1)).f0), .int .i64 0]) ?_ 1 _ rfl; (with_reducible repeat (first | refine blk_drewN ?_ _ | refine blk_drew ?_ | refine blk_alloc ?_ _)); refine blk_put (cs := #[.int .i64 0, .int .i64 0]) ?_ 0 _ rfl; (with_reducible repeat (first | refine blk_drewN ?_ _ | refine blk_drew ?_ | refine blk_alloc ?_ _)); exact BK110.out) hb); clear hb hbox hg; have hnb24 := NB113_104.out; have hnc24 := NB104_113.out; have hnb25 := NB113_110.out; have hnc25 := NB110_113.out; have hcz26_0 := bc_ BK113 0; have hcz26_1 := bc_ BK113 1; have hfz26_0 := blk_frozen BK113.out 0; have hfz26_1 := blk_frozen BK113.out 1; have hcz27_0 := bc_ BK110 0; have hcz27_1 := bc_ BK110 1; have hfz27_0 := blk_frozen BK110.out 0; have hfz27_1 := blk_frozen BK110.out 1))
     go_roundg k1
     case measure => have := HK1.out; omega
     case rel => exact ⟨(wrap64 ((wrap64 (x6_1 + (wrap64 (((rd_T34 l0 (rd t105 x7_1)).f0) * ((rd_T34 l0 (rd t105 (ji14))).f1))))) - (wrap64 (((rd_T34 l0 (rd t105 x7_1)).f1) * ((rd_T34 l0 (rd t105 (ji14))).f0))))), (wrap64 (x7_1 + 1)), (by first | rfl | (simp; done) | (simp only [← hji14] <;> (first | rfl | simp)) | (simp [*]; done)), veq_, H', ⟨by have := HK1.out; omega⟩, ⟨by (with_reducible repeat (first | apply kA_ | apply kN_ | apply kD_)); exact Kd.R_mono (Kd.R_far (p := ⟨gb113, 1, none⟩) (Kd.R_far (p := ⟨gb113, 0, none⟩) (Kd.R_types HO_5.out BK113.out (by decide)) (fun _ hk => hk.2) (.int .i64 ((rd_T34 l0 (rd t105 (ji14))).f0))) (fun _ hk => hk.2) (.int .i64 ((rd_T34 l0 (rd t105 (ji14))).f1))) (fun _ hk => trivial)⟩, ⟨by (with_reducible repeat (first | refine blk_drewN ?_ _ | refine blk_drew ?_ | refine blk_alloc ?_ _)); refine blk_far ?_ NB104_113.out _; (with_reducible repeat (first | refine blk_drewN ?_ _ | refine blk_drew ?_ | refine blk_alloc ?_ _)); refine blk_far ?_ NB104_113.out _; (with_reducible repeat (first | refine blk_drewN ?_ _ | refine blk_drew ?_ | refine blk_alloc ?_ _)); exact BK104.out⟩, ⟨bB_ HB⟩⟩
    ·obtain rfl := Option.some.inj H
     obtain ⟨Ao28, co28, eo28⟩ := Kd.R_slice HO_5.out
     subst eo28
     go_wp2
     go_ret
     exact ⟨verr_, bB_ HB⟩
 ·replace c3 := Bool.eq_false_iff.mpr c3
  subst c3
  rw [if_neg (show ¬ (false = true) by decide)] at H
  obtain rfl := Option.some.inj H
  go_enter Tryz.func11, Tryz.ntmps11
  go_wp2_with (first | ((with_reducible refine gate_callee (f := 29) rfl ?_); refine goesM_ (some 12) Tryz.func29 #[.slice A0 l0.length c0] ?_; (with_reducible refine (spec_SignsOf.calls k _ _ l0 t101 t102 false _ ?side1 ?side2 A2.out).mono ?_); (case side1 => repeat (first | exact HR0.out | (with_reducible refine Kd.C_alloc ?_ _) | (with_reducible refine Kd.C_drewN ?_ _) | (with_reducible refine Kd.C_drew ?_))); (case side2 => exact HC0.out); rintro e w29 ⟨rfl, hb⟩; refine ⟨_, rfl, ?_⟩; replace HB := aM_ (below_step (bB_ HB) hb); (try clear hb); (try clear hk)) | ((with_reducible refine gate_dst (N := 3) rfl ?_); refine boxE_ (N := 3) #[.int .i64 0, .string (⟨#[]⟩ : ByteArray)] 45 ?_; intro gb104 hg w30 hbox hb; have BK104 := aM_ (hbox); have GW104 := aM_ ((bs_ HB hg)); have GE104 := aM_ ((bs_ HB hg)); replace HB := aM_ (below_step (bB_ HB) hb); clear hb hbox hg; have hcz31_0 := bc_ BK104 0; have hcz31_1 := bc_ BK104 1; have hfz31_0 := blk_frozen BK104.out 0; have hfz31_1 := blk_frozen BK104.out 1))
  go_ret
  exact ⟨verr_, bB_ HB⟩
end Go.Proofs.YteaagaekdkolnaaGreatDoor.P

namespace Go.Proofs.YteaagaekdkolnaaGreatDoor.P
open Go.RowKit Go.Proofs.YteaagaekdkolnaaGreatDoorW.PrintWords Go.Proofs.YteaagaekdkolnaaGreatDoorW.PrintLast Go.Proofs.YteaagaekdkolnaaGreatDoorW.PrintMore
attribute [local go_sem] max2_int min2_int max_two min_two max_three min_three max_four min_four   -- for this text's walks alone
set_option linter.unusedVariables false
set_option linter.unusedSimpArgs false
/-! ### spec_l28Hull: function 31 -/
def spec_l28Hull.l0 : Nat → List (S34) → List (S34) → List Int → Int → Option ((List (S34)))
 | 0, _, _, _, _ => none
 | k + 1, x0, x3, x6, x7 => if x7 < (x6.length : Int) then (if 0 ≤ x7 then (if 0 ≤ (rd x6 x7) then (if (rd x6 x7) < (x0.length : Int) then (if x3.length < 8796093022208 then (spec_l28Hull.l0 k x0 (x3 ++ [(⟨(rd_T34 x0 (rd x6 x7)).f0, (rd_T34 x0 (rd x6 x7)).f1⟩ : S34)]) x6 (wrap64 (x7 + 1))) else (none)) else (none)) else (none)) else (none)) else (some x3)
def spec_l28Hull.f (k : Nat) (l0 : List (S34)) : Option ((List (S34))) := (spec_SignsOf.f k l0).bind fun bt104 => ((spec_HullOf.f k bt104.1 bt104.2.1).bind fun t108 => (spec_l28Hull.l0 k l0 (([] : List (S34))) t108 0))
set_option maxHeartbeats 8000000 in
set_option maxRecDepth 100000 in
theorem spec_l28Hull.calls (k : Nat) (A0 : Option Addr) (c0 : Nat) (l0 : List (S34)) (r : List (S34)) (w : World) (hr0 : Kd.C k34 w A0 l0.length l0) (hc0 : l0.length ≤ c0) (h : spec_l28Hull.f k l0 = some r) :
  Calls Tryz.prog 31 #[.slice A0 l0.length c0] w fun e w' => ∃ v0_ : Value, e = .returned (v0_) ∧ Kd.R k34 34 w' w.heap.size (fun _ => True) v0_ r ∧ Below w.heap.size w w' := by
 have hu45 := Tryz.underlying45
 have hu34 := Tryz.underlying34
 have HR0 := aM_ hr0
 have HC0 := aM_ hc0
 clear hr0 hc0
 have HB := aM_ (Below.refl w.heap.size w)
 have H : ((spec_SignsOf.f k l0).bind fun bt104 => ((spec_HullOf.f k bt104.1 bt104.2.1).bind fun t108 => (spec_l28Hull.l0 k l0 (([] : List (S34))) t108 0))) = some r := h
 clear h
 obtain ⟨y101, hy101⟩ : ∃ y_ : List (S34), y_ = (([] : List (S34))) := ⟨_, rfl⟩
 replace H : ((spec_SignsOf.f k l0).bind fun bt104 => ((spec_HullOf.f k bt104.1 bt104.2.1).bind fun t108 => (spec_l28Hull.l0 k l0 y101 t108 0))) = some r := by first | (rw [hy101]; with_reducible exact H) | (have H2_ := (Option.bind_some _ _).symm.trans H; rw [hy101]; with_reducible exact H2_) | (have H2_ := (Option.bind_some _ _).symm.trans H; with_reducible exact H2_) | with_reducible exact H | (rw [hy101]; exact H) | exact H
 have Ny101 := aM_ hy101
 clear hy101
 replace H := oB_ H
 obtain ⟨⟨t104, t105, t106⟩, A20, H⟩ := H
 replace H : ((spec_HullOf.f k t104 t105).bind fun t108 => (spec_l28Hull.l0 k l0 y101 t108 0)) = some r := H
 have A2 := aM_ A20
 clear A20
 replace H := oB_ H
 obtain ⟨t108, A30, H⟩ := H
 have A3 := aM_ A30
 clear A30
 have H' := aM_ H
 clear H
 go_enter Tryz.func31, Tryz.ntmps31
 go_wp2_with (first | ((with_reducible refine gate_dst (N := 8) rfl ?_); refine Kd.R_lit k34 _ 34 ?hg (N := 8) ?hd (xs := ([] : List (S34))) (inner := []) (ok := fun _ => True) (okp := fun _ => True) ?hr ?hp (fun _ hk => hk) trivial (Below.refl _ _) (Nat.le_refl _) (by simp) ?_; (case hd => rfl); (case hg => rfl); (case hr => first | (go_simp; done) | (go_simp; rfl)); (case hp => exact (Reps.none _ _)); intro v102 w4 ho5 hb hg_ hnew_; clear hg_ hnew_; (first | rw [← Ny101.out] at ho5 | (simp only [Int.reduceToNat] at ho5; rw [← Ny101.out] at ho5)); have HO103 := aM_ (Kd.R_lower ho5 (below_size (bB_ HB))); replace HB := aM_ (below_step (bB_ HB) hb); clear hb ho5) | ((with_reducible refine gate_callee (f := 29) rfl ?_); refine goesM_ (some 11) Tryz.func29 #[.slice A0 l0.length c0] ?_; (with_reducible refine (spec_SignsOf.calls k _ _ l0 t104 t105 t106 _ ?side1 ?side2 A2.out).mono ?_); (case side1 => repeat (first | exact (Kd.C_below HR0.out HB.out) | (with_reducible refine Kd.C_alloc ?_ _) | (with_reducible refine Kd.C_drewN ?_ _) | (with_reducible refine Kd.C_drew ?_))); (case side2 => exact HC0.out); rintro e w6 ⟨rfl, hb⟩; refine ⟨_, rfl, ?_⟩; replace HO103 := aM_ (Kd.R_below (kr_ HO103) hb); replace HB := aM_ (below_step (bB_ HB) hb); (try clear hb); (try clear hk)) | ((with_reducible refine gate_dst (N := 4) rfl ?_); refine boxE_ (N := 4) #[.int .i64 0, .string (⟨#[]⟩ : ByteArray)] 45 ?_; intro gb107 hg w7 hbox hb; replace HO103 := aM_ (Kd.R_below (kr_ HO103) hb); have BK107 := aM_ (hbox); have GW107 := aM_ ((bs_ HB hg)); have GE107 := aM_ ((bs_ HB hg)); replace HB := aM_ (below_step (bB_ HB) hb); clear hb hbox hg; have hcz8_0 := bc_ BK107 0; have hcz8_1 := bc_ BK107 1; have hfz8_0 := blk_frozen BK107.out 0; have hfz8_1 := blk_frozen BK107.out 1) | ((with_reducible refine gate_callee (f := 30) rfl ?_); refine goesM_ (some 15) Tryz.func30 #[.agg #[.int .i64 t104, .string t105]] ?_; (with_reducible refine (spec_HullOf.calls k t104 t105 t108 _ A3.out).mono ?_); rintro e w9 ⟨v109, rfl, ho0, hb⟩; refine ⟨_, rfl, ?_⟩; replace HO103 := aM_ (Kd.R_below (by (with_reducible repeat (first | apply kA_ | apply kN_ | apply kD_)); exact (Kd.R_mono (Kd.R_far (p := ⟨gb107, 1, none⟩) (Kd.R_far (p := ⟨gb107, 0, none⟩) (Kd.R_types HO103.out BK107.out (by decide)) (fun _ hk => hk.2) (.int .i64 t104)) (fun _ hk => hk.2) (.string t105)) (fun _ h_ => h_.1))) hb); have HO110 := aM_ (Kd.R_lower ho0 (below_size (bB_ HB))); replace BK107 := aM_ (blk_below (g := gb107) (o := .cells #[.int .i64 t104, .string t105] 45 (0, 0)) (by (with_reducible repeat (first | refine blk_drewN ?_ _ | refine blk_drew ?_ | refine blk_alloc ?_ _)); refine blk_put (cs := #[.int .i64 t104, .string (⟨#[]⟩ : ByteArray)]) ?_ 1 _ rfl; (with_reducible repeat (first | refine blk_drewN ?_ _ | refine blk_drew ?_ | refine blk_alloc ?_ _)); refine blk_put (cs := #[.int .i64 0, .string (⟨#[]⟩ : ByteArray)]) ?_ 0 _ rfl; (with_reducible repeat (first | refine blk_drewN ?_ _ | refine blk_drew ?_ | refine blk_alloc ?_ _)); exact BK107.out) hb); replace HB := aM_ (below_step (bB_ HB) hb); (try clear hb); (try clear hk); (try clear ho0)))
 go_loopg [3, 7] k (fun kq v3 v7 w' => ∃ (x3_1 : List (S34)) (x7_1 : Int), v7 = .int .i64 x7_1 ∧ Aside0 (spec_l28Hull.l0 kq l0 x3_1 t108 x7_1 = some r) ∧ Aside0 (kq ≤ k) ∧ Aside0 (Kd.R k34 34 w' w.heap.size (fun _ => True) v3 x3_1) ∧ Aside0 (Kd.R (Kd.int .i64) 3 w' w.heap.size (fun _ => True) v109 t108) ∧ Aside0 (w'.heap[gb107]? = some (.cells #[.int .i64 t104, .string t105] 45 (0, 0))) ∧ Aside0 (Below w.heap.size w w'))
 case atStart => exact ⟨(y101), (0), veq_, H', ⟨Nat.le_refl _⟩, ⟨kr_ HO103⟩, ⟨kr_ HO110⟩, ⟨bk_ BK107⟩, ⟨bB_ HB⟩⟩
 case round =>
  clear H'
  try clear hcz8_0
  try clear hcz8_1
  try clear hfz8_0
  try clear hfz8_1
  obtain ⟨x3_1, x7_1, rfl, HA, HK1, HO_3, HO_6, BK107, HB⟩ := hrel
  cases gk with
  | zero => exact absurd HA.out (by simp [spec_l28Hull.l0])
  | succ k1 =>
   have H := HA.out
   clear HA
   simp only [spec_l28Hull.l0] at H
   rcases ifd_ H with ⟨c10b0, H⟩ | ⟨c10b0, H⟩
   ·obtain ⟨c11b0, H⟩ := ifn_ H
    obtain ⟨c12b0, H⟩ := ifn_ H
    obtain ⟨c13b0, H⟩ := ifn_ H
    obtain ⟨c14, H⟩ := ifp_ H
    have LMc14 := aM_ c14
    clear c14
    obtain ⟨y113, hy113⟩ : ∃ y_ : List (S34), y_ = (x3_1 ++ [(⟨(rd_T34 l0 (rd t108 x7_1)).f0, (rd_T34 l0 (rd t108 x7_1)).f1⟩ : S34)]) := ⟨_, rfl⟩
    replace H : (spec_l28Hull.l0 k1 l0 y113 t108 (wrap64 (x7_1 + 1))) = some r := by first | (rw [hy113]; with_reducible exact H) | (have H2_ := (Option.bind_some _ _).symm.trans H; rw [hy113]; with_reducible exact H2_) | (have H2_ := (Option.bind_some _ _).symm.trans H; with_reducible exact H2_) | with_reducible exact H | (rw [hy113]; exact H) | exact H
    have Ny113 := aM_ hy113
    clear hy113
    have H' := aM_ H
    clear H
    obtain ⟨Ao15, co15, eo15⟩ := Kd.R_slice HO_6.out
    subst eo15
    obtain ⟨p111, q111, ad111, e111, hx111_0⟩ := atW_ (Kd.at_int (Kd.R_reads' HO_6.out).2.2 x7_1)
    cases e111
    have p112 : 0 ≤ ((rd t108 x7_1) : Int) := ode_
    have q112 : (rd t108 x7_1) < (l0.length : Int) := ode_
    obtain ⟨ad112, e112, hx112_0, hx112_1⟩ := at_T34 HR0.out (rd t108 x7_1) p112 q112
    cases e112
    replace hx112_0 := hbc_ HB hx112_0
    replace hx112_1 := hbc_ HB hx112_1
    replace p112 := eq_true p112
    replace q112 := eq_true q112
    go_wp2_with (first | ((with_reducible refine gate_builtin (b := .append) (xs := #[.tmp 22, .tmp 30]) rfl ?_); at_builtin; refine Kd.R_append k34 (w0 := w) w.heap.size rfl (.tmp 22) (.tmp 30) 25 34 (.agg #[(.int .i64 0), (.int .i64 0)]) 16 rfl Tryz.underlying25 info34 rfl (by decide) (by omega) u3 x3_1 (⟨(rd_T34 l0 (rd t108 x7_1)).f0, (rd_T34 l0 (rd t108 x7_1)).f1⟩ : S34) [.int .i64 ((rd_T34 l0 (rd t108 x7_1)).f0), .int .i64 ((rd_T34 l0 (rd t108 x7_1)).f1)] (fun _ => True) (fun _ => False) rfl rfl ?aP (fun _ hk => hk.elim) ?aF ?aO ?aB ?aS ?aL ?_; (case aP => exact k34_mkM _ _ _ (⟨(rd_T34 l0 (rd t108 x7_1)).f0, (rd_T34 l0 (rd t108 x7_1)).f1⟩ : S34)); (case aB => exact (bB_ HB)); (case aF => exact (fun _ _ => trivial)); (case aO => exact (kr_ HO_3)); (case aS => exact (below_size (bB_ HB))); (case aL => have := LMc14.out; omega); intro v114 w16 ho hb hg hat; rw [← Ny113.out] at ho; replace HO_6 := aM_ (Kd.R_over' (kr_ HO_6) (Kd.R_typed (kr_ HO_3)) (by decide) hg); replace BK107 := aM_ (blk_grown (g := gb107) (o := .cells #[.int .i64 t104, .string t105] 45 (0, 0)) (bk_ BK107) hg (Kd.R_ne HO_3.out BK107.out (by decide))); replace HB := aM_ (hb); have HO115 := aM_ (ho); clear HO_3; clear ho hb hg hat))
    go_roundg k1
    case measure => have := HK1.out; omega
    case rel => exact ⟨(y113), (wrap64 (x7_1 + 1)), veq_, H', ⟨by have := HK1.out; omega⟩, ⟨kr_ HO115⟩, ⟨kr_ HO_6⟩, ⟨bk_ BK107⟩, ⟨bB_ HB⟩⟩
   ·obtain rfl := Option.some.inj H
    obtain ⟨Ao17, co17, eo17⟩ := Kd.R_slice HO_6.out
    subst eo17
    go_wp2
    go_ret
    exact ⟨_, verr_, kr_ HO_3, bB_ HB⟩
end Go.Proofs.YteaagaekdkolnaaGreatDoor.P

namespace Go.Proofs.YteaagaekdkolnaaGreatDoor.P
open Go.RowKit Go.Proofs.YteaagaekdkolnaaGreatDoorW.PrintWords Go.Proofs.YteaagaekdkolnaaGreatDoorW.PrintLast Go.Proofs.YteaagaekdkolnaaGreatDoorW.PrintMore
attribute [local go_sem] max2_int min2_int max_two min_two max_three min_three max_four min_four   -- for this text's walks alone
set_option linter.unusedVariables false
set_option linter.unusedSimpArgs false
/-! ### spec_l24Gcd: function 51 -/
def spec_l24Gcd.l0 : Nat → Int → Int → Option (Int)
 | 0, _, _ => none
 | k + 1, x0, x1 => if x1 = 0 then ((spec_l1Max.f x0 (wrap64 (-x0))).bind fun t101 => (some t101)) else (spec_l24Gcd.l0 k x1 (Int.tmod x0 x1))
def spec_l24Gcd.f (k : Nat) (a0 : Int) (a1 : Int) : Option (Int) := spec_l24Gcd.l0 k a0 a1
set_option maxHeartbeats 8000000 in
set_option maxRecDepth 100000 in
theorem spec_l24Gcd.calls (k : Nat) (a0 : Int) (a1 : Int) (r : Int) (w : World) (h : spec_l24Gcd.f k a0 a1 = some r) :
  Calls Tryz.prog 51 #[.int .i64 a0, .int .i64 a1] w fun e w' => e = .returned (.int .i64 r) ∧ Drawn0 w w' := by
 have H : (spec_l24Gcd.l0 k a0 a1) = some r := h
 clear h
 have H' := aM_ H
 clear H
 go_enter Tryz.func51, Tryz.ntmps51
 go_wp2
 go_loopg [0, 1] k (fun kq v0 v1 w' => ∃ (x0_1 : Int) (x1_1 : Int), v0 = .int .i64 x0_1 ∧ v1 = .int .i64 x1_1 ∧ Aside0 (spec_l24Gcd.l0 kq x0_1 x1_1 = some r) ∧ Aside0 (kq ≤ k) ∧ Drawn0 w w')
 case atStart => exact ⟨(a0), (a1), veq_, veq_, H', ⟨Nat.le_refl _⟩, by repeat (first | exact Drawn0.refl _ | apply Drawn0.step)⟩
 case round =>
  clear H'
  obtain ⟨x0_1, x1_1, rfl, rfl, HA, HK1, ⟨m1, rfl⟩⟩ := hrel
  cases gk with
  | zero => exact absurd HA.out (by simp [spec_l24Gcd.l0])
  | succ k1 =>
   have H := HA.out
   clear HA
   simp only [spec_l24Gcd.l0] at H
   rcases ifc_ H with ⟨c3, H⟩ | ⟨c3, H⟩
   ·have c3b0 : (x1_1 == 0) = true := beq_iff_eq.mpr c3
    have c3b1 : (x1_1 != 0) = false := bne_eq_false_iff_eq.mpr c3
    clear c3
    replace H := oB_ H
    obtain ⟨t101, A40, H⟩ := H
    have A4 := aM_ A40
    clear A40
    obtain rfl := Option.some.inj H
    go_wp2_with (first | ((with_reducible refine gate_callee (f := 53) rfl ?_); refine goesM_ (some 16) Tryz.func53 #[.int .i64 x0_1, .int .i64 (wrap64 (-x0_1))] ?_; (with_reducible refine (spec_l1Max.calls x0_1 (wrap64 (-x0_1)) t101 _ A4.out).mono ?_); rintro e w' ⟨rfl, ⟨nd, rfl⟩⟩; refine ⟨_, rfl, ?_⟩))
    go_ret
    exact ⟨veq_, by repeat (first | exact Drawn0.refl _ | apply Drawn0.step)⟩
   ·have c3b0 : (x1_1 == 0) = false := beq_eq_false_iff_ne.mpr c3
    have c3b1 : (x1_1 != 0) = true := bne_iff_ne.mpr c3
    have H' := aM_ H
    clear H
    go_wp2
    go_roundg k1
    case measure => have := HK1.out; omega
    case rel => exact ⟨(x1_1), (Int.tmod x0_1 x1_1), veq_, veq_, H', ⟨by have := HK1.out; omega⟩, by repeat (first | exact Drawn0.refl _ | apply Drawn0.step)⟩
end Go.Proofs.YteaagaekdkolnaaGreatDoor.P

namespace Go.Proofs.YteaagaekdkolnaaGreatDoor.P
open Go.RowKit Go.Proofs.YteaagaekdkolnaaGreatDoorW.PrintWords Go.Proofs.YteaagaekdkolnaaGreatDoorW.PrintLast Go.Proofs.YteaagaekdkolnaaGreatDoorW.PrintMore
attribute [local go_sem] max2_int min2_int max_two min_two max_three min_three max_four min_four   -- for this text's walks alone
set_option linter.unusedVariables false
set_option linter.unusedSimpArgs false
/-! ### spec_OnEdge: function 32 -/
def spec_OnEdge.f (k : Nat) (a0_0 : Int) (a0_1 : Int) (a1_0 : Int) (a1_1 : Int) : Option (Int) := (spec_l2Fits.f a0_0 a0_1 1000).bind fun t103 => (if t103 = true then ((spec_l2Fits.f a1_0 a1_1 1000).bind fun t104 => (if t104 = true then ((spec_l24Gcd.f k (wrap64 (a1_0 - a0_0)) (wrap64 (a1_1 - a0_1))).bind fun t105 => (some t105)) else (some (-1)))) else (some (-1)))
set_option maxHeartbeats 8000000 in
set_option maxRecDepth 100000 in
theorem spec_OnEdge.calls (k : Nat) (a0_0 : Int) (a0_1 : Int) (a1_0 : Int) (a1_1 : Int) (r : Int) (w : World) (h : spec_OnEdge.f k a0_0 a0_1 a1_0 a1_1 = some r) :
  Calls Tryz.prog 32 #[.agg #[.int .i64 a0_0, .int .i64 a0_1], .agg #[.int .i64 a1_0, .int .i64 a1_1]] w fun e w' => e = .returned (.int .i64 r) ∧ Below w.heap.size w w' := by
 have hu34 := Tryz.underlying34
 have HB := aM_ (Below.refl w.heap.size w)
 have H : ((spec_l2Fits.f a0_0 a0_1 1000).bind fun t103 => (if t103 = true then ((spec_l2Fits.f a1_0 a1_1 1000).bind fun t104 => (if t104 = true then ((spec_l24Gcd.f k (wrap64 (a1_0 - a0_0)) (wrap64 (a1_1 - a0_1))).bind fun t105 => (some t105)) else (some (-1)))) else (some (-1)))) = some r := h
 clear h
 replace H := oB_ H
 obtain ⟨t103, A30, H⟩ := H
 have A3 := aM_ A30
 clear A30
 by_cases c4 : t103 = true
 ·subst c4
  rw [if_pos rfl] at H
  replace H := oB_ H
  obtain ⟨t104, A50, H⟩ := H
  have A5 := aM_ A50
  clear A50
  by_cases c6 : t104 = true
  ·subst c6
   rw [if_pos rfl] at H
   replace H := oB_ H
   obtain ⟨t105, A70, H⟩ := H
   have A7 := aM_ A70
   clear A70
   obtain rfl := Option.some.inj H
   go_enter Tryz.func32, Tryz.ntmps32
   go_wp2_with (first | ((with_reducible refine gate_dst (N := 2) rfl ?_); refine boxE_ (N := 2) #[.int .i64 a0_0, .int .i64 a0_1] 34 ?_; intro gb101 hg w8 hbox hb; have BK101 := aM_ (hbox); have GW101 := aM_ ((bs_ HB hg)); have GE101 := aM_ ((bs_ HB hg)); replace HB := aM_ (below_step (bB_ HB) hb); clear hb hbox hg) | ((with_reducible refine gate_dst (N := 3) rfl ?_); refine boxE_ (N := 3) #[.int .i64 a1_0, .int .i64 a1_1] 34 ?_; intro gb102 hg w9 hbox hb; have BK102 := aM_ (hbox); have GW102 := aM_ ((bs_ HB hg)); have GE102 := aM_ ((bs_ HB hg)); replace HB := aM_ (below_step (bB_ HB) hb); have NB101_102 := aM_ ((bnl_ BK101 hg)); have NB102_101 := aM_ ((bng_ BK101 hg)); replace BK101 := aM_ (bkb_ BK101 hb); clear hb hbox hg; have hnb10 := NB101_102.out; have hnc10 := NB102_101.out; have hcz11_0 := bc_ BK101 0; have hcz11_1 := bc_ BK101 1; have hfz11_0 := blk_frozen BK101.out 0; have hfz11_1 := blk_frozen BK101.out 1) | ((with_reducible refine gate_callee (f := 27) rfl ?_); refine goesM_ (some 6) Tryz.func27 #[.agg #[.int .i64 a0_0, .int .i64 a0_1], .int .i64 1000] ?_; (with_reducible refine (spec_l2Fits.calls a0_0 a0_1 1000 true _ A3.out).mono ?_); rintro e w12 ⟨rfl, hb⟩; refine ⟨_, rfl, ?_⟩; replace BK101 := aM_ (bkb_ BK101 hb); replace BK102 := aM_ (bkb_ BK102 hb); replace HB := aM_ (below_step (bB_ HB) hb); (try clear hb); have hcz13_0 := bc_ BK102 0; have hcz13_1 := bc_ BK102 1; have hfz13_0 := blk_frozen BK102.out 0; have hfz13_1 := blk_frozen BK102.out 1) | (go_at_call 27; (with_reducible refine (spec_l2Fits.calls a1_0 a1_1 1000 true _ A5.out).mono ?_); rintro e w14 ⟨rfl, hb⟩; replace BK101 := aM_ (bkb_ BK101 hb); replace BK102 := aM_ (bkb_ BK102 hb); replace HB := aM_ (below_step (bB_ HB) hb); (try clear hb); have hcz15_0 := bc_ BK102 0; have hcz15_1 := bc_ BK102 1; have hfz15_0 := blk_frozen BK102.out 0; have hfz15_1 := blk_frozen BK102.out 1; have hcz16_0 := bc_ BK101 0; have hcz16_1 := bc_ BK101 1; have hfz16_0 := blk_frozen BK101.out 0; have hfz16_1 := blk_frozen BK101.out 1) | ((with_reducible refine gate_callee (f := 51) rfl ?_); refine goesM_ (some 23) Tryz.func51 #[.int .i64 (wrap64 (a1_0 - a0_0)), .int .i64 (wrap64 (a1_1 - a0_1))] ?_; (with_reducible refine (spec_l24Gcd.calls k (wrap64 (a1_0 - a0_0)) (wrap64 (a1_1 - a0_1)) t105 _ A7.out).mono ?_); rintro e w' ⟨rfl, ⟨nd, rfl⟩⟩; refine ⟨_, rfl, ?_⟩))
   go_ret
   exact ⟨verr_, bB_ HB⟩
  ·replace c6 := Bool.eq_false_iff.mpr c6
   subst c6
   rw [if_neg (show ¬ (false = true) by decide)] at H
   obtain rfl := Option.some.inj H
   go_enter Tryz.func32, Tryz.ntmps32
   go_wp2_with (first | ((with_reducible refine gate_dst (N := 2) rfl ?_); refine boxE_ (N := 2) #[.int .i64 a0_0, .int .i64 a0_1] 34 ?_; intro gb101 hg w17 hbox hb; have BK101 := aM_ (hbox); have GW101 := aM_ ((bs_ HB hg)); have GE101 := aM_ ((bs_ HB hg)); replace HB := aM_ (below_step (bB_ HB) hb); clear hb hbox hg) | ((with_reducible refine gate_dst (N := 3) rfl ?_); refine boxE_ (N := 3) #[.int .i64 a1_0, .int .i64 a1_1] 34 ?_; intro gb102 hg w18 hbox hb; have BK102 := aM_ (hbox); have GW102 := aM_ ((bs_ HB hg)); have GE102 := aM_ ((bs_ HB hg)); replace HB := aM_ (below_step (bB_ HB) hb); have NB101_102 := aM_ ((bnl_ BK101 hg)); have NB102_101 := aM_ ((bng_ BK101 hg)); replace BK101 := aM_ (bkb_ BK101 hb); clear hb hbox hg; have hnb19 := NB101_102.out; have hnc19 := NB102_101.out; have hcz20_0 := bc_ BK101 0; have hcz20_1 := bc_ BK101 1; have hfz20_0 := blk_frozen BK101.out 0; have hfz20_1 := blk_frozen BK101.out 1) | ((with_reducible refine gate_callee (f := 27) rfl ?_); refine goesM_ (some 6) Tryz.func27 #[.agg #[.int .i64 a0_0, .int .i64 a0_1], .int .i64 1000] ?_; (with_reducible refine (spec_l2Fits.calls a0_0 a0_1 1000 true _ A3.out).mono ?_); rintro e w21 ⟨rfl, hb⟩; refine ⟨_, rfl, ?_⟩; replace BK101 := aM_ (bkb_ BK101 hb); replace BK102 := aM_ (bkb_ BK102 hb); replace HB := aM_ (below_step (bB_ HB) hb); (try clear hb); have hcz22_0 := bc_ BK102 0; have hcz22_1 := bc_ BK102 1; have hfz22_0 := blk_frozen BK102.out 0; have hfz22_1 := blk_frozen BK102.out 1) | (go_at_call 27; (with_reducible refine (spec_l2Fits.calls a1_0 a1_1 1000 false _ A5.out).mono ?_); rintro e w23 ⟨rfl, hb⟩; replace BK101 := aM_ (bkb_ BK101 hb); replace BK102 := aM_ (bkb_ BK102 hb); replace HB := aM_ (below_step (bB_ HB) hb); (try clear hb)))
   go_ret
   exact ⟨verr_, bB_ HB⟩
 ·replace c4 := Bool.eq_false_iff.mpr c4
  subst c4
  rw [if_neg (show ¬ (false = true) by decide)] at H
  obtain rfl := Option.some.inj H
  go_enter Tryz.func32, Tryz.ntmps32
  go_wp2_with (first | ((with_reducible refine gate_dst (N := 2) rfl ?_); refine boxE_ (N := 2) #[.int .i64 a0_0, .int .i64 a0_1] 34 ?_; intro gb101 hg w24 hbox hb; have BK101 := aM_ (hbox); have GW101 := aM_ ((bs_ HB hg)); have GE101 := aM_ ((bs_ HB hg)); replace HB := aM_ (below_step (bB_ HB) hb); clear hb hbox hg) | ((with_reducible refine gate_dst (N := 3) rfl ?_); refine boxE_ (N := 3) #[.int .i64 a1_0, .int .i64 a1_1] 34 ?_; intro gb102 hg w25 hbox hb; have BK102 := aM_ (hbox); have GW102 := aM_ ((bs_ HB hg)); have GE102 := aM_ ((bs_ HB hg)); replace HB := aM_ (below_step (bB_ HB) hb); have NB101_102 := aM_ ((bnl_ BK101 hg)); have NB102_101 := aM_ ((bng_ BK101 hg)); replace BK101 := aM_ (bkb_ BK101 hb); clear hb hbox hg; have hnb26 := NB101_102.out; have hnc26 := NB102_101.out; have hcz27_0 := bc_ BK101 0; have hcz27_1 := bc_ BK101 1; have hfz27_0 := blk_frozen BK101.out 0; have hfz27_1 := blk_frozen BK101.out 1) | ((with_reducible refine gate_callee (f := 27) rfl ?_); refine goesM_ (some 6) Tryz.func27 #[.agg #[.int .i64 a0_0, .int .i64 a0_1], .int .i64 1000] ?_; (with_reducible refine (spec_l2Fits.calls a0_0 a0_1 1000 false _ A3.out).mono ?_); rintro e w28 ⟨rfl, hb⟩; refine ⟨_, rfl, ?_⟩; replace BK101 := aM_ (bkb_ BK101 hb); replace BK102 := aM_ (bkb_ BK102 hb); replace HB := aM_ (below_step (bB_ HB) hb); (try clear hb)))
  go_ret
  exact ⟨verr_, bB_ HB⟩
end Go.Proofs.YteaagaekdkolnaaGreatDoor.P

namespace Go.Proofs.YteaagaekdkolnaaGreatDoor.P
open Go.RowKit Go.Proofs.YteaagaekdkolnaaGreatDoorW.PrintWords Go.Proofs.YteaagaekdkolnaaGreatDoorW.PrintLast Go.Proofs.YteaagaekdkolnaaGreatDoorW.PrintMore
attribute [local go_sem] max2_int min2_int max_two min_two max_three min_three max_four min_four   -- for this text's walks alone
set_option linter.unusedVariables false
set_option linter.unusedSimpArgs false
/-! ### spec_EdgePoints: function 12 -/
def spec_EdgePoints.l0 : Nat → Int → List (S34) → Int → Option (Int)
 | 0, _, _, _ => none
 | k + 1, x3, x4, x5 => if x5 < (x4.length : Int) then (if 0 ≤ x5 then (if (x4.length : Int) = 0 then (none) else (if 0 ≤ (Int.tmod (wrap64 (x5 + 1)) (x4.length : Int)) then (if (Int.tmod (wrap64 (x5 + 1)) (x4.length : Int)) < (x4.length : Int) then ((spec_OnEdge.f k ((rd_T34 x4 x5).f0) ((rd_T34 x4 x5).f1) ((rd_T34 x4 (Int.tmod (wrap64 (x5 + 1)) (x4.length : Int))).f0) ((rd_T34 x4 (Int.tmod (wrap64 (x5 + 1)) (x4.length : Int))).f1)).bind fun t107 => (spec_EdgePoints.l0 k (wrap64 (x3 + t107)) x4 (wrap64 (x5 + 1)))) else (none)) else (none))) else (none)) else (some x3)
def spec_EdgePoints.f (k : Nat) (l0 : List (S34)) : Option (Int) := (spec_ArePoints.f k l0).bind fun t101 => (if t101 = true then ((spec_l28Hull.f k l0).bind fun t102 => (spec_EdgePoints.l0 k 0 t102 0)) else (some (-1)))
def spec_EdgePoints.T8 : Bool × List (List Nat × List Nat) := (true, [([], []), ([], []), ([], []), ([1, 2], [1, 2]), ([3], [3]), ([], []), ([], []), ([6], [6]), ([], []), ([8], [8]), ([7, 9], [7, 9]), ([5, 10], [5, 10]), ([11], [11]), ([4, 12], [4, 12]), ([0, 13], [0, 13]), ([14, 13, 0, 1, 2, 3, 4, 5, 6, 7, 8, 9, 10, 11, 12, 13, 14], [0, 14])])
def spec_EdgePoints.B8 : List Nat := [0, 0, 0, 6, 14, 0, 0, 64, 0, 256, 960, 2016, 4064, 8190, 16383, 32767]
theorem spec_EdgePoints.tab8 : rtab .any (opsOf Tryz.f12 8) = spec_EdgePoints.T8 := by kernel_rfl
theorem spec_EdgePoints.bits8 : waitsOk spec_EdgePoints.T8.2 spec_EdgePoints.B8 = true := by kernel_rfl
set_option maxHeartbeats 8000000 in
set_option maxRecDepth 100000 in
theorem spec_EdgePoints.calls (k : Nat) (A0 : Option Addr) (c0 : Nat) (l0 : List (S34)) (r : Int) (w : World) (hr0 : Kd.C k34 w A0 l0.length l0) (hc0 : l0.length ≤ c0) (h : spec_EdgePoints.f k l0 = some r) :
  Calls Tryz.prog 12 #[.slice A0 l0.length c0] w fun e w' => e = .returned (.int .i64 r) ∧ Below w.heap.size w w' := by
 have hu34 := Tryz.underlying34
 have HR0 := aM_ hr0
 have HC0 := aM_ hc0
 clear hr0 hc0
 have HB := aM_ (Below.refl w.heap.size w)
 have H : ((spec_ArePoints.f k l0).bind fun t101 => (if t101 = true then ((spec_l28Hull.f k l0).bind fun t102 => (spec_EdgePoints.l0 k 0 t102 0)) else (some (-1)))) = some r := h
 clear h
 replace H := oB_ H
 obtain ⟨t101, A20, H⟩ := H
 have A2 := aM_ A20
 clear A20
 by_cases c3 : t101 = true
 ·subst c3
  rw [if_pos rfl] at H
  replace H := oB_ H
  obtain ⟨t102, A40, H⟩ := H
  have A4 := aM_ A40
  clear A40
  have H' := aM_ H
  clear H
  go_enter Tryz.func12, Tryz.ntmps12
  go_wp2_with (first | ((with_reducible refine gate_callee (f := 9) rfl ?_); refine goesM_ (some 7) Tryz.func9 #[.slice A0 l0.length c0] ?_; (with_reducible refine (spec_ArePoints.calls k _ _ l0 true _ ?side1 ?side2 A2.out).mono ?_); (case side1 => repeat (first | exact HR0.out | (with_reducible refine Kd.C_alloc ?_ _) | (with_reducible refine Kd.C_drewN ?_ _) | (with_reducible refine Kd.C_drew ?_))); (case side2 => exact HC0.out); rintro e w5 ⟨rfl, hb⟩; refine ⟨_, rfl, ?_⟩; replace HB := aM_ (below_step (bB_ HB) hb); (try clear hb)) | ((with_reducible refine gate_callee (f := 31) rfl ?_); refine goesM_ (some 10) Tryz.func31 #[.slice A0 l0.length c0] ?_; (with_reducible refine (spec_l28Hull.calls k _ _ l0 t102 _ ?side1 ?side2 A4.out).mono ?_); (case side1 => repeat (first | exact (Kd.C_below HR0.out HB.out) | (with_reducible refine Kd.C_alloc ?_ _) | (with_reducible refine Kd.C_drewN ?_ _) | (with_reducible refine Kd.C_drew ?_))); (case side2 => exact HC0.out); rintro e w6 ⟨v103, rfl, ho0, hb⟩; refine ⟨_, rfl, ?_⟩; have HO104 := aM_ (Kd.R_lower ho0 (below_size (bB_ HB))); replace HB := aM_ (below_step (bB_ HB) hb); (try clear hb); (try clear ho0)))
  go_loopg [3, 5] k (fun kq v3 v5 w' => ∃ (x3_1 : Int) (x5_1 : Int), v3 = .int .i64 x3_1 ∧ v5 = .int .i64 x5_1 ∧ Aside0 (spec_EdgePoints.l0 kq x3_1 t102 x5_1 = some r) ∧ Aside0 (kq ≤ k) ∧ Aside0 (Kd.R k34 34 w' w.heap.size (fun _ => True) v103 t102) ∧ Aside0 (Below w.heap.size w w'))
  case atStart => exact ⟨(0), (0), veq_, veq_, H', ⟨Nat.le_refl _⟩, ⟨kr_ HO104⟩, ⟨bB_ HB⟩⟩
  case round =>
   clear H'
   try clear c3
   obtain ⟨x3_1, x5_1, rfl, rfl, HA, HK1, HO_4, HB⟩ := hrel
   cases gk with
   | zero => exact absurd HA.out (by simp [spec_EdgePoints.l0])
   | succ k1 =>
    have H := HA.out
    clear HA
    simp only [spec_EdgePoints.l0] at H
    rcases ifd_ H with ⟨c7b0, H⟩ | ⟨c7b0, H⟩
    ·obtain ⟨c8b0, H⟩ := ifn_ H
     obtain ⟨c9, H⟩ := ifm_ H
     have c9b0 : ((t102.length : Int) == 0) = false := beq_eq_false_iff_ne.mpr c9
     have c9b1 : ((t102.length : Int) != 0) = true := bne_iff_ne.mpr c9
     have c9b2 : ¬ (t102 = []) := fun h_ => c9 (by rw [h_]; rfl)
     obtain ⟨ji10, hji10⟩ : ∃ j_ : Int, (Int.tmod (wrap64 (x5_1 + 1)) (t102.length : Int)) = j_ := ⟨_, rfl⟩
     replace H : (if 0 ≤ (ji10) then (if (ji10) < (t102.length : Int) then ((spec_OnEdge.f k1 ((rd_T34 t102 x5_1).f0) ((rd_T34 t102 x5_1).f1) ((rd_T34 t102 (ji10)).f0) ((rd_T34 t102 (ji10)).f1)).bind fun t107 => (spec_EdgePoints.l0 k1 (wrap64 (x3_1 + t107)) t102 (wrap64 (x5_1 + 1)))) else (none)) else (none)) = some r := by first | (rw [hji10] at H; exact H) | (simp only [hji10] at H ⊢; exact H)
     obtain ⟨c11b0, H⟩ := ifn_ H
     obtain ⟨c12b0, H⟩ := ifn_ H
     replace H := oB_ H
     obtain ⟨t107, A130, H⟩ := H
     have A13 := aM_ A130
     clear A130
     have H' := aM_ H
     clear H
     obtain ⟨Ao14, co14, eo14⟩ := Kd.R_slice HO_4.out
     subst eo14
     try go_wp2
     replace HO_4 := aM_ (kD_ HO_4.out)
     replace HB := aM_ (bD_ HB.out)
     obtain ⟨p105, q105, ad105, e105, hx105_0, hx105_1⟩ := atW_ (at_T34 (Kd.R_reads' HO_4.out).2.2 x5_1)
     cases e105
     obtain ⟨p106, q106, ad106, e106, hx106_0, hx106_1⟩ := atW_ (at_T34 (Kd.R_reads' HO_4.out).2.2 (ji10))
     obtain rfl : ad105 = ad106 := (by injection e106)
     refine start_ (n := 16) (S := fun w' => w'.cell? (ad105.add ((x5_1).toNat * 2)) = some (.int .i64 ((rd_T34 t102 x5_1).f0)) ∧ w'.cell? ⟨(ad105.add ((x5_1).toNat * 2)).block, (ad105.add ((x5_1).toNat * 2)).off + 1, none⟩ = some (.int .i64 ((rd_T34 t102 x5_1).f1)) ∧ w'.cell? (ad105.add (((ji10)).toNat * 2)) = some (.int .i64 ((rd_T34 t102 (ji10)).f0)) ∧ w'.cell? ⟨(ad105.add (((ji10)).toNat * 2)).block, (ad105.add (((ji10)).toNat * 2)).off + 1, none⟩ = some (.int .i64 ((rd_T34 t102 (ji10)).f1))) (ds := []) (bm 16 0) (by kernel_rfl) rfl rfl ⟨hx105_0, hx105_1, hx106_0, hx106_1⟩ (fun hHeld => ?_); refine with_tabW spec_EdgePoints.tab8 spec_EdgePoints.bits8 (fun HT_ HW_ => ?_)
     generalize wr.drew = w15 at HO_4 HB hx105_0 hx105_1 hx106_0 hx106_1 hHeld ⊢
     refine plan_ ((0, 0, 17, 1) :: (0, 1, 18, 3) :: (0, 2, 19, 7) :: (0, 3, 20, 15) :: (0, 5, 22, 47) :: (0, 6, 23, 111) :: (0, 7, 24, 239) :: (0, 8, 25, 495) :: (0, 9, 26, 1007) :: (0, 10, 27, 2031) :: (0, 11, 28, 4079) :: (2, 4, 21, 4095) :: (2, 12, 29, 8191) :: []) ?_
     iterate 13 (first | refine pV_ HT_ ?_ | refine pT_ HT_ HW_ hHeld ?_)
     refine planEnd_ ?_
     refine one_ (i := 13) (N := some 30) (bm 16 16383) rfl rfl (one_of HT_.out (by kernel_rfl)) (by decide) (fun K hK => ?_)
     refine goes_ Tryz.func32 (by kernel_rfl) rfl #[.agg #[.int .i64 ((rd_T34 t102 x5_1).f0), .int .i64 ((rd_T34 t102 x5_1).f1)], .agg #[.int .i64 ((rd_T34 t102 (ji10)).f0), .int .i64 ((rd_T34 t102 (ji10)).f1)]] (by rfl) rfl rfl (by (try simp only [List.map_toArray, List.map_cons, List.map_nil]); first | done | (simp only [hji10]; rfl) | rfl | (simp only [List.length_drop, List.length_take]; rfl)) ?_
     with_reducible refine (spec_OnEdge.calls k1 ((rd_T34 t102 x5_1).f0) ((rd_T34 t102 x5_1).f1) ((rd_T34 t102 (ji10)).f0) ((rd_T34 t102 (ji10)).f1) t107 _ A13.out).mono ?_
     rintro e w16 ⟨rfl, hb⟩
     have HS0_ := hc_ hb hHeld.1
     have HS1_ := hc_ hb hHeld.2.1
     have HS2_ := hc_ hb hHeld.2.2.1
     have HS3_ := hc_ hb hHeld.2.2.2
     refine ⟨_, rfl, ?_⟩
     replace HO_4 := aM_ (Kd.R_below (kr_ HO_4) hb)
     replace HB := aM_ (below_step (bB_ HB) hb)
     (try clear hb)
     refine hK.out _ _ ⟨HS0_, HS1_, HS2_, HS3_⟩ (fun hHeld => ?_)
     clear hK K
     refine nrm_ ?_
     refine plan_ ((0, 14, 31, 32767) :: (0, 15, 3, 65535) :: []) ?_
     iterate 2 (first | refine pV_ HT_ ?_)
     refine planEnd_ ?_
     refine done_ (done_of HT_.out (by kernel_rfl)) ?_
     try go_wp2
     go_roundg k1
     case measure => have := HK1.out; omega
     case rel => exact ⟨(wrap64 (x3_1 + t107)), (wrap64 (x5_1 + 1)), veq_, veq_, H', ⟨by have := HK1.out; omega⟩, ⟨kr_ HO_4⟩, ⟨bB_ HB⟩⟩
    ·obtain rfl := Option.some.inj H
     obtain ⟨Ao17, co17, eo17⟩ := Kd.R_slice HO_4.out
     subst eo17
     go_wp2
     go_ret
     exact ⟨verr_, bB_ HB⟩
 ·replace c3 := Bool.eq_false_iff.mpr c3
  subst c3
  rw [if_neg (show ¬ (false = true) by decide)] at H
  obtain rfl := Option.some.inj H
  go_enter Tryz.func12, Tryz.ntmps12
  go_wp2_with (first | ((with_reducible refine gate_callee (f := 9) rfl ?_); refine goesM_ (some 7) Tryz.func9 #[.slice A0 l0.length c0] ?_; (with_reducible refine (spec_ArePoints.calls k _ _ l0 false _ ?side1 ?side2 A2.out).mono ?_); (case side1 => repeat (first | exact HR0.out | (with_reducible refine Kd.C_alloc ?_ _) | (with_reducible refine Kd.C_drewN ?_ _) | (with_reducible refine Kd.C_drew ?_))); (case side2 => exact HC0.out); rintro e w18 ⟨rfl, hb⟩; refine ⟨_, rfl, ?_⟩; replace HB := aM_ (below_step (bB_ HB) hb); (try clear hb)))
  go_ret
  exact ⟨verr_, bB_ HB⟩
end Go.Proofs.YteaagaekdkolnaaGreatDoor.P

namespace Go.Proofs.YteaagaekdkolnaaGreatDoor.P
open Go.RowKit Go.Proofs.YteaagaekdkolnaaGreatDoorW.PrintWords Go.Proofs.YteaagaekdkolnaaGreatDoorW.PrintLast Go.Proofs.YteaagaekdkolnaaGreatDoorW.PrintMore
attribute [local go_sem] max2_int min2_int max_two min_two max_three min_three max_four min_four   -- for this text's walks alone
set_option linter.unusedVariables false
set_option linter.unusedSimpArgs false
/-! ### spec_l1Min: function 52 -/
def spec_l1Min.f (a0 : Int) (a1 : Int) : Option (Int) := if a0 < a1 then (some a0) else (some a1)
set_option maxHeartbeats 8000000 in
set_option maxRecDepth 100000 in
theorem spec_l1Min.calls (a0 : Int) (a1 : Int) (r : Int) (w : World) (h : spec_l1Min.f a0 a1 = some r) :
  Calls Tryz.prog 52 #[.int .i64 a0, .int .i64 a1] w fun e w' => e = .returned (.int .i64 r) ∧ Drawn0 w w' := by
 have H : (if a0 < a1 then (some a0) else (some a1)) = some r := h
 clear h
 rcases ifd_ H with ⟨c3b0, H⟩ | ⟨c3b0, H⟩
 ·obtain rfl := Option.some.inj H
  go_enter Tryz.func52, Tryz.ntmps52
  go_wp2
  go_ret
  exact ⟨veq_, by repeat (first | exact Drawn0.refl _ | apply Drawn0.step)⟩
 ·obtain rfl := Option.some.inj H
  go_enter Tryz.func52, Tryz.ntmps52
  go_wp2
  go_ret
  exact ⟨veq_, by repeat (first | exact Drawn0.refl _ | apply Drawn0.step)⟩
end Go.Proofs.YteaagaekdkolnaaGreatDoor.P

namespace Go.Proofs.YteaagaekdkolnaaGreatDoor.P
open Go.RowKit Go.Proofs.YteaagaekdkolnaaGreatDoorW.PrintWords Go.Proofs.YteaagaekdkolnaaGreatDoorW.PrintLast Go.Proofs.YteaagaekdkolnaaGreatDoorW.PrintMore
attribute [local go_sem] max2_int min2_int max_two min_two max_three min_three max_four min_four   -- for this text's walks alone
set_option linter.unusedVariables false
set_option linter.unusedSimpArgs false
/-! ### spec_BoxOf: function 33 -/
def spec_BoxOf.l0 : Nat → List (S34) → List Int → Int → Option (List Int)
 | 0, _, _, _ => none
 | k + 1, x0, x3, x4 => if x4 < (x0.length : Int) then (if 0 < (x3.length : Int) then (if 0 ≤ x4 then ((spec_l1Min.f (rd x3 0) ((rd_T34 x0 x4).f0)).bind fun t114 => ((some (x3.set (0 : Int).toNat t114 : List Int)).bind fun y115 => (if 1 < (x3.length : Int) then ((spec_l1Min.f (rd y115 1) ((rd_T34 x0 x4).f1)).bind fun t118 => ((some (y115.set (1 : Int).toNat t118 : List Int)).bind fun y119 => (if 2 < (x3.length : Int) then ((spec_l1Max.f (rd y119 2) ((rd_T34 x0 x4).f0)).bind fun t122 => ((some (y119.set (2 : Int).toNat t122 : List Int)).bind fun y123 => (if 3 < (x3.length : Int) then ((spec_l1Max.f (rd y123 3) ((rd_T34 x0 x4).f1)).bind fun t126 => (spec_BoxOf.l0 k x0 (y123.set (3 : Int).toNat t126) (wrap64 (x4 + 1)))) else (none)))) else (none)))) else (none)))) else (none)) else (none)) else (some x3)
def spec_BoxOf.f (k : Nat) (l0 : List (S34)) : Option (List Int) := (spec_ArePoints.f k l0).bind fun t101 => (if t101 = true then (if 0 < (l0.length : Int) then (spec_BoxOf.l0 k l0 (([(rd_T34 l0 0).f0, (rd_T34 l0 0).f1, (rd_T34 l0 0).f0, (rd_T34 l0 0).f1] : List Int)) 1) else (none)) else (some (([] : List Int))))
def spec_BoxOf.T3 : Bool × List (List Nat × List Nat) := (true, [([], []), ([0], [0]), ([1], [1]), ([2], [2]), ([], []), ([4], [4]), ([5], [5]), ([6], [6]), ([], []), ([8], [8]), ([9], [9]), ([10], [10]), ([], []), ([12], [12]), ([13], [13]), ([14], [14]), ([3, 7, 11, 15], [3, 7, 11, 15]), ([16, 0, 1, 2, 3, 4, 5, 6, 7, 8, 9, 10, 11, 12, 13, 14, 15, 16], [16])])
def spec_BoxOf.B3 : List Nat := [0, 1, 3, 7, 0, 16, 48, 112, 0, 256, 768, 1792, 0, 4096, 12288, 28672, 65535, 131071]
theorem spec_BoxOf.tab3 : rtab .any (opsOf Tryz.f33 3) = spec_BoxOf.T3 := by kernel_rfl
theorem spec_BoxOf.bits3 : waitsOk spec_BoxOf.T3.2 spec_BoxOf.B3 = true := by kernel_rfl
def spec_BoxOf.T7 : Bool × List (List Nat × List Nat) := (true, [([], []), ([], []), ([1], [1]), ([2], [2]), ([], []), ([], []), ([4, 5], [4, 5]), ([6], [6]), ([7], [7]), ([3, 8], [3, 8]), ([0, 0, 1, 2, 3, 4, 5, 6, 7, 8, 9], [0]), ([10, 9, 9, 0, 1, 2, 3, 4, 5, 6, 7, 8, 9], [9, 10])])
def spec_BoxOf.B7 : List Nat := [0, 0, 2, 6, 0, 0, 48, 112, 240, 510, 1023, 2047]
theorem spec_BoxOf.tab7 : rtab .any (opsOf Tryz.f33 7) = spec_BoxOf.T7 := by kernel_rfl
theorem spec_BoxOf.bits7 : waitsOk spec_BoxOf.T7.2 spec_BoxOf.B7 = true := by kernel_rfl
def spec_BoxOf.T8 : Bool × List (List Nat × List Nat) := (true, [([], []), ([], []), ([1], [1]), ([2], [2]), ([], []), ([], []), ([4, 5], [4, 5]), ([6], [6]), ([7], [7]), ([3, 8], [3, 8]), ([0, 0, 1, 2, 3, 4, 5, 6, 7, 8, 9], [0]), ([10, 9, 9, 0, 1, 2, 3, 4, 5, 6, 7, 8, 9], [9, 10])])
def spec_BoxOf.B8 : List Nat := [0, 0, 2, 6, 0, 0, 48, 112, 240, 510, 1023, 2047]
theorem spec_BoxOf.tab8 : rtab .any (opsOf Tryz.f33 8) = spec_BoxOf.T8 := by kernel_rfl
theorem spec_BoxOf.bits8 : waitsOk spec_BoxOf.T8.2 spec_BoxOf.B8 = true := by kernel_rfl
def spec_BoxOf.T9 : Bool × List (List Nat × List Nat) := (true, [([], []), ([], []), ([1], [1]), ([2], [2]), ([], []), ([], []), ([4, 5], [4, 5]), ([6], [6]), ([7], [7]), ([3, 8], [3, 8]), ([0, 0, 1, 2, 3, 4, 5, 6, 7, 8, 9], [0]), ([10, 9, 9, 0, 1, 2, 3, 4, 5, 6, 7, 8, 9], [9, 10])])
def spec_BoxOf.B9 : List Nat := [0, 0, 2, 6, 0, 0, 48, 112, 240, 510, 1023, 2047]
theorem spec_BoxOf.tab9 : rtab .any (opsOf Tryz.f33 9) = spec_BoxOf.T9 := by kernel_rfl
theorem spec_BoxOf.bits9 : waitsOk spec_BoxOf.T9.2 spec_BoxOf.B9 = true := by kernel_rfl
def spec_BoxOf.T10 : Bool × List (List Nat × List Nat) := (true, [([], []), ([], []), ([1], [1]), ([2], [2]), ([], []), ([], []), ([4, 5], [4, 5]), ([6], [6]), ([7], [7]), ([3, 8], [3, 8]), ([0, 0, 1, 2, 3, 4, 5, 6, 7, 8, 9], [0]), ([10, 9, 9, 0, 1, 2, 3, 4, 5, 6, 7, 8, 9], [9, 10])])
def spec_BoxOf.B10 : List Nat := [0, 0, 2, 6, 0, 0, 48, 112, 240, 510, 1023, 2047]
theorem spec_BoxOf.tab10 : rtab .any (opsOf Tryz.f33 10) = spec_BoxOf.T10 := by kernel_rfl
theorem spec_BoxOf.bits10 : waitsOk spec_BoxOf.T10.2 spec_BoxOf.B10 = true := by kernel_rfl
set_option maxHeartbeats 8000000 in
set_option maxRecDepth 100000 in
theorem spec_BoxOf.calls (k : Nat) (A0 : Option Addr) (c0 : Nat) (l0 : List (S34)) (r : List Int) (w : World) (hr0 : Kd.C k34 w A0 l0.length l0) (hc0 : l0.length ≤ c0) (h : spec_BoxOf.f k l0 = some r) :
  Calls Tryz.prog 33 #[.slice A0 l0.length c0] w fun e w' => ∃ v0_ : Value, e = .returned (v0_) ∧ Kd.R (Kd.int .i64) 3 w' w.heap.size (fun _ => True) v0_ r ∧ Below w.heap.size w w' := by
 have HR0 := aM_ hr0
 have HC0 := aM_ hc0
 clear hr0 hc0
 have HB := aM_ (Below.refl w.heap.size w)
 have H : ((spec_ArePoints.f k l0).bind fun t101 => (if t101 = true then (if 0 < (l0.length : Int) then (spec_BoxOf.l0 k l0 (([(rd_T34 l0 0).f0, (rd_T34 l0 0).f1, (rd_T34 l0 0).f0, (rd_T34 l0 0).f1] : List Int)) 1) else (none)) else (some (([] : List Int))))) = some r := h
 clear h
 replace H := oB_ H
 obtain ⟨t101, A20, H⟩ := H
 have A2 := aM_ A20
 clear A20
 by_cases c3 : t101 = true
 ·subst c3
  rw [if_pos rfl] at H
  obtain ⟨c4, H⟩ := ifp_ H
  have c4b0 := decide_eq_true c4
  have c4b1 : decide (0 < l0.length) = true := decide_eq_true (by omega)
  clear c4
  obtain ⟨y109, hy109⟩ : ∃ y_ : List Int, y_ = (([(rd_T34 l0 0).f0, (rd_T34 l0 0).f1, (rd_T34 l0 0).f0, (rd_T34 l0 0).f1] : List Int)) := ⟨_, rfl⟩
  replace H : (spec_BoxOf.l0 k l0 y109 1) = some r := by first | (rw [hy109]; with_reducible exact H) | (have H2_ := (Option.bind_some _ _).symm.trans H; rw [hy109]; with_reducible exact H2_) | (have H2_ := (Option.bind_some _ _).symm.trans H; with_reducible exact H2_) | with_reducible exact H | (rw [hy109]; exact H) | exact H
  have Ny109 := aM_ hy109
  clear hy109
  have H' := aM_ H
  clear H
  go_enter Tryz.func33, Tryz.ntmps33
  try go_wp2_with (first | ((with_reducible refine gate_callee (f := 9) rfl ?_); refine goesM_ (some 6) Tryz.func9 #[.slice A0 l0.length c0] ?_; (with_reducible refine (spec_ArePoints.calls k _ _ l0 true _ ?side1 ?side2 A2.out).mono ?_); (case side1 => repeat (first | exact HR0.out | (with_reducible refine Kd.C_alloc ?_ _) | (with_reducible refine Kd.C_drewN ?_ _) | (with_reducible refine Kd.C_drew ?_))); (case side2 => exact HC0.out); rintro e w5 ⟨rfl, hb⟩; refine ⟨_, rfl, ?_⟩; replace HB := aM_ (below_step (bB_ HB) hb); (try clear hb); (try clear hk)))
  replace HB := aM_ (bD_ HB.out)
  have p105 : 0 ≤ (0 : Int) := (by omega)
  have q105 : 0 < (l0.length : Int) := ode_
  obtain ⟨ad105, e105, hx105_0, hx105_1⟩ := at_T34 HR0.out 0 p105 q105
  have hw105_1 := hx105_1
  (try rw [show ((0 : Int)).toNat = 0 from rfl] at hw105_1)
  (try rw [show 0 * 2 = 0 from rfl] at hw105_1)
  (try rw [Addr.add_zero'] at hw105_1)
  have hw105_0 := hx105_0
  (try rw [show ((0 : Int)).toNat = 0 from rfl] at hw105_0)
  (try rw [show 0 * 2 = 0 from rfl] at hw105_0)
  (try rw [Addr.add_zero'] at hw105_0)
  cases e105
  have qi105 : (0 < l0.length) = True := eq_true (by omega)
  (try rw [show ((0 : Int)).toNat = 0 from rfl] at hx105_0)
  (try rw [show 0 * 2 = 0 from rfl] at hx105_0)
  (try rw [Addr.add_zero'] at hx105_0)
  (try rw [show ((0 : Int)).toNat = 0 from rfl] at hx105_1)
  (try rw [show 0 * 2 = 0 from rfl] at hx105_1)
  (try rw [Addr.add_zero'] at hx105_1)
  replace hx105_0 := hbc_ HB hx105_0
  replace hx105_1 := hbc_ HB hx105_1
  replace p105 := eq_true p105
  replace q105 := eq_true q105
  have p106 : 0 ≤ (0 : Int) := (by omega)
  have q106 : 0 < (l0.length : Int) := ode_
  obtain ⟨ad106, e106, hx106_0, hx106_1⟩ := at_T34 HR0.out 0 p106 q106
  have hw106_1 := hx106_1
  (try rw [show ((0 : Int)).toNat = 0 from rfl] at hw106_1)
  (try rw [show 0 * 2 = 0 from rfl] at hw106_1)
  (try rw [Addr.add_zero'] at hw106_1)
  have hw106_0 := hx106_0
  (try rw [show ((0 : Int)).toNat = 0 from rfl] at hw106_0)
  (try rw [show 0 * 2 = 0 from rfl] at hw106_0)
  (try rw [Addr.add_zero'] at hw106_0)
  obtain rfl : ad105 = ad106 := (by injection e106)
  have qi106 : (0 < l0.length) = True := eq_true (by omega)
  (try rw [show ((0 : Int)).toNat = 0 from rfl] at hx106_0)
  (try rw [show 0 * 2 = 0 from rfl] at hx106_0)
  (try rw [Addr.add_zero'] at hx106_0)
  (try rw [show ((0 : Int)).toNat = 0 from rfl] at hx106_1)
  (try rw [show 0 * 2 = 0 from rfl] at hx106_1)
  (try rw [Addr.add_zero'] at hx106_1)
  replace hx106_0 := hbc_ HB hx106_0
  replace hx106_1 := hbc_ HB hx106_1
  replace p106 := eq_true p106
  replace q106 := eq_true q106
  have p107 : 0 ≤ (0 : Int) := (by omega)
  have q107 : 0 < (l0.length : Int) := ode_
  obtain ⟨ad107, e107, hx107_0, hx107_1⟩ := at_T34 HR0.out 0 p107 q107
  have hw107_1 := hx107_1
  (try rw [show ((0 : Int)).toNat = 0 from rfl] at hw107_1)
  (try rw [show 0 * 2 = 0 from rfl] at hw107_1)
  (try rw [Addr.add_zero'] at hw107_1)
  have hw107_0 := hx107_0
  (try rw [show ((0 : Int)).toNat = 0 from rfl] at hw107_0)
  (try rw [show 0 * 2 = 0 from rfl] at hw107_0)
  (try rw [Addr.add_zero'] at hw107_0)
  obtain rfl : ad105 = ad107 := (by injection e107)
  have qi107 : (0 < l0.length) = True := eq_true (by omega)
  (try rw [show ((0 : Int)).toNat = 0 from rfl] at hx107_0)
  (try rw [show 0 * 2 = 0 from rfl] at hx107_0)
  (try rw [Addr.add_zero'] at hx107_0)
  (try rw [show ((0 : Int)).toNat = 0 from rfl] at hx107_1)
  (try rw [show 0 * 2 = 0 from rfl] at hx107_1)
  (try rw [Addr.add_zero'] at hx107_1)
  replace hx107_0 := hbc_ HB hx107_0
  replace hx107_1 := hbc_ HB hx107_1
  replace p107 := eq_true p107
  replace q107 := eq_true q107
  have p108 : 0 ≤ (0 : Int) := (by omega)
  have q108 : 0 < (l0.length : Int) := ode_
  obtain ⟨ad108, e108, hx108_0, hx108_1⟩ := at_T34 HR0.out 0 p108 q108
  have hw108_1 := hx108_1
  (try rw [show ((0 : Int)).toNat = 0 from rfl] at hw108_1)
  (try rw [show 0 * 2 = 0 from rfl] at hw108_1)
  (try rw [Addr.add_zero'] at hw108_1)
  have hw108_0 := hx108_0
  (try rw [show ((0 : Int)).toNat = 0 from rfl] at hw108_0)
  (try rw [show 0 * 2 = 0 from rfl] at hw108_0)
  (try rw [Addr.add_zero'] at hw108_0)
  obtain rfl : ad105 = ad108 := (by injection e108)
  have qi108 : (0 < l0.length) = True := eq_true (by omega)
  (try rw [show ((0 : Int)).toNat = 0 from rfl] at hx108_0)
  (try rw [show 0 * 2 = 0 from rfl] at hx108_0)
  (try rw [Addr.add_zero'] at hx108_0)
  (try rw [show ((0 : Int)).toNat = 0 from rfl] at hx108_1)
  (try rw [show 0 * 2 = 0 from rfl] at hx108_1)
  (try rw [Addr.add_zero'] at hx108_1)
  replace hx108_0 := hbc_ HB hx108_0
  replace hx108_1 := hbc_ HB hx108_1
  replace p108 := eq_true p108
  replace q108 := eq_true q108
  refine start_ (n := 18) (S := fun w' => w'.cell? ad105 = some (.int .i64 ((rd_T34 l0 0).f0)) ∧ w'.cell? ⟨ad105.block, ad105.off + 1, none⟩ = some (.int .i64 ((rd_T34 l0 0).f1)) ∧ w'.cell? ad105 = some (.int .i64 ((rd_T34 l0 0).f0)) ∧ w'.cell? ⟨ad105.block, ad105.off + 1, none⟩ = some (.int .i64 ((rd_T34 l0 0).f1)) ∧ w'.cell? ad105 = some (.int .i64 ((rd_T34 l0 0).f0)) ∧ w'.cell? ⟨ad105.block, ad105.off + 1, none⟩ = some (.int .i64 ((rd_T34 l0 0).f1)) ∧ w'.cell? ad105 = some (.int .i64 ((rd_T34 l0 0).f0)) ∧ w'.cell? ⟨ad105.block, ad105.off + 1, none⟩ = some (.int .i64 ((rd_T34 l0 0).f1))) (ds := []) (bm 18 0) (by kernel_rfl) rfl rfl ⟨(hbc_ HB hw105_0), (hbc_ HB hw105_1), (hbc_ HB hw106_0), (hbc_ HB hw106_1), (hbc_ HB hw107_0), (hbc_ HB hw107_1), (hbc_ HB hw108_0), (hbc_ HB hw108_1)⟩ (fun hHeld => ?_); refine with_tabW spec_BoxOf.tab3 spec_BoxOf.bits3 (fun HT_ HW_ => ?_)
  generalize w5.drew = w6 at HB hx105_0 hx105_1 hx106_0 hx106_1 hx107_0 hx107_1 hx108_0 hx108_1 hHeld ⊢
  refine plan_ ((0, 0, 9, 1) :: (0, 1, 10, 3) :: (0, 2, 11, 7) :: (0, 4, 13, 23) :: (0, 5, 14, 55) :: (0, 6, 15, 119) :: (0, 8, 17, 375) :: (0, 9, 18, 887) :: (0, 10, 19, 1911) :: (0, 12, 21, 6007) :: (0, 13, 22, 14199) :: (0, 14, 23, 30583) :: (2, 3, 12, 30591) :: (2, 7, 16, 30719) :: (2, 11, 20, 32767) :: (2, 15, 24, 65535) :: []) ?_
  iterate 16 (first | refine pV_ HT_ ?_ | refine pT_ HT_ HW_ hHeld ?_)
  refine planEnd_ ?_
  refine one_ (i := 16) (N := some 25) (bm 18 131071) rfl rfl (one_of HT_.out (by kernel_rfl)) (by decide) (fun K hK => ?_)
  refine Kd.R_lit_step (Kd.int .i64) _ 3 ?hg (N := 25) ?hd (xs := ([(rd_T34 l0 0).f0, (rd_T34 l0 0).f1, (rd_T34 l0 0).f0, (rd_T34 l0 0).f1] : List Int)) (inner := [.int .i64 ((rd_T34 l0 0).f0), .int .i64 ((rd_T34 l0 0).f1), .int .i64 ((rd_T34 l0 0).f0), .int .i64 ((rd_T34 l0 0).f1)]) (ok := fun _ => True) (okp := fun _ => True) ?hr ?hp (fun _ hk => hk) trivial (Below.refl _ _) (Nat.le_refl _) (by simp) ?_; (case hd => rfl); (case hg => rfl); (case hr => first | (go_simp; done) | (go_simp; rfl)); (case hp => exact (Reps.one (show Kd.M (Kd.int .i64) _ _ _ ((rd_T34 l0 0).f0) [.int .i64 ((rd_T34 l0 0).f0)] from rfl) (Reps.one (show Kd.M (Kd.int .i64) _ _ _ ((rd_T34 l0 0).f1) [.int .i64 ((rd_T34 l0 0).f1)] from rfl) (Reps.one (show Kd.M (Kd.int .i64) _ _ _ ((rd_T34 l0 0).f0) [.int .i64 ((rd_T34 l0 0).f0)] from rfl) (Reps.one (show Kd.M (Kd.int .i64) _ _ _ ((rd_T34 l0 0).f1) [.int .i64 ((rd_T34 l0 0).f1)] from rfl) (Reps.none _ _))))))
  intro v110 w7 ho8 hb hg_ hnew_
  clear hg_ hnew_
  (first | rw [← Ny109.out] at ho8 | (simp only [Int.reduceToNat] at ho8; rw [← Ny109.out] at ho8))
  have HO111 := aM_ (Kd.R_lower ho8 (below_size (bB_ HB)))
  replace HB := aM_ (below_step (bB_ HB) hb)
  clear hb ho8
  refine hK.out _ _ ⟨(hbc_ HB hw105_0), (hbc_ HB hw105_1), (hbc_ HB hw106_0), (hbc_ HB hw106_1), (hbc_ HB hw107_0), (hbc_ HB hw107_1), (hbc_ HB hw108_0), (hbc_ HB hw108_1)⟩ (fun hHeld => ?_)
  clear hK K
  refine nrm_ ?_
  refine plan_ ((0, 17, 3, 262143) :: []) ?_
  iterate 1 (first | refine pV_ HT_ ?_)
  refine planEnd_ ?_
  refine done_ (done_of HT_.out (by kernel_rfl)) ?_
  try go_wp2
  go_loopg [4] k (fun kq v4 w' => ∃ (x3_1 : List Int) (x4_1 : Int), v4 = .int .i64 x4_1 ∧ Aside0 (spec_BoxOf.l0 kq l0 x3_1 x4_1 = some r) ∧ Aside0 (kq ≤ k) ∧ Aside0 (Kd.R (Kd.int .i64) 3 w' w.heap.size (fun _ => True) v110 x3_1) ∧ Aside0 (Below w.heap.size w w'))
  case atStart => exact ⟨(y109), (1), veq_, H', ⟨Nat.le_refl _⟩, ⟨kr_ HO111⟩, ⟨bB_ HB⟩⟩
  case round =>
   clear H'
   try clear c3
   try clear c4
   try clear c4b0
   try clear c4b1
   try clear hx105_0
   try clear hx105_1
   try clear hx106_0
   try clear hx106_1
   try clear hx107_0
   try clear hx107_1
   try clear hx108_0
   try clear hx108_1
   try clear p105
   try clear p106
   try clear p107
   try clear p108
   try clear q105
   try clear q106
   try clear q107
   try clear q108
   obtain ⟨x3_1, x4_1, rfl, HA, HK1, HO_3, HB⟩ := hrel
   cases gk with
   | zero => exact absurd HA.out (by simp [spec_BoxOf.l0])
   | succ k1 =>
    have H := HA.out
    clear HA
    simp only [spec_BoxOf.l0] at H
    rcases ifd_ H with ⟨c9b0, H⟩ | ⟨c9b0, H⟩
    ·obtain ⟨c10, H⟩ := ifp_ H
     have c10b0 := decide_eq_true c10
     have c10b1 : decide (0 < x3_1.length) = true := decide_eq_true (by omega)
     clear c10
     obtain ⟨c11b0, H⟩ := ifn_ H
     replace H := oB_ H
     obtain ⟨t114, A120, H⟩ := H
     have A12 := aM_ A120
     clear A120
     obtain ⟨y115, hy115⟩ : ∃ y_ : List Int, y_ = (x3_1.set (0 : Int).toNat t114) := ⟨_, rfl⟩
     replace H : (if 1 < (x3_1.length : Int) then ((spec_l1Min.f (rd y115 1) ((rd_T34 l0 x4_1).f1)).bind fun t118 => ((some (y115.set (1 : Int).toNat t118 : List Int)).bind fun y119 => (if 2 < (x3_1.length : Int) then ((spec_l1Max.f (rd y119 2) ((rd_T34 l0 x4_1).f0)).bind fun t122 => ((some (y119.set (2 : Int).toNat t122 : List Int)).bind fun y123 => (if 3 < (x3_1.length : Int) then ((spec_l1Max.f (rd y123 3) ((rd_T34 l0 x4_1).f1)).bind fun t126 => (spec_BoxOf.l0 k1 l0 (y123.set (3 : Int).toNat t126) (wrap64 (x4_1 + 1)))) else (none)))) else (none)))) else (none)) = some r := by first | (rw [hy115]; with_reducible exact H) | (have H2_ := (Option.bind_some _ _).symm.trans H; rw [hy115]; with_reducible exact H2_) | (have H2_ := (Option.bind_some _ _).symm.trans H; with_reducible exact H2_) | with_reducible exact H | (rw [hy115]; exact H) | exact H
     have Ny115 := aM_ hy115
     clear hy115
     obtain ⟨c14, H⟩ := ifp_ H
     have c14b0 := decide_eq_true c14
     have c14b1 : decide (1 < x3_1.length) = true := decide_eq_true (by omega)
     clear c14
     replace H := oB_ H
     obtain ⟨t118, A150, H⟩ := H
     have A15 := aM_ A150
     clear A150
     obtain ⟨y119, hy119⟩ : ∃ y_ : List Int, y_ = (y115.set (1 : Int).toNat t118) := ⟨_, rfl⟩
     replace H : (if 2 < (x3_1.length : Int) then ((spec_l1Max.f (rd y119 2) ((rd_T34 l0 x4_1).f0)).bind fun t122 => ((some (y119.set (2 : Int).toNat t122 : List Int)).bind fun y123 => (if 3 < (x3_1.length : Int) then ((spec_l1Max.f (rd y123 3) ((rd_T34 l0 x4_1).f1)).bind fun t126 => (spec_BoxOf.l0 k1 l0 (y123.set (3 : Int).toNat t126) (wrap64 (x4_1 + 1)))) else (none)))) else (none)) = some r := by first | (rw [hy119]; with_reducible exact H) | (have H2_ := (Option.bind_some _ _).symm.trans H; rw [hy119]; with_reducible exact H2_) | (have H2_ := (Option.bind_some _ _).symm.trans H; with_reducible exact H2_) | with_reducible exact H | (rw [hy119]; exact H) | exact H
     have Ny119 := aM_ hy119
     clear hy119
     obtain ⟨c17, H⟩ := ifp_ H
     have c17b0 := decide_eq_true c17
     have c17b1 : decide (2 < x3_1.length) = true := decide_eq_true (by omega)
     clear c17
     replace H := oB_ H
     obtain ⟨t122, A180, H⟩ := H
     have A18 := aM_ A180
     clear A180
     obtain ⟨y123, hy123⟩ : ∃ y_ : List Int, y_ = (y119.set (2 : Int).toNat t122) := ⟨_, rfl⟩
     replace H : (if 3 < (x3_1.length : Int) then ((spec_l1Max.f (rd y123 3) ((rd_T34 l0 x4_1).f1)).bind fun t126 => (spec_BoxOf.l0 k1 l0 (y123.set (3 : Int).toNat t126) (wrap64 (x4_1 + 1)))) else (none)) = some r := by first | (rw [hy123]; with_reducible exact H) | (have H2_ := (Option.bind_some _ _).symm.trans H; rw [hy123]; with_reducible exact H2_) | (have H2_ := (Option.bind_some _ _).symm.trans H; with_reducible exact H2_) | with_reducible exact H | (rw [hy123]; exact H) | exact H
     have Ny123 := aM_ hy123
     clear hy123
     obtain ⟨c20, H⟩ := ifp_ H
     have c20b0 := decide_eq_true c20
     have c20b1 : decide (3 < x3_1.length) = true := decide_eq_true (by omega)
     clear c20
     replace H := oB_ H
     obtain ⟨t126, A210, H⟩ := H
     have A21 := aM_ A210
     clear A210
     obtain ⟨y127, hy127⟩ : ∃ y_ : List Int, y_ = (y123.set (3 : Int).toNat t126) := ⟨_, rfl⟩
     replace H : (spec_BoxOf.l0 k1 l0 y127 (wrap64 (x4_1 + 1))) = some r := by first | (rw [hy127]; with_reducible exact H) | (have H2_ := (Option.bind_some _ _).symm.trans H; rw [hy127]; with_reducible exact H2_) | (have H2_ := (Option.bind_some _ _).symm.trans H; with_reducible exact H2_) | with_reducible exact H | (rw [hy127]; exact H) | exact H
     have Ny127 := aM_ hy127
     clear hy127
     have H' := aM_ H
     clear H
     try go_wp2
     replace HO_3 := aM_ (kD_ HO_3.out)
     replace HB := aM_ (bD_ HB.out)
     obtain ⟨Ao24, co24, eo24⟩ := Kd.R_slice HO_3.out
     (first | subst eo24 | (injection eo24 with f1_ f2_ f3_; have f4_ := f1_.symm; have f5_ := f3_.symm; clear f1_ f2_ f3_; subst f4_; subst f5_))
     have p112 : 0 ≤ (0 : Int) := (by omega)
     have q112 : 0 < (x3_1.length : Int) := ode_
     obtain ⟨ad112, e112, hx112_0⟩ := Kd.at_int (Kd.R_reads' HO_3.out).2.2 0 p112 q112
     cases e112
     have qi112 : (0 < x3_1.length) = True := eq_true (by omega)
     (try rw [show ((0 : Int)).toNat = 0 from rfl] at hx112_0)
     (try rw [Addr.add_zero'] at hx112_0)
     replace p112 := eq_true p112
     replace q112 := eq_true q112
     have p113 : 0 ≤ (x4_1 : Int) := ode_
     have q113 : x4_1 < (l0.length : Int) := ode_
     obtain ⟨ad113, e113, hx113_0, hx113_1⟩ := at_T34 HR0.out x4_1 p113 q113
     have hw113_1 := hx113_1
     have hw113_0 := hx113_0
     obtain rfl : ad105 = ad113 := (by injection e113)
     replace hx113_0 := hbc_ HB hx113_0
     replace hx113_1 := hbc_ HB hx113_1
     replace p113 := eq_true p113
     replace q113 := eq_true q113
     refine start_ (n := 12) (S := fun w' => w'.cell? ad112 = some (.int .i64 (rd x3_1 0)) ∧ w'.cell? (ad105.add ((x4_1).toNat * 2)) = some (.int .i64 ((rd_T34 l0 x4_1).f0)) ∧ w'.cell? ⟨(ad105.add ((x4_1).toNat * 2)).block, (ad105.add ((x4_1).toNat * 2)).off + 1, none⟩ = some (.int .i64 ((rd_T34 l0 x4_1).f1))) (ds := [11]) (bm 12 0) (by kernel_rfl) rfl rfl ⟨hx112_0, (hbc_ HB hw113_0), (hbc_ HB hw113_1)⟩ (fun hHeld => ?_); refine with_tabW spec_BoxOf.tab7 spec_BoxOf.bits7 (fun HT_ HW_ => ?_)
     generalize wr.drew = w23 at HO_3 HB hx112_0 hx113_0 hx113_1 hHeld ⊢
     refine plan_ ((0, 0, 32, 1) :: (0, 1, 33, 3) :: (0, 2, 34, 7) :: (0, 4, 36, 23) :: (0, 5, 37, 55) :: (0, 6, 38, 119) :: (0, 7, 39, 247) :: (2, 3, 35, 255) :: (2, 8, 40, 511) :: []) ?_
     iterate 9 (first | refine pV_ HT_ ?_ | refine pT_ HT_ HW_ hHeld ?_)
     refine planEnd_ ?_
     refine one_ (i := 9) (N := some 41) (bm 12 1023) rfl rfl (one_of HT_.out (by kernel_rfl)) (by decide) (fun K hK => ?_)
     refine goesO_ Tryz.func52 #[.int .i64 (rd x3_1 0), .int .i64 ((rd_T34 l0 x4_1).f0)] ?_
     with_reducible refine (spec_l1Min.calls (rd x3_1 0) ((rd_T34 l0 x4_1).f0) t114 _ A12.out).mono ?_
     rintro e w' ⟨rfl, ⟨nd, rfl⟩⟩
     refine ⟨_, rfl, ?_⟩
     have p13 : 0 ≤ (0 : Int) := (by omega)
     have q13 : (0 : Int) < ((x3_1.length : Int) : Int) := ode_
     have qi13 : (0 < x3_1.length) = True := eq_true (by omega)
     obtain ⟨go13, co13, eo13, gb13, gl13, cl13, HG13⟩ := Kd.R_form HO_3.out (by omega)
     (first | cases eo13 | (injection eo13 with ea_ en_ ec_; (first | subst ea_ | (injection ea_ with ea_; subst ea_)); subst ec_; clear en_))
     have GB13 := aM_ gb13
     have GG13 := aM_ HG13
     clear gb13 gl13 HG13
     (first | simp only [add_plain] at hx112_0 | skip)
     obtain ⟨hx13_0, hf13_0⟩ := Kd.R_celln 0 HO_3.out (0 : Int) p13 q13
     (try rw [show ((0 : Int)).toNat = 0 from rfl] at hx13_0)
     (try simp only [Nat.reduceMul, Nat.zero_mul, Nat.zero_add, Nat.reduceAdd] at hx13_0)
     (try rw [show ((0 : Int)).toNat = 0 from rfl] at hf13_0)
     (try simp only [Nat.reduceMul, Nat.zero_mul, Nat.zero_add, Nat.reduceAdd] at hf13_0)
     replace p13 := eq_true p13
     replace q13 := eq_true q13
     have HP25 := Kd.R_putn HO_3.out (0 : Int) t114
     rw [← Ny115.out] at HP25
     have HQ25 := aM_ HP25
     clear HP25
     refine hK.out _ _ ⟨hHeld.1, (hbc_ HB hw113_0), (hbc_ HB hw113_1)⟩ (fun hHeld => ?_)
     clear hK K
     refine nrm_ ?_
     refine plan_ ((0, 10, 42, 2047) :: []) ?_
     iterate 1 (first | refine pV_ HT_ ?_)
     refine planEnd_ ?_
     refine last_ (i := 11) (N := none) (bm 12 4095) rfl rfl (one_of HT_.out (by kernel_rfl)) (by decide) (fun K hK => ?_)
     refine skip_ (w1 := ?_) (by rfl) rfl ?_ ?_
     rotate_left
     ·go_simp
      rfl
     refine hK.out _ _ ?_
     clear hK K
     refine done_ (done_of HT_.out (by kernel_rfl)) ?_
     try go_wp2
     have n0_ : Aside0 (Kd.R (Kd.int .i64) 3 (w23.setCell ⟨go13, 0, none⟩ (.int .i64 t114)) w.heap.size (fun _ => True) (.slice (some ⟨go13, 0, none⟩) x3_1.length co24) y115) := ⟨kr_ HQ25⟩
     have n1_ : Aside0 (Below w.heap.size w (w23.setCell ⟨go13, 0, none⟩ (.int .i64 t114))) := ⟨bI_ HB GB13.out⟩
     (try clear HO_3)
     (try clear HB)
     (try rw [show (World.drewN w23 nd).setCell ⟨go13, 0, none⟩ (.int .i64 t114) = World.drewN (w23.setCell ⟨go13, 0, none⟩ (.int .i64 t114)) nd from rfl])
     generalize (w23.setCell ⟨go13, 0, none⟩ (.int .i64 t114)) = w26 at n0_ n1_ ⊢
     have HO_3 := n0_
     have HB := n1_
     clear n0_ n1_
     (try (rw [drewN_self w26]; generalize hq_ : World.drewN w26 _ = w26; have n0_ : Aside0 (Kd.R (Kd.int .i64) 3 w26 w.heap.size (fun _ => True) (.slice (some ⟨go13, 0, none⟩) x3_1.length co24) y115) := ⟨by rw [← hq_]; exact (kr_ HO_3)⟩; have n1_ : Aside0 (Below w.heap.size w w26) := ⟨by rw [← hq_]; exact (bB_ HB)⟩; clear HO_3 HB hq_; have HO_3 := n0_; have HB := n1_; clear n0_ n1_))
     replace HO_3 := aM_ (kD_ HO_3.out)
     replace HB := aM_ (bD_ HB.out)
     have p116 : 0 ≤ (1 : Int) := (by omega)
     have q116 : 1 < (y115.length : Int) := (by have h_ : (1 : Int) < ((x3_1.length : Int) : Int) := ode_; first | (have e_ := (Kd.R_reads' HO_3.out).1; omega) | simpa only [Ny115.out, List.length_set] using h_)
     have ql116 : ((1 : Int) < ((x3_1.length : Int) : Int)) = True := eq_true (ode_)
     (try have qn116 : (1 < x3_1.length) = True := eq_true (by have h_ : (1 : Int) < ((x3_1.length : Int) : Int) := ode_; omega))
     obtain ⟨ad116, e116, hx116_0⟩ := Kd.at_int (Kd.R_reads' HO_3.out).2.2 1 p116 q116
     obtain rfl : (⟨go13, 0, none⟩ : Addr) = ad116 := (by injection e116)
     (first | simp only [add_plain] at hx116_0 | simp only [add_at] at hx116_0 | simp only [Addr.add, Nat.zero_add] at hx116_0 | skip)
     have qi116 : (1 < y115.length) = True := eq_true (by omega)
     (try rw [show ((1 : Int)).toNat = 1 from rfl] at hx116_0)
     replace p116 := eq_true p116
     replace q116 := eq_true q116
     have p117 : 0 ≤ (x4_1 : Int) := ode_
     have q117 : x4_1 < (l0.length : Int) := ode_
     obtain ⟨ad117, e117, hx117_0, hx117_1⟩ := at_T34 HR0.out x4_1 p117 q117
     have hw117_1 := hx117_1
     have hw117_0 := hx117_0
     obtain rfl : ad105 = ad117 := (by injection e117)
     replace hx117_0 := hbc_ HB hx117_0
     replace hx117_1 := hbc_ HB hx117_1
     replace p117 := eq_true p117
     replace q117 := eq_true q117
     refine start_ (n := 12) (S := fun w' => w'.cell? ⟨go13, 1, none⟩ = some (.int .i64 (rd y115 1)) ∧ w'.cell? (ad105.add ((x4_1).toNat * 2)) = some (.int .i64 ((rd_T34 l0 x4_1).f0)) ∧ w'.cell? ⟨(ad105.add ((x4_1).toNat * 2)).block, (ad105.add ((x4_1).toNat * 2)).off + 1, none⟩ = some (.int .i64 ((rd_T34 l0 x4_1).f1))) (ds := [11]) (bm 12 0) (by kernel_rfl) rfl rfl ⟨hx116_0, (hbc_ HB hw117_0), (hbc_ HB hw117_1)⟩ (fun hHeld => ?_); refine with_tabW spec_BoxOf.tab8 spec_BoxOf.bits8 (fun HT_ HW_ => ?_)
     generalize w26.drew = w27 at HO_3 HB HQ25 hx116_0 hx117_0 hx117_1 hHeld ⊢
     refine plan_ ((0, 0, 43, 1) :: (0, 1, 44, 3) :: (0, 2, 45, 7) :: (0, 4, 47, 23) :: (0, 5, 48, 55) :: (0, 6, 49, 119) :: (0, 7, 50, 247) :: (2, 3, 46, 255) :: (2, 8, 51, 511) :: []) ?_
     iterate 9 (first | refine pV_ HT_ ?_ | refine pT_ HT_ HW_ hHeld ?_)
     refine planEnd_ ?_
     refine one_ (i := 9) (N := some 52) (bm 12 1023) rfl rfl (one_of HT_.out (by kernel_rfl)) (by decide) (fun K hK => ?_)
     refine goesO_ Tryz.func52 #[.int .i64 (rd y115 1), .int .i64 ((rd_T34 l0 x4_1).f1)] ?_
     with_reducible refine (spec_l1Min.calls (rd y115 1) ((rd_T34 l0 x4_1).f1) t118 _ A15.out).mono ?_
     rintro e w' ⟨rfl, ⟨nd, rfl⟩⟩
     refine ⟨_, rfl, ?_⟩
     have p16 : 0 ≤ (1 : Int) := (by omega)
     have q16 : (1 : Int) < ((x3_1.length : Int) : Int) := ode_
     have qi16 : (1 < x3_1.length) = True := eq_true (by omega)
     obtain ⟨hx16_0, hf16_0⟩ := Kd.R_celln 0 HO_3.out (1 : Int) p16 q16
     (try rw [show ((1 : Int)).toNat = 1 from rfl] at hx16_0)
     (try simp only [Nat.reduceMul, Nat.zero_mul, Nat.zero_add, Nat.reduceAdd] at hx16_0)
     (try rw [show ((1 : Int)).toNat = 1 from rfl] at hf16_0)
     (try simp only [Nat.reduceMul, Nat.zero_mul, Nat.zero_add, Nat.reduceAdd] at hf16_0)
     replace p16 := eq_true p16
     replace q16 := eq_true q16
     have HP28 := Kd.R_putn HO_3.out (1 : Int) t118
     rw [← Ny119.out] at HP28
     have HQ28 := aM_ HP28
     clear HP28
     refine hK.out _ _ ⟨hHeld.1, (hbc_ HB hw117_0), (hbc_ HB hw117_1)⟩ (fun hHeld => ?_)
     clear hK K
     refine nrm_ ?_
     refine plan_ ((0, 10, 53, 2047) :: []) ?_
     iterate 1 (first | refine pV_ HT_ ?_)
     refine planEnd_ ?_
     refine last_ (i := 11) (N := none) (bm 12 4095) rfl rfl (one_of HT_.out (by kernel_rfl)) (by decide) (fun K hK => ?_)
     refine skip_ (w1 := ?_) (by rfl) rfl ?_ ?_
     rotate_left
     ·go_simp
      rfl
     refine hK.out _ _ ?_
     clear hK K
     refine done_ (done_of HT_.out (by kernel_rfl)) ?_
     try go_wp2
     have n0_ : Aside0 (Kd.R (Kd.int .i64) 3 (w27.setCell ⟨go13, 1, none⟩ (.int .i64 t118)) w.heap.size (fun _ => True) (.slice (some ⟨go13, 0, none⟩) x3_1.length co24) y119) := ⟨kr_ HQ28⟩
     have n1_ : Aside0 (Below w.heap.size w (w27.setCell ⟨go13, 1, none⟩ (.int .i64 t118))) := ⟨bI_ HB GB13.out⟩
     (try clear HO_3)
     (try clear HB)
     (try rw [show (World.drewN w27 nd).setCell ⟨go13, 1, none⟩ (.int .i64 t118) = World.drewN (w27.setCell ⟨go13, 1, none⟩ (.int .i64 t118)) nd from rfl])
     generalize (w27.setCell ⟨go13, 1, none⟩ (.int .i64 t118)) = w29 at n0_ n1_ ⊢
     have HO_3 := n0_
     have HB := n1_
     clear n0_ n1_
     (try (rw [drewN_self w29]; generalize hq_ : World.drewN w29 _ = w29; have n0_ : Aside0 (Kd.R (Kd.int .i64) 3 w29 w.heap.size (fun _ => True) (.slice (some ⟨go13, 0, none⟩) x3_1.length co24) y119) := ⟨by rw [← hq_]; exact (kr_ HO_3)⟩; have n1_ : Aside0 (Below w.heap.size w w29) := ⟨by rw [← hq_]; exact (bB_ HB)⟩; clear HO_3 HB hq_; have HO_3 := n0_; have HB := n1_; clear n0_ n1_))
     replace HO_3 := aM_ (kD_ HO_3.out)
     replace HB := aM_ (bD_ HB.out)
     have p120 : 0 ≤ (2 : Int) := (by omega)
     have q120 : 2 < (y119.length : Int) := (by have h_ : (2 : Int) < ((x3_1.length : Int) : Int) := ode_; first | (have e_ := (Kd.R_reads' HO_3.out).1; omega) | simpa only [Ny115.out, Ny119.out, List.length_set] using h_)
     have ql120 : ((2 : Int) < ((x3_1.length : Int) : Int)) = True := eq_true (ode_)
     (try have qn120 : (2 < x3_1.length) = True := eq_true (by have h_ : (2 : Int) < ((x3_1.length : Int) : Int) := ode_; omega))
     obtain ⟨ad120, e120, hx120_0⟩ := Kd.at_int (Kd.R_reads' HO_3.out).2.2 2 p120 q120
     obtain rfl : (⟨go13, 0, none⟩ : Addr) = ad120 := (by injection e120)
     (first | simp only [add_plain] at hx120_0 | simp only [add_at] at hx120_0 | simp only [Addr.add, Nat.zero_add] at hx120_0 | skip)
     have qi120 : (2 < y119.length) = True := eq_true (by omega)
     (try rw [show ((2 : Int)).toNat = 2 from rfl] at hx120_0)
     replace p120 := eq_true p120
     replace q120 := eq_true q120
     have p121 : 0 ≤ (x4_1 : Int) := ode_
     have q121 : x4_1 < (l0.length : Int) := ode_
     obtain ⟨ad121, e121, hx121_0, hx121_1⟩ := at_T34 HR0.out x4_1 p121 q121
     have hw121_1 := hx121_1
     have hw121_0 := hx121_0
     obtain rfl : ad105 = ad121 := (by injection e121)
     replace hx121_0 := hbc_ HB hx121_0
     replace hx121_1 := hbc_ HB hx121_1
     replace p121 := eq_true p121
     replace q121 := eq_true q121
     refine start_ (n := 12) (S := fun w' => w'.cell? ⟨go13, 2, none⟩ = some (.int .i64 (rd y119 2)) ∧ w'.cell? (ad105.add ((x4_1).toNat * 2)) = some (.int .i64 ((rd_T34 l0 x4_1).f0)) ∧ w'.cell? ⟨(ad105.add ((x4_1).toNat * 2)).block, (ad105.add ((x4_1).toNat * 2)).off + 1, none⟩ = some (.int .i64 ((rd_T34 l0 x4_1).f1))) (ds := [11]) (bm 12 0) (by kernel_rfl) rfl rfl ⟨hx120_0, (hbc_ HB hw121_0), (hbc_ HB hw121_1)⟩ (fun hHeld => ?_); refine with_tabW spec_BoxOf.tab9 spec_BoxOf.bits9 (fun HT_ HW_ => ?_)
     generalize w29.drew = w30 at HO_3 HB HQ28 hx120_0 hx121_0 hx121_1 hHeld ⊢
     refine plan_ ((0, 0, 54, 1) :: (0, 1, 55, 3) :: (0, 2, 56, 7) :: (0, 4, 58, 23) :: (0, 5, 59, 55) :: (0, 6, 60, 119) :: (0, 7, 61, 247) :: (2, 3, 57, 255) :: (2, 8, 62, 511) :: []) ?_
     iterate 9 (first | refine pV_ HT_ ?_ | refine pT_ HT_ HW_ hHeld ?_)
     refine planEnd_ ?_
     refine one_ (i := 9) (N := some 63) (bm 12 1023) rfl rfl (one_of HT_.out (by kernel_rfl)) (by decide) (fun K hK => ?_)
     refine goesO_ Tryz.func53 #[.int .i64 (rd y119 2), .int .i64 ((rd_T34 l0 x4_1).f0)] ?_
     with_reducible refine (spec_l1Max.calls (rd y119 2) ((rd_T34 l0 x4_1).f0) t122 _ A18.out).mono ?_
     rintro e w' ⟨rfl, ⟨nd, rfl⟩⟩
     refine ⟨_, rfl, ?_⟩
     have p19 : 0 ≤ (2 : Int) := (by omega)
     have q19 : (2 : Int) < ((x3_1.length : Int) : Int) := ode_
     have qi19 : (2 < x3_1.length) = True := eq_true (by omega)
     obtain ⟨hx19_0, hf19_0⟩ := Kd.R_celln 0 HO_3.out (2 : Int) p19 q19
     (try rw [show ((2 : Int)).toNat = 2 from rfl] at hx19_0)
     (try simp only [Nat.reduceMul, Nat.zero_mul, Nat.zero_add, Nat.reduceAdd] at hx19_0)
     (try rw [show ((2 : Int)).toNat = 2 from rfl] at hf19_0)
     (try simp only [Nat.reduceMul, Nat.zero_mul, Nat.zero_add, Nat.reduceAdd] at hf19_0)
     replace p19 := eq_true p19
     replace q19 := eq_true q19
     have HP31 := Kd.R_putn HO_3.out (2 : Int) t122
     rw [← Ny123.out] at HP31
     have HQ31 := aM_ HP31
     clear HP31
     refine hK.out _ _ ⟨hHeld.1, (hbc_ HB hw121_0), (hbc_ HB hw121_1)⟩ (fun hHeld => ?_)
     clear hK K
     refine nrm_ ?_
     refine plan_ ((0, 10, 64, 2047) :: []) ?_
     iterate 1 (first | refine pV_ HT_ ?_)
     refine planEnd_ ?_
     refine last_ (i := 11) (N := none) (bm 12 4095) rfl rfl (one_of HT_.out (by kernel_rfl)) (by decide) (fun K hK => ?_)
     refine skip_ (w1 := ?_) (by rfl) rfl ?_ ?_
     rotate_left
     ·go_simp
      rfl
     refine hK.out _ _ ?_
     clear hK K
     refine done_ (done_of HT_.out (by kernel_rfl)) ?_
     try go_wp2
     have n0_ : Aside0 (Kd.R (Kd.int .i64) 3 (w30.setCell ⟨go13, 2, none⟩ (.int .i64 t122)) w.heap.size (fun _ => True) (.slice (some ⟨go13, 0, none⟩) x3_1.length co24) y123) := ⟨kr_ HQ31⟩
     have n1_ : Aside0 (Below w.heap.size w (w30.setCell ⟨go13, 2, none⟩ (.int .i64 t122))) := ⟨bI_ HB GB13.out⟩
     (try clear HO_3)
     (try clear HB)
     (try rw [show (World.drewN w30 nd).setCell ⟨go13, 2, none⟩ (.int .i64 t122) = World.drewN (w30.setCell ⟨go13, 2, none⟩ (.int .i64 t122)) nd from rfl])
     generalize (w30.setCell ⟨go13, 2, none⟩ (.int .i64 t122)) = w32 at n0_ n1_ ⊢
     have HO_3 := n0_
     have HB := n1_
     clear n0_ n1_
     (try (rw [drewN_self w32]; generalize hq_ : World.drewN w32 _ = w32; have n0_ : Aside0 (Kd.R (Kd.int .i64) 3 w32 w.heap.size (fun _ => True) (.slice (some ⟨go13, 0, none⟩) x3_1.length co24) y123) := ⟨by rw [← hq_]; exact (kr_ HO_3)⟩; have n1_ : Aside0 (Below w.heap.size w w32) := ⟨by rw [← hq_]; exact (bB_ HB)⟩; clear HO_3 HB hq_; have HO_3 := n0_; have HB := n1_; clear n0_ n1_))
     replace HO_3 := aM_ (kD_ HO_3.out)
     replace HB := aM_ (bD_ HB.out)
     have p124 : 0 ≤ (3 : Int) := (by omega)
     have q124 : 3 < (y123.length : Int) := (by have h_ : (3 : Int) < ((x3_1.length : Int) : Int) := ode_; first | (have e_ := (Kd.R_reads' HO_3.out).1; omega) | simpa only [Ny115.out, Ny119.out, Ny123.out, List.length_set] using h_)
     have ql124 : ((3 : Int) < ((x3_1.length : Int) : Int)) = True := eq_true (ode_)
     (try have qn124 : (3 < x3_1.length) = True := eq_true (by have h_ : (3 : Int) < ((x3_1.length : Int) : Int) := ode_; omega))
     obtain ⟨ad124, e124, hx124_0⟩ := Kd.at_int (Kd.R_reads' HO_3.out).2.2 3 p124 q124
     obtain rfl : (⟨go13, 0, none⟩ : Addr) = ad124 := (by injection e124)
     (first | simp only [add_plain] at hx124_0 | simp only [add_at] at hx124_0 | simp only [Addr.add, Nat.zero_add] at hx124_0 | skip)
     have qi124 : (3 < y123.length) = True := eq_true (by omega)
     (try rw [show ((3 : Int)).toNat = 3 from rfl] at hx124_0)
     replace p124 := eq_true p124
     replace q124 := eq_true q124
     have p125 : 0 ≤ (x4_1 : Int) := ode_
     have q125 : x4_1 < (l0.length : Int) := ode_
     obtain ⟨ad125, e125, hx125_0, hx125_1⟩ := at_T34 HR0.out x4_1 p125 q125
     have hw125_1 := hx125_1
     have hw125_0 := hx125_0
     obtain rfl : ad105 = ad125 := (by injection e125)
     replace hx125_0 := hbc_ HB hx125_0
     replace hx125_1 := hbc_ HB hx125_1
     replace p125 := eq_true p125
     replace q125 := eq_true q125
     refine start_ (n := 12) (S := fun w' => w'.cell? ⟨go13, 3, none⟩ = some (.int .i64 (rd y123 3)) ∧ w'.cell? (ad105.add ((x4_1).toNat * 2)) = some (.int .i64 ((rd_T34 l0 x4_1).f0)) ∧ w'.cell? ⟨(ad105.add ((x4_1).toNat * 2)).block, (ad105.add ((x4_1).toNat * 2)).off + 1, none⟩ = some (.int .i64 ((rd_T34 l0 x4_1).f1))) (ds := [11]) (bm 12 0) (by kernel_rfl) rfl rfl ⟨hx124_0, (hbc_ HB hw125_0), (hbc_ HB hw125_1)⟩ (fun hHeld => ?_); refine with_tabW spec_BoxOf.tab10 spec_BoxOf.bits10 (fun HT_ HW_ => ?_)
     generalize w32.drew = w33 at HO_3 HB HQ31 hx124_0 hx125_0 hx125_1 hHeld ⊢
     refine plan_ ((0, 0, 65, 1) :: (0, 1, 66, 3) :: (0, 2, 67, 7) :: (0, 4, 69, 23) :: (0, 5, 70, 55) :: (0, 6, 71, 119) :: (0, 7, 72, 247) :: (2, 3, 68, 255) :: (2, 8, 73, 511) :: []) ?_
     iterate 9 (first | refine pV_ HT_ ?_ | refine pT_ HT_ HW_ hHeld ?_)
     refine planEnd_ ?_
     refine one_ (i := 9) (N := some 74) (bm 12 1023) rfl rfl (one_of HT_.out (by kernel_rfl)) (by decide) (fun K hK => ?_)
     refine goesO_ Tryz.func53 #[.int .i64 (rd y123 3), .int .i64 ((rd_T34 l0 x4_1).f1)] ?_
     with_reducible refine (spec_l1Max.calls (rd y123 3) ((rd_T34 l0 x4_1).f1) t126 _ A21.out).mono ?_
     rintro e w' ⟨rfl, ⟨nd, rfl⟩⟩
     refine ⟨_, rfl, ?_⟩
     have p22 : 0 ≤ (3 : Int) := (by omega)
     have q22 : (3 : Int) < ((x3_1.length : Int) : Int) := ode_
     have qi22 : (3 < x3_1.length) = True := eq_true (by omega)
     obtain ⟨hx22_0, hf22_0⟩ := Kd.R_celln 0 HO_3.out (3 : Int) p22 q22
     (try rw [show ((3 : Int)).toNat = 3 from rfl] at hx22_0)
     (try simp only [Nat.reduceMul, Nat.zero_mul, Nat.zero_add, Nat.reduceAdd] at hx22_0)
     (try rw [show ((3 : Int)).toNat = 3 from rfl] at hf22_0)
     (try simp only [Nat.reduceMul, Nat.zero_mul, Nat.zero_add, Nat.reduceAdd] at hf22_0)
     replace p22 := eq_true p22
     replace q22 := eq_true q22
     have HP34 := Kd.R_putn HO_3.out (3 : Int) t126
     rw [← Ny127.out] at HP34
     have HQ34 := aM_ HP34
     clear HP34
     refine hK.out _ _ ⟨hHeld.1, (hbc_ HB hw125_0), (hbc_ HB hw125_1)⟩ (fun hHeld => ?_)
     clear hK K
     refine nrm_ ?_
     refine plan_ ((0, 10, 75, 2047) :: []) ?_
     iterate 1 (first | refine pV_ HT_ ?_)
     refine planEnd_ ?_
     refine last_ (i := 11) (N := none) (bm 12 4095) rfl rfl (one_of HT_.out (by kernel_rfl)) (by decide) (fun K hK => ?_)
     refine skip_ (w1 := ?_) (by rfl) rfl ?_ ?_
     rotate_left
     ·go_simp
      rfl
     refine hK.out _ _ ?_
     clear hK K
     refine done_ (done_of HT_.out (by kernel_rfl)) ?_
     try go_wp2
     go_roundg k1
     case measure => have := HK1.out; omega
     case rel => exact ⟨(y127), (wrap64 (x4_1 + 1)), veq_, H', ⟨by have := HK1.out; omega⟩, ⟨kr_ HQ34⟩, ⟨bI_ HB GB13.out⟩⟩
    ·obtain rfl := Option.some.inj H
     go_wp2
     go_ret
     exact ⟨_, verr_, kr_ HO_3, bB_ HB⟩
 ·replace c3 := Bool.eq_false_iff.mpr c3
  subst c3
  rw [if_neg (show ¬ (false = true) by decide)] at H
  obtain ⟨y102, hy102⟩ : ∃ y_ : List Int, y_ = (([] : List Int)) := ⟨_, rfl⟩
  replace H : (some y102) = some r := by first | (rw [hy102]; with_reducible exact H) | (have H2_ := (Option.bind_some _ _).symm.trans H; rw [hy102]; with_reducible exact H2_) | (have H2_ := (Option.bind_some _ _).symm.trans H; with_reducible exact H2_) | with_reducible exact H | (rw [hy102]; exact H) | exact H
  have Ny102 := aM_ hy102
  clear hy102
  obtain rfl := Option.some.inj H
  go_enter Tryz.func33, Tryz.ntmps33
  go_wp2_with (first | ((with_reducible refine gate_callee (f := 9) rfl ?_); refine goesM_ (some 6) Tryz.func9 #[.slice A0 l0.length c0] ?_; (with_reducible refine (spec_ArePoints.calls k _ _ l0 false _ ?side1 ?side2 A2.out).mono ?_); (case side1 => repeat (first | exact HR0.out | (with_reducible refine Kd.C_alloc ?_ _) | (with_reducible refine Kd.C_drewN ?_ _) | (with_reducible refine Kd.C_drew ?_))); (case side2 => exact HC0.out); rintro e w35 ⟨rfl, hb⟩; refine ⟨_, rfl, ?_⟩; replace HB := aM_ (below_step (bB_ HB) hb); (try clear hb); (try clear hk)) | ((with_reducible refine gate_dst (N := 8) rfl ?_); refine Kd.R_lit (Kd.int .i64) _ 3 ?hg (N := 8) ?hd (xs := ([] : List Int)) (inner := []) (ok := fun _ => True) (okp := fun _ => True) ?hr ?hp (fun _ hk => hk) trivial (Below.refl _ _) (Nat.le_refl _) (by simp) ?_; (case hd => rfl); (case hg => rfl); (case hr => first | (go_simp; done) | (go_simp; rfl)); (case hp => exact (Reps.none _ _)); intro v103 w36 ho37 hb hg_ hnew_; clear hg_ hnew_; (first | rw [← Ny102.out] at ho37 | (simp only [Int.reduceToNat] at ho37; rw [← Ny102.out] at ho37)); have HO104 := aM_ (Kd.R_lower ho37 (below_size (bB_ HB))); replace HB := aM_ (below_step (bB_ HB) hb); clear hb ho37))
  go_ret
  exact ⟨_, verr_, kr_ HO104, bB_ HB⟩
end Go.Proofs.YteaagaekdkolnaaGreatDoor.P

namespace Go.Proofs.YteaagaekdkolnaaGreatDoor.P
open Go.RowKit Go.Proofs.YteaagaekdkolnaaGreatDoorW.PrintWords Go.Proofs.YteaagaekdkolnaaGreatDoorW.PrintLast Go.Proofs.YteaagaekdkolnaaGreatDoorW.PrintMore
attribute [local go_sem] max2_int min2_int max_two min_two max_three min_three max_four min_four   -- for this text's walks alone
set_option linter.unusedVariables false
set_option linter.unusedSimpArgs false
/-! ### spec_l1Bit: function 34 -/
def spec_l1Bit.f (a0 : Bool) : Option (Int) := if a0 = true then (some 1) else (some 0)
set_option maxHeartbeats 8000000 in
set_option maxRecDepth 100000 in
theorem spec_l1Bit.calls (a0 : Bool) (r : Int) (w : World) (h : spec_l1Bit.f a0 = some r) :
  Calls Tryz.prog 34 #[.bool a0] w fun e w' => e = .returned (.int .i64 r) ∧ Drawn0 w w' := by
 have H : (if a0 = true then (some 1) else (some 0)) = some r := h
 clear h
 by_cases c2 : a0 = true
 ·subst c2
  rw [if_pos rfl] at H
  obtain rfl := Option.some.inj H
  go_enter Tryz.func34, Tryz.ntmps34
  go_wp2
  go_ret
  exact ⟨veq_, by repeat (first | exact Drawn0.refl _ | apply Drawn0.step)⟩
 ·replace c2 := Bool.eq_false_iff.mpr c2
  subst c2
  rw [if_neg (show ¬ (false = true) by decide)] at H
  obtain rfl := Option.some.inj H
  go_enter Tryz.func34, Tryz.ntmps34
  go_wp2
  go_ret
  exact ⟨veq_, by repeat (first | exact Drawn0.refl _ | apply Drawn0.step)⟩
end Go.Proofs.YteaagaekdkolnaaGreatDoor.P

namespace Go.Proofs.YteaagaekdkolnaaGreatDoor.P
open Go.RowKit Go.Proofs.YteaagaekdkolnaaGreatDoorW.PrintWords Go.Proofs.YteaagaekdkolnaaGreatDoorW.PrintLast Go.Proofs.YteaagaekdkolnaaGreatDoorW.PrintMore
attribute [local go_sem] max2_int min2_int max_two min_two max_three min_three max_four min_four   -- for this text's walks alone
set_option linter.unusedVariables false
set_option linter.unusedSimpArgs false
/-! ### spec_l28Inside: function 35 -/
def spec_l28Inside.l0 : Nat → List (S34) → Int → Int → Int → Option (Bool)
 | 0, _, _, _, _ => none
 | k + 1, x0, x5, x102000, x102001 => if x5 < (x0.length : Int) then (if 0 ≤ x5 then (if (x0.length : Int) = 0 then (none) else (if 0 ≤ (Int.tmod (wrap64 (x5 + 1)) (x0.length : Int)) then (if (Int.tmod (wrap64 (x5 + 1)) (x0.length : Int)) < (x0.length : Int) then ((spec_l2Area.f ((rd_T34 x0 x5).f0) ((rd_T34 x0 x5).f1) ((rd_T34 x0 (Int.tmod (wrap64 (x5 + 1)) (x0.length : Int))).f0) ((rd_T34 x0 (Int.tmod (wrap64 (x5 + 1)) (x0.length : Int))).f1) x102000 x102001).bind fun t104 => (if t104 ≤ 0 then (some false) else (spec_l28Inside.l0 k x0 (wrap64 (x5 + 1)) x102000 x102001))) else (none)) else (none))) else (none)) else (some true)
def spec_l28Inside.f (k : Nat) (l0 : List (S34)) (a1_0 : Int) (a1_1 : Int) : Option (Bool) := spec_l28Inside.l0 k l0 0 a1_0 a1_1
def spec_l28Inside.T4 : Bool × List (List Nat × List Nat) := (true, [([], []), ([], []), ([0, 1], [0, 1]), ([2], [2]), ([], []), ([], []), ([5], [5]), ([], []), ([7], [7]), ([6, 8], [6, 8]), ([4, 9], [4, 9]), ([10], [10]), ([], []), ([3, 11, 12], [3, 11, 12]), ([13], [13])])
def spec_l28Inside.B4 : List Nat := [0, 0, 3, 7, 0, 0, 32, 0, 128, 480, 1008, 2032, 0, 8191, 16383]
theorem spec_l28Inside.tab4 : rtab .any (opsOf Tryz.f35 4) = spec_l28Inside.T4 := by kernel_rfl
theorem spec_l28Inside.bits4 : waitsOk spec_l28Inside.T4.2 spec_l28Inside.B4 = true := by kernel_rfl
set_option maxHeartbeats 8000000 in
set_option maxRecDepth 100000 in
theorem spec_l28Inside.calls (k : Nat) (A0 : Option Addr) (c0 : Nat) (l0 : List (S34)) (a1_0 : Int) (a1_1 : Int) (r : Bool) (w : World) (hr0 : Kd.C k34 w A0 l0.length l0) (hc0 : l0.length ≤ c0) (h : spec_l28Inside.f k l0 a1_0 a1_1 = some r) :
  Calls Tryz.prog 35 #[.slice A0 l0.length c0, .agg #[.int .i64 a1_0, .int .i64 a1_1]] w fun e w' => e = .returned (.bool r) ∧ Below w.heap.size w w' := by
 have hu34 := Tryz.underlying34
 have HR0 := aM_ hr0
 have HC0 := aM_ hc0
 clear hr0 hc0
 have HB := aM_ (Below.refl w.heap.size w)
 have H : (spec_l28Inside.l0 k l0 0 a1_0 a1_1) = some r := h
 clear h
 have H' := aM_ H
 clear H
 go_enter Tryz.func35, Tryz.ntmps35
 go_wp2_with (first | ((with_reducible refine gate_dst (N := 3) rfl ?_); refine boxE_ (N := 3) #[.int .i64 a1_0, .int .i64 a1_1] 34 ?_; intro gb101 hg w3 hbox hb; have BK101 := aM_ (hbox); have GW101 := aM_ ((bs_ HB hg)); have GE101 := aM_ ((bs_ HB hg)); replace HB := aM_ (below_step (bB_ HB) hb); clear hb hbox hg))
 go_loopg [5] k (fun kq v5 w' => ∃ (x5_1 : Int), v5 = .int .i64 x5_1 ∧ Aside0 (spec_l28Inside.l0 kq l0 x5_1 a1_0 a1_1 = some r) ∧ Aside0 (kq ≤ k) ∧ Aside0 (w'.heap[gb101]? = some (.cells #[.int .i64 a1_0, .int .i64 a1_1] 34 (0, 0))) ∧ Aside0 (Below w.heap.size w w'))
 case atStart => exact ⟨(0), veq_, H', ⟨Nat.le_refl _⟩, ⟨bk_ BK101⟩, ⟨bB_ HB⟩⟩
 case round =>
  clear H'
  obtain ⟨x5_1, rfl, HA, HK1, BK101, HB⟩ := hrel
  cases gk with
  | zero => exact absurd HA.out (by simp [spec_l28Inside.l0])
  | succ k1 =>
   have H := HA.out
   clear HA
   simp only [spec_l28Inside.l0] at H
   rcases ifd_ H with ⟨c4b0, H⟩ | ⟨c4b0, H⟩
   ·obtain ⟨c5b0, H⟩ := ifn_ H
    obtain ⟨c6, H⟩ := ifm_ H
    have c6b0 : ((l0.length : Int) == 0) = false := beq_eq_false_iff_ne.mpr c6
    have c6b1 : ((l0.length : Int) != 0) = true := bne_iff_ne.mpr c6
    have c6b2 : ¬ (l0 = []) := fun h_ => c6 (by rw [h_]; rfl)
    obtain ⟨ji7, hji7⟩ : ∃ j_ : Int, (Int.tmod (wrap64 (x5_1 + 1)) (l0.length : Int)) = j_ := ⟨_, rfl⟩
    replace H : (if 0 ≤ (ji7) then (if (ji7) < (l0.length : Int) then ((spec_l2Area.f ((rd_T34 l0 x5_1).f0) ((rd_T34 l0 x5_1).f1) ((rd_T34 l0 (ji7)).f0) ((rd_T34 l0 (ji7)).f1) a1_0 a1_1).bind fun t104 => (if t104 ≤ 0 then (some false) else (spec_l28Inside.l0 k1 l0 (wrap64 (x5_1 + 1)) a1_0 a1_1))) else (none)) else (none)) = some r := by first | (rw [hji7] at H; exact H) | (simp only [hji7] at H ⊢; exact H)
    obtain ⟨c8b0, H⟩ := ifn_ H
    obtain ⟨c9b0, H⟩ := ifn_ H
    replace H := oB_ H
    obtain ⟨t104, A100, H⟩ := H
    have A10 := aM_ A100
    clear A100
    rcases ifd_ H with ⟨c11b0, H⟩ | ⟨c11b0, H⟩
    ·obtain rfl := Option.some.inj H
     try go_wp2
     replace BK101 := aM_ (blk_drew BK101.out)
     replace HB := aM_ (bD_ HB.out)
     have p102 : 0 ≤ (x5_1 : Int) := ode_
     have q102 : x5_1 < (l0.length : Int) := ode_
     obtain ⟨ad102, e102, hx102_0, hx102_1⟩ := at_T34 HR0.out x5_1 p102 q102
     have hw102_1 := hx102_1
     have hw102_0 := hx102_0
     cases e102
     replace hx102_0 := hbc_ HB hx102_0
     replace hx102_1 := hbc_ HB hx102_1
     replace p102 := eq_true p102
     replace q102 := eq_true q102
     have p103 : 0 ≤ ((ji7) : Int) := ode_
     have q103 : (ji7) < (l0.length : Int) := ode_
     obtain ⟨ad103, e103, hx103_0, hx103_1⟩ := at_T34 HR0.out (ji7) p103 q103
     have hw103_1 := hx103_1
     have hw103_0 := hx103_0
     obtain rfl : ad102 = ad103 := (by injection e103)
     replace hx103_0 := hbc_ HB hx103_0
     replace hx103_1 := hbc_ HB hx103_1
     replace p103 := eq_true p103
     replace q103 := eq_true q103
     refine start_ (n := 15) (S := fun w' => w'.cell? ⟨gb101, 0, none⟩ = some (.int .i64 a1_0) ∧ w'.cell? ⟨gb101, 1, none⟩ = some (.int .i64 a1_1) ∧ w'.cell? (ad102.add ((x5_1).toNat * 2)) = some (.int .i64 ((rd_T34 l0 x5_1).f0)) ∧ w'.cell? ⟨(ad102.add ((x5_1).toNat * 2)).block, (ad102.add ((x5_1).toNat * 2)).off + 1, none⟩ = some (.int .i64 ((rd_T34 l0 x5_1).f1)) ∧ w'.cell? (ad102.add (((ji7)).toNat * 2)) = some (.int .i64 ((rd_T34 l0 (ji7)).f0)) ∧ w'.cell? ⟨(ad102.add (((ji7)).toNat * 2)).block, (ad102.add (((ji7)).toNat * 2)).off + 1, none⟩ = some (.int .i64 ((rd_T34 l0 (ji7)).f1))) (ds := []) (bm 15 0) (by kernel_rfl) rfl rfl ⟨bc_ BK101 0, bc_ BK101 1, (hbc_ HB hw102_0), (hbc_ HB hw102_1), (hbc_ HB hw103_0), (hbc_ HB hw103_1)⟩ (fun hHeld => ?_); refine with_tabW spec_l28Inside.tab4 spec_l28Inside.bits4 (fun HT_ HW_ => ?_)
     generalize wr.drew = w12 at BK101 HB hx102_0 hx102_1 hx103_0 hx103_1 hHeld ⊢
     refine plan_ ((0, 0, 12, 1) :: (0, 1, 13, 3) :: (0, 2, 14, 7) :: (0, 4, 16, 23) :: (0, 5, 17, 55) :: (0, 6, 18, 119) :: (0, 7, 19, 247) :: (0, 8, 20, 503) :: (0, 9, 21, 1015) :: (0, 10, 22, 2039) :: (2, 3, 15, 2047) :: (2, 11, 23, 4095) :: (2, 12, 24, 8191) :: []) ?_
     iterate 13 (first | refine pV_ HT_ ?_ | refine pT_ HT_ HW_ hHeld ?_)
     refine planEnd_ ?_
     refine one_ (i := 13) (N := some 25) (bm 15 16383) rfl rfl (one_of HT_.out (by kernel_rfl)) (by decide) (fun K hK => ?_)
     refine goes_ Tryz.func28 (by kernel_rfl) rfl #[.agg #[.int .i64 ((rd_T34 l0 x5_1).f0), .int .i64 ((rd_T34 l0 x5_1).f1)], .agg #[.int .i64 ((rd_T34 l0 (ji7)).f0), .int .i64 ((rd_T34 l0 (ji7)).f1)], .agg #[.int .i64 a1_0, .int .i64 a1_1]] (by rfl) rfl rfl (by (try simp only [List.map_toArray, List.map_cons, List.map_nil]); first | done | (simp only [hji7]; rfl) | rfl | (simp only [List.length_drop, List.length_take]; rfl)) ?_
     with_reducible refine (spec_l2Area.calls ((rd_T34 l0 x5_1).f0) ((rd_T34 l0 x5_1).f1) ((rd_T34 l0 (ji7)).f0) ((rd_T34 l0 (ji7)).f1) a1_0 a1_1 t104 _ A10.out).mono ?_
     rintro e w13 ⟨rfl, hb⟩
     refine ⟨_, rfl, ?_⟩
     replace BK101 := aM_ (bkb_ BK101 hb)
     replace HB := aM_ (below_step (bB_ HB) hb)
     (try clear hb)
     refine hK.out _ _ ⟨bc_ BK101 0, bc_ BK101 1, (hbc_ HB hw102_0), (hbc_ HB hw102_1), (hbc_ HB hw103_0), (hbc_ HB hw103_1)⟩ (fun hHeld => ?_)
     clear hK K
     refine nrm_ ?_
     refine plan_ ((0, 14, 26, 32767) :: []) ?_
     iterate 1 (first | refine pV_ HT_ ?_)
     refine planEnd_ ?_
     refine done_ (done_of HT_.out (by kernel_rfl)) ?_
     try go_wp2
     go_ret
     exact ⟨by first | rfl | (simp [errW_none, errW_some] <;> rfl) | (simp only [← hji7]; first | rfl | (simp [errW_none, errW_some] <;> rfl)) | (simp [*, errW_none, errW_some] <;> rfl), bB_ HB⟩
    ·have H' := aM_ H
     clear H
     try go_wp2
     replace BK101 := aM_ (blk_drew BK101.out)
     replace HB := aM_ (bD_ HB.out)
     have p102 : 0 ≤ (x5_1 : Int) := ode_
     have q102 : x5_1 < (l0.length : Int) := ode_
     obtain ⟨ad102, e102, hx102_0, hx102_1⟩ := at_T34 HR0.out x5_1 p102 q102
     have hw102_1 := hx102_1
     have hw102_0 := hx102_0
     cases e102
     replace hx102_0 := hbc_ HB hx102_0
     replace hx102_1 := hbc_ HB hx102_1
     replace p102 := eq_true p102
     replace q102 := eq_true q102
     have p103 : 0 ≤ ((ji7) : Int) := ode_
     have q103 : (ji7) < (l0.length : Int) := ode_
     obtain ⟨ad103, e103, hx103_0, hx103_1⟩ := at_T34 HR0.out (ji7) p103 q103
     have hw103_1 := hx103_1
     have hw103_0 := hx103_0
     obtain rfl : ad102 = ad103 := (by injection e103)
     replace hx103_0 := hbc_ HB hx103_0
     replace hx103_1 := hbc_ HB hx103_1
     replace p103 := eq_true p103
     replace q103 := eq_true q103
     refine start_ (n := 15) (S := fun w' => w'.cell? ⟨gb101, 0, none⟩ = some (.int .i64 a1_0) ∧ w'.cell? ⟨gb101, 1, none⟩ = some (.int .i64 a1_1) ∧ w'.cell? (ad102.add ((x5_1).toNat * 2)) = some (.int .i64 ((rd_T34 l0 x5_1).f0)) ∧ w'.cell? ⟨(ad102.add ((x5_1).toNat * 2)).block, (ad102.add ((x5_1).toNat * 2)).off + 1, none⟩ = some (.int .i64 ((rd_T34 l0 x5_1).f1)) ∧ w'.cell? (ad102.add (((ji7)).toNat * 2)) = some (.int .i64 ((rd_T34 l0 (ji7)).f0)) ∧ w'.cell? ⟨(ad102.add (((ji7)).toNat * 2)).block, (ad102.add (((ji7)).toNat * 2)).off + 1, none⟩ = some (.int .i64 ((rd_T34 l0 (ji7)).f1))) (ds := []) (bm 15 0) (by kernel_rfl) rfl rfl ⟨bc_ BK101 0, bc_ BK101 1, (hbc_ HB hw102_0), (hbc_ HB hw102_1), (hbc_ HB hw103_0), (hbc_ HB hw103_1)⟩ (fun hHeld => ?_); refine with_tabW spec_l28Inside.tab4 spec_l28Inside.bits4 (fun HT_ HW_ => ?_)
     generalize wr.drew = w14 at BK101 HB hx102_0 hx102_1 hx103_0 hx103_1 hHeld ⊢
     refine plan_ ((0, 0, 12, 1) :: (0, 1, 13, 3) :: (0, 2, 14, 7) :: (0, 4, 16, 23) :: (0, 5, 17, 55) :: (0, 6, 18, 119) :: (0, 7, 19, 247) :: (0, 8, 20, 503) :: (0, 9, 21, 1015) :: (0, 10, 22, 2039) :: (2, 3, 15, 2047) :: (2, 11, 23, 4095) :: (2, 12, 24, 8191) :: []) ?_
     iterate 13 (first | refine pV_ HT_ ?_ | refine pT_ HT_ HW_ hHeld ?_)
     refine planEnd_ ?_
     refine one_ (i := 13) (N := some 25) (bm 15 16383) rfl rfl (one_of HT_.out (by kernel_rfl)) (by decide) (fun K hK => ?_)
     refine goes_ Tryz.func28 (by kernel_rfl) rfl #[.agg #[.int .i64 ((rd_T34 l0 x5_1).f0), .int .i64 ((rd_T34 l0 x5_1).f1)], .agg #[.int .i64 ((rd_T34 l0 (ji7)).f0), .int .i64 ((rd_T34 l0 (ji7)).f1)], .agg #[.int .i64 a1_0, .int .i64 a1_1]] (by rfl) rfl rfl (by (try simp only [List.map_toArray, List.map_cons, List.map_nil]); first | done | (simp only [hji7]; rfl) | rfl | (simp only [List.length_drop, List.length_take]; rfl)) ?_
     with_reducible refine (spec_l2Area.calls ((rd_T34 l0 x5_1).f0) ((rd_T34 l0 x5_1).f1) ((rd_T34 l0 (ji7)).f0) ((rd_T34 l0 (ji7)).f1) a1_0 a1_1 t104 _ A10.out).mono ?_
     rintro e w15 ⟨rfl, hb⟩
     refine ⟨_, rfl, ?_⟩
     replace BK101 := aM_ (bkb_ BK101 hb)
     replace HB := aM_ (below_step (bB_ HB) hb)
     (try clear hb)
     refine hK.out _ _ ⟨bc_ BK101 0, bc_ BK101 1, (hbc_ HB hw102_0), (hbc_ HB hw102_1), (hbc_ HB hw103_0), (hbc_ HB hw103_1)⟩ (fun hHeld => ?_)
     clear hK K
     refine nrm_ ?_
     refine plan_ ((0, 14, 26, 32767) :: []) ?_
     iterate 1 (first | refine pV_ HT_ ?_)
     refine planEnd_ ?_
     refine done_ (done_of HT_.out (by kernel_rfl)) ?_
     try go_wp2
     go_roundg k1
     case measure => have := HK1.out; omega
     case rel => exact ⟨(wrap64 (x5_1 + 1)), veq_, H', ⟨by have := HK1.out; omega⟩, ⟨bk_ BK101⟩, ⟨bB_ HB⟩⟩
   ·obtain rfl := Option.some.inj H
    go_wp2
    go_ret
    exact ⟨verr_, bB_ HB⟩
end Go.Proofs.YteaagaekdkolnaaGreatDoor.P

namespace Go.Proofs.YteaagaekdkolnaaGreatDoor.P
open Go.RowKit Go.Proofs.YteaagaekdkolnaaGreatDoorW.PrintWords Go.Proofs.YteaagaekdkolnaaGreatDoorW.PrintLast Go.Proofs.YteaagaekdkolnaaGreatDoorW.PrintMore
attribute [local go_sem] max2_int min2_int max_two min_two max_three min_three max_four min_four   -- for this text's walks alone
set_option linter.unusedVariables false
set_option linter.unusedSimpArgs false
/-! ### spec_InnerPoints: function 13 -/
mutual
def spec_InnerPoints.l0 : Nat → Int → List (S34) → List Int → Int → Option (Int)
 | 0, _, _, _, _ => none
 | k + 1, x3, x4, x5, x6 => if 2 < (x5.length : Int) then (if x6 ≤ (rd x5 2) then (if 1 < (x5.length : Int) then (spec_InnerPoints.l1 k x3 x4 x5 x6 (rd x5 1)) else (none)) else (some x3)) else (none)
def spec_InnerPoints.l1 : Nat → Int → List (S34) → List Int → Int → Int → Option (Int)
 | 0, _, _, _, _, _ => none
 | k + 1, x3, x4, x5, x6, x7 => if 3 < (x5.length : Int) then (if x7 ≤ (rd x5 3) then ((spec_l28Inside.f k x4 x6 x7).bind fun t112 => ((spec_l1Bit.f t112).bind fun t113 => (spec_InnerPoints.l1 k (wrap64 (x3 + t113)) x4 x5 x6 (wrap64 (x7 + 1))))) else (spec_InnerPoints.l0 k x3 x4 x5 (wrap64 (x6 + 1)))) else (none)
end
def spec_InnerPoints.f (k : Nat) (l0 : List (S34)) : Option (Int) := (spec_ArePoints.f k l0).bind fun t101 => (if t101 = true then ((spec_l28Hull.f k l0).bind fun t102 => ((spec_BoxOf.f k l0).bind fun t105 => (if 0 < (t105.length : Int) then (spec_InnerPoints.l0 k 0 t102 t105 (rd t105 0)) else (none)))) else (some (-1)))
set_option maxHeartbeats 8000000 in
set_option maxRecDepth 100000 in
theorem spec_InnerPoints.calls (k : Nat) (A0 : Option Addr) (c0 : Nat) (l0 : List (S34)) (r : Int) (w : World) (hr0 : Kd.C k34 w A0 l0.length l0) (hc0 : l0.length ≤ c0) (h : spec_InnerPoints.f k l0 = some r) :
  Calls Tryz.prog 13 #[.slice A0 l0.length c0] w fun e w' => e = .returned (.int .i64 r) ∧ Below w.heap.size w w' := by
 have hu34 := Tryz.underlying34
 have HR0 := aM_ hr0
 have HC0 := aM_ hc0
 clear hr0 hc0
 have HB := aM_ (Below.refl w.heap.size w)
 have H : ((spec_ArePoints.f k l0).bind fun t101 => (if t101 = true then ((spec_l28Hull.f k l0).bind fun t102 => ((spec_BoxOf.f k l0).bind fun t105 => (if 0 < (t105.length : Int) then (spec_InnerPoints.l0 k 0 t102 t105 (rd t105 0)) else (none)))) else (some (-1)))) = some r := h
 clear h
 replace H := oB_ H
 obtain ⟨t101, A20, H⟩ := H
 have A2 := aM_ A20
 clear A20
 by_cases c3 : t101 = true
 ·subst c3
  rw [if_pos rfl] at H
  replace H := oB_ H
  obtain ⟨t102, A40, H⟩ := H
  have A4 := aM_ A40
  clear A40
  replace H := oB_ H
  obtain ⟨t105, A50, H⟩ := H
  have A5 := aM_ A50
  clear A50
  obtain ⟨c6, H⟩ := ifp_ H
  have c6b0 := decide_eq_true c6
  have c6b1 : decide (0 < t105.length) = true := decide_eq_true (by omega)
  clear c6
  have H' := aM_ H
  clear H
  go_enter Tryz.func13, Tryz.ntmps13
  go_wp2_with (first | ((with_reducible refine gate_callee (f := 9) rfl ?_); refine goesM_ (some 9) Tryz.func9 #[.slice A0 l0.length c0] ?_; (with_reducible refine (spec_ArePoints.calls k _ _ l0 true _ ?side1 ?side2 A2.out).mono ?_); (case side1 => repeat (first | exact HR0.out | (with_reducible refine Kd.C_alloc ?_ _) | (with_reducible refine Kd.C_drewN ?_ _) | (with_reducible refine Kd.C_drew ?_))); (case side2 => exact HC0.out); rintro e w7 ⟨rfl, hb⟩; refine ⟨_, rfl, ?_⟩; replace HB := aM_ (below_step (bB_ HB) hb); (try clear hb)) | ((with_reducible refine gate_callee (f := 31) rfl ?_); refine goesM_ (some 12) Tryz.func31 #[.slice A0 l0.length c0] ?_; (with_reducible refine (spec_l28Hull.calls k _ _ l0 t102 _ ?side1 ?side2 A4.out).mono ?_); (case side1 => repeat (first | exact (Kd.C_below HR0.out HB.out) | (with_reducible refine Kd.C_alloc ?_ _) | (with_reducible refine Kd.C_drewN ?_ _) | (with_reducible refine Kd.C_drew ?_))); (case side2 => exact HC0.out); rintro e w8 ⟨v103, rfl, ho0, hb⟩; refine ⟨_, rfl, ?_⟩; have HO104 := aM_ (Kd.R_lower ho0 (below_size (bB_ HB))); replace HB := aM_ (below_step (bB_ HB) hb); (try clear hb); (try clear ho0)) | ((with_reducible refine gate_callee (f := 33) rfl ?_); refine goesM_ (some 14) Tryz.func33 #[.slice A0 l0.length c0] ?_; (with_reducible refine (spec_BoxOf.calls k _ _ l0 t105 _ ?side1 ?side2 A5.out).mono ?_); (case side1 => repeat (first | exact (Kd.C_below HR0.out HB.out) | (with_reducible refine Kd.C_alloc ?_ _) | (with_reducible refine Kd.C_drewN ?_ _) | (with_reducible refine Kd.C_drew ?_))); (case side2 => exact HC0.out); rintro e w9 ⟨v106, rfl, ho0, hb⟩; refine ⟨_, rfl, ?_⟩; replace HO104 := aM_ (Kd.R_below (kr_ HO104) hb); have HO107 := aM_ (Kd.R_lower ho0 (below_size (bB_ HB))); replace HB := aM_ (below_step (bB_ HB) hb); (try clear hb); (try clear ho0); obtain ⟨Ao10, co10, eo10⟩ := Kd.R_slice HO107.out; subst eo10; have p108 : 0 ≤ (0 : Int) := (by omega); have q108 : 0 < (t105.length : Int) := ode_; obtain ⟨ad108, e108, hx108_0⟩ := Kd.at_int (Kd.R_reads' HO107.out).2.2 0 p108 q108; cases e108; have qi108 : (0 < t105.length) = True := eq_true (by omega); (try rw [show ((0 : Int)).toNat = 0 from rfl] at hx108_0); (try rw [Addr.add_zero'] at hx108_0); replace p108 := eq_true p108; replace q108 := eq_true q108))
  go_loopg [3, 6] k (fun kq v3 v6 w' => ∃ (x3_1 : Int) (x6_1 : Int), v3 = .int .i64 x3_1 ∧ v6 = .int .i64 x6_1 ∧ Aside0 (spec_InnerPoints.l0 kq x3_1 t102 t105 x6_1 = some r) ∧ Aside0 (kq ≤ k) ∧ Aside0 (Kd.R k34 34 w' w.heap.size (fun _ => True) v103 t102) ∧ Aside0 (Kd.R (Kd.int .i64) 3 w' w.heap.size (fun _ => True) (.slice (some ad108) t105.length co10) t105) ∧ Aside0 (Below w.heap.size w w'))
  case atStart => exact ⟨(0), (rd t105 0), veq_, veq_, H', ⟨Nat.le_refl _⟩, ⟨kr_ HO104⟩, ⟨kr_ HO107⟩, ⟨bB_ HB⟩⟩
  case round =>
   clear H'
   try clear c3
   try clear c6
   try clear c6b0
   try clear c6b1
   try clear hx108_0
   try clear p108
   try clear q108
   obtain ⟨x3_1, x6_1, rfl, rfl, HA, HK1, HO_4, HO_5, HB⟩ := hrel
   cases gk with
   | zero => exact absurd HA.out (by simp [spec_InnerPoints.l0])
   | succ k1 =>
    have H := HA.out
    clear HA
    simp only [spec_InnerPoints.l0] at H
    obtain ⟨c11, H⟩ := ifp_ H
    have c11b0 := decide_eq_true c11
    have c11b1 : decide (2 < t105.length) = true := decide_eq_true (by omega)
    clear c11
    rcases ifd_ H with ⟨c12b0, H⟩ | ⟨c12b0, H⟩
    ·obtain ⟨c13, H⟩ := ifp_ H
     have c13b0 := decide_eq_true c13
     have c13b1 : decide (1 < t105.length) = true := decide_eq_true (by omega)
     clear c13
     have H' := aM_ H
     clear H
     have p109 : 0 ≤ (2 : Int) := (by omega)
     have q109 : 2 < (t105.length : Int) := ode_
     obtain ⟨ad109, e109, hx109_0⟩ := Kd.at_int (Kd.R_reads' HO_5.out).2.2 2 p109 q109
     obtain rfl : ad108 = ad109 := (by injection e109)
     (try simp only [show (2 : Int).toNat = 2 from rfl, Nat.reduceMul, Nat.reduceEqDiff, Go.Addr.add, ↓reduceIte] at hx109_0)
     have qi109 : (2 < t105.length) = True := eq_true (by omega)
     (try rw [show ((2 : Int)).toNat = 2 from rfl] at hx109_0)
     replace p109 := eq_true p109
     replace q109 := eq_true q109
     have p110 : 0 ≤ (1 : Int) := (by omega)
     have q110 : 1 < (t105.length : Int) := ode_
     obtain ⟨ad110, e110, hx110_0⟩ := Kd.at_int (Kd.R_reads' HO_5.out).2.2 1 p110 q110
     obtain rfl : ad108 = ad110 := (by injection e110)
     (try simp only [show (1 : Int).toNat = 1 from rfl, Nat.reduceMul, Nat.reduceEqDiff, Go.Addr.add, ↓reduceIte] at hx110_0)
     have qi110 : (1 < t105.length) = True := eq_true (by omega)
     (try rw [show ((1 : Int)).toNat = 1 from rfl] at hx110_0)
     replace p110 := eq_true p110
     replace q110 := eq_true q110
     go_wp2
     go_loopg [3, 7] k1 (fun kq v3 v7 w' => ∃ (x3_2 : Int) (x7_2 : Int), v3 = .int .i64 x3_2 ∧ v7 = .int .i64 x7_2 ∧ Aside0 (spec_InnerPoints.l1 kq x3_2 t102 t105 x6_1 x7_2 = some r) ∧ Aside0 (kq ≤ k1) ∧ Aside0 (Kd.R k34 34 w' w.heap.size (fun _ => True) v103 t102) ∧ Aside0 (Kd.R (Kd.int .i64) 3 w' w.heap.size (fun _ => True) (.slice (some ad108) t105.length co10) t105) ∧ Aside0 (Below w.heap.size w w'))
     case atStart => exact ⟨(x3_1), (rd t105 1), veq_, veq_, H', ⟨Nat.le_refl _⟩, ⟨kr_ HO_4⟩, ⟨kr_ HO_5⟩, ⟨bB_ HB⟩⟩
     case round =>
      clear H'
      try clear c3
      try clear c6
      try clear c6b0
      try clear c6b1
      try clear c11
      try clear c11b0
      try clear c11b1
      try clear c12b0
      try clear c13
      try clear c13b0
      try clear c13b1
      try clear hx108_0
      try clear hx109_0
      try clear hx110_0
      try clear p108
      try clear p109
      try clear p110
      try clear q108
      try clear q109
      try clear q110
      obtain ⟨x3_2, x7_2, rfl, rfl, HA, HK2, HO_4, HO_5, HB⟩ := hrel
      cases gk with
      | zero => exact absurd HA.out (by simp [spec_InnerPoints.l1])
      | succ k2 =>
       have H := HA.out
       clear HA
       simp only [spec_InnerPoints.l1] at H
       obtain ⟨c14, H⟩ := ifp_ H
       have c14b0 := decide_eq_true c14
       have c14b1 : decide (3 < t105.length) = true := decide_eq_true (by omega)
       clear c14
       rcases ifd_ H with ⟨c15b0, H⟩ | ⟨c15b0, H⟩
       ·replace H := oB_ H
        obtain ⟨t112, A160, H⟩ := H
        have A16 := aM_ A160
        clear A160
        replace H := oB_ H
        obtain ⟨t113, A170, H⟩ := H
        have A17 := aM_ A170
        clear A170
        have H' := aM_ H
        clear H
        have p111 : 0 ≤ (3 : Int) := (by omega)
        have q111 : 3 < (t105.length : Int) := ode_
        obtain ⟨ad111, e111, hx111_0⟩ := Kd.at_int (Kd.R_reads' HO_5.out).2.2 3 p111 q111
        obtain rfl : ad108 = ad111 := (by injection e111)
        (try simp only [show (3 : Int).toNat = 3 from rfl, Nat.reduceMul, Nat.reduceEqDiff, Go.Addr.add, ↓reduceIte] at hx111_0)
        have qi111 : (3 < t105.length) = True := eq_true (by omega)
        (try rw [show ((3 : Int)).toNat = 3 from rfl] at hx111_0)
        replace p111 := eq_true p111
        replace q111 := eq_true q111
        obtain ⟨Ao18, co18, eo18⟩ := Kd.R_slice HO_4.out
        subst eo18
        go_wp2_with (first | ((with_reducible refine gate_callee (f := 35) rfl ?_); refine goesM_ (some 40) Tryz.func35 #[.slice Ao18 t102.length co18, .agg #[.int .i64 x6_1, .int .i64 x7_2]] ?_; (with_reducible refine (spec_l28Inside.calls k2 _ _ t102 x6_1 x7_2 t112 _ ?side1 ?side2 A16.out).mono ?_); (case side1 => repeat (first | exact (Kd.R_reads' HO_4.out).2.2 | (with_reducible refine Kd.C_alloc ?_ _) | (with_reducible refine Kd.C_drewN ?_ _) | (with_reducible refine Kd.C_drew ?_))); (case side2 => exact (Kd.R_reads' HO_4.out).2.1); rintro e w19 ⟨rfl, hb⟩; refine ⟨_, rfl, ?_⟩; replace HO_4 := aM_ (Kd.R_below (kr_ HO_4) hb); replace HO_5 := aM_ (Kd.R_below (kr_ HO_5) hb); replace HB := aM_ (below_step (bB_ HB) hb); (try clear hb)) | ((with_reducible refine gate_callee (f := 34) rfl ?_); refine goesM_ (some 41) Tryz.func34 #[.bool t112] ?_; (with_reducible refine (spec_l1Bit.calls t112 t113 _ A17.out).mono ?_); rintro e w' ⟨rfl, ⟨nd, rfl⟩⟩; refine ⟨_, rfl, ?_⟩))
        go_roundg k2
        case measure => have := HK1.out; have := HK2.out; omega
        case rel => exact ⟨(wrap64 (x3_2 + t113)), (wrap64 (x7_2 + 1)), veq_, veq_, H', ⟨by have := HK1.out; have := HK2.out; omega⟩, ⟨kr_ HO_4⟩, ⟨kr_ HO_5⟩, ⟨bB_ HB⟩⟩
       ·have H' := aM_ H
        clear H
        have p111 : 0 ≤ (3 : Int) := (by omega)
        have q111 : 3 < (t105.length : Int) := ode_
        obtain ⟨ad111, e111, hx111_0⟩ := Kd.at_int (Kd.R_reads' HO_5.out).2.2 3 p111 q111
        obtain rfl : ad108 = ad111 := (by injection e111)
        (try simp only [show (3 : Int).toNat = 3 from rfl, Nat.reduceMul, Nat.reduceEqDiff, Go.Addr.add, ↓reduceIte] at hx111_0)
        have qi111 : (3 < t105.length) = True := eq_true (by omega)
        (try rw [show ((3 : Int)).toNat = 3 from rfl] at hx111_0)
        replace p111 := eq_true p111
        replace q111 := eq_true q111
        go_wp2
        go_roundg k2
        case measure => have := HK1.out; have := HK2.out; omega
        case rel => exact ⟨(x3_2), (wrap64 (x6_1 + 1)), veq_, veq_, H', ⟨by have := HK1.out; have := HK2.out; omega⟩, ⟨kr_ HO_4⟩, ⟨kr_ HO_5⟩, ⟨bB_ HB⟩⟩
    ·obtain rfl := Option.some.inj H
     have p109 : 0 ≤ (2 : Int) := (by omega)
     have q109 : 2 < (t105.length : Int) := ode_
     obtain ⟨ad109, e109, hx109_0⟩ := Kd.at_int (Kd.R_reads' HO_5.out).2.2 2 p109 q109
     obtain rfl : ad108 = ad109 := (by injection e109)
     (try simp only [show (2 : Int).toNat = 2 from rfl, Nat.reduceMul, Nat.reduceEqDiff, Go.Addr.add, ↓reduceIte] at hx109_0)
     have qi109 : (2 < t105.length) = True := eq_true (by omega)
     (try rw [show ((2 : Int)).toNat = 2 from rfl] at hx109_0)
     replace p109 := eq_true p109
     replace q109 := eq_true q109
     go_wp2
     go_ret
     exact ⟨verr_, bB_ HB⟩
 ·replace c3 := Bool.eq_false_iff.mpr c3
  subst c3
  rw [if_neg (show ¬ (false = true) by decide)] at H
  obtain rfl := Option.some.inj H
  go_enter Tryz.func13, Tryz.ntmps13
  go_wp2_with (first | ((with_reducible refine gate_callee (f := 9) rfl ?_); refine goesM_ (some 9) Tryz.func9 #[.slice A0 l0.length c0] ?_; (with_reducible refine (spec_ArePoints.calls k _ _ l0 false _ ?side1 ?side2 A2.out).mono ?_); (case side1 => repeat (first | exact HR0.out | (with_reducible refine Kd.C_alloc ?_ _) | (with_reducible refine Kd.C_drewN ?_ _) | (with_reducible refine Kd.C_drew ?_))); (case side2 => exact HC0.out); rintro e w20 ⟨rfl, hb⟩; refine ⟨_, rfl, ?_⟩; replace HB := aM_ (below_step (bB_ HB) hb); (try clear hb)))
  go_ret
  exact ⟨verr_, bB_ HB⟩
end Go.Proofs.YteaagaekdkolnaaGreatDoor.P

namespace Go.Proofs.YteaagaekdkolnaaGreatDoor.P
open Go.RowKit Go.Proofs.YteaagaekdkolnaaGreatDoorW.PrintWords Go.Proofs.YteaagaekdkolnaaGreatDoorW.PrintLast Go.Proofs.YteaagaekdkolnaaGreatDoorW.PrintMore
attribute [local go_sem] max2_int min2_int max_two min_two max_three min_three max_four min_four   -- for this text's walks alone
set_option linter.unusedVariables false
set_option linter.unusedSimpArgs false
/-! ### spec_l31Yes: function 14 -/
def spec_l31Yes.f (a0 : Bool) : Option (ByteArray) := if a0 = true then (some (⟨#[121, 101, 115]⟩ : ByteArray)) else (some (⟨#[110, 111]⟩ : ByteArray))
set_option maxHeartbeats 8000000 in
set_option maxRecDepth 100000 in
theorem spec_l31Yes.calls (a0 : Bool) (r : ByteArray) (w : World) (h : spec_l31Yes.f a0 = some r) :
  Calls Tryz.prog 14 #[.bool a0] w fun e w' => e = .returned (.string r) ∧ Drawn0 w w' := by
 have H : (if a0 = true then (some (⟨#[121, 101, 115]⟩ : ByteArray)) else (some (⟨#[110, 111]⟩ : ByteArray))) = some r := h
 clear h
 by_cases c2 : a0 = true
 ·subst c2
  rw [if_pos rfl] at H
  obtain rfl := Option.some.inj H
  go_enter Tryz.func14, Tryz.ntmps14
  go_wp2
  go_ret
  exact ⟨veq_, by repeat (first | exact Drawn0.refl _ | apply Drawn0.step)⟩
 ·replace c2 := Bool.eq_false_iff.mpr c2
  subst c2
  rw [if_neg (show ¬ (false = true) by decide)] at H
  obtain rfl := Option.some.inj H
  go_enter Tryz.func14, Tryz.ntmps14
  go_wp2
  go_ret
  exact ⟨veq_, by repeat (first | exact Drawn0.refl _ | apply Drawn0.step)⟩
end Go.Proofs.YteaagaekdkolnaaGreatDoor.P

namespace Go.Proofs.YteaagaekdkolnaaGreatDoor.P
open Go.RowKit Go.Proofs.YteaagaekdkolnaaGreatDoorW.PrintWords Go.Proofs.YteaagaekdkolnaaGreatDoorW.PrintLast Go.Proofs.YteaagaekdkolnaaGreatDoorW.PrintMore
attribute [local go_sem] max2_int min2_int max_two min_two max_three min_three max_four min_four   -- for this text's walks alone
set_option linter.unusedVariables false
set_option linter.unusedSimpArgs false
/-! ### spec_LengthOf: function 54 -/
def spec_LengthOf.f (a0_0 : Int) (a0_1 : Int) (a1_0 : Int) (a1_1 : Int) : Option (Int) := (spec_l2Fits.f a0_0 a0_1 1000).bind fun t103 => (if t103 = true then ((spec_l2Fits.f a1_0 a1_1 1000).bind fun t104 => (if t104 = true then (some (wrap64 ((wrap64 ((wrap64 (a0_0 - a1_0)) * (wrap64 (a0_0 - a1_0)))) + (wrap64 ((wrap64 (a0_1 - a1_1)) * (wrap64 (a0_1 - a1_1))))))) else (some (-1)))) else (some (-1)))
set_option maxHeartbeats 8000000 in
set_option maxRecDepth 100000 in
theorem spec_LengthOf.calls (a0_0 : Int) (a0_1 : Int) (a1_0 : Int) (a1_1 : Int) (r : Int) (w : World) (h : spec_LengthOf.f a0_0 a0_1 a1_0 a1_1 = some r) :
  Calls Tryz.prog 54 #[.agg #[.int .i64 a0_0, .int .i64 a0_1], .agg #[.int .i64 a1_0, .int .i64 a1_1]] w fun e w' => e = .returned (.int .i64 r) ∧ Below w.heap.size w w' := by
 have hu34 := Tryz.underlying34
 have HB := aM_ (Below.refl w.heap.size w)
 have H : ((spec_l2Fits.f a0_0 a0_1 1000).bind fun t103 => (if t103 = true then ((spec_l2Fits.f a1_0 a1_1 1000).bind fun t104 => (if t104 = true then (some (wrap64 ((wrap64 ((wrap64 (a0_0 - a1_0)) * (wrap64 (a0_0 - a1_0)))) + (wrap64 ((wrap64 (a0_1 - a1_1)) * (wrap64 (a0_1 - a1_1))))))) else (some (-1)))) else (some (-1)))) = some r := h
 clear h
 replace H := oB_ H
 obtain ⟨t103, A30, H⟩ := H
 have A3 := aM_ A30
 clear A30
 by_cases c4 : t103 = true
 ·subst c4
  rw [if_pos rfl] at H
  replace H := oB_ H
  obtain ⟨t104, A50, H⟩ := H
  have A5 := aM_ A50
  clear A50
  by_cases c6 : t104 = true
  ·subst c6
   rw [if_pos rfl] at H
   obtain rfl := Option.some.inj H
   go_enter Tryz.func54, Tryz.ntmps54
   go_wp2_with (first | ((with_reducible refine gate_dst (N := 2) rfl ?_); refine boxE_ (N := 2) #[.int .i64 a0_0, .int .i64 a0_1] 34 ?_; intro gb101 hg w7 hbox hb; have BK101 := aM_ (hbox); have GW101 := aM_ ((bs_ HB hg)); have GE101 := aM_ ((bs_ HB hg)); replace HB := aM_ (below_step (bB_ HB) hb); clear hb hbox hg) | ((with_reducible refine gate_dst (N := 3) rfl ?_); refine boxE_ (N := 3) #[.int .i64 a1_0, .int .i64 a1_1] 34 ?_; intro gb102 hg w8 hbox hb; have BK102 := aM_ (hbox); have GW102 := aM_ ((bs_ HB hg)); have GE102 := aM_ ((bs_ HB hg)); replace HB := aM_ (below_step (bB_ HB) hb); have NB101_102 := aM_ ((bnl_ BK101 hg)); have NB102_101 := aM_ ((bng_ BK101 hg)); replace BK101 := aM_ (bkb_ BK101 hb); clear hb hbox hg; have hnb9 := NB101_102.out; have hnc9 := NB102_101.out; have hcz10_0 := bc_ BK101 0; have hcz10_1 := bc_ BK101 1; have hfz10_0 := blk_frozen BK101.out 0; have hfz10_1 := blk_frozen BK101.out 1) | ((with_reducible refine gate_callee (f := 27) rfl ?_); refine goesM_ (some 6) Tryz.func27 #[.agg #[.int .i64 a0_0, .int .i64 a0_1], .int .i64 1000] ?_; (with_reducible refine (spec_l2Fits.calls a0_0 a0_1 1000 true _ A3.out).mono ?_); rintro e w11 ⟨rfl, hb⟩; refine ⟨_, rfl, ?_⟩; replace BK101 := aM_ (bkb_ BK101 hb); replace BK102 := aM_ (bkb_ BK102 hb); replace HB := aM_ (below_step (bB_ HB) hb); (try clear hb); have hcz12_0 := bc_ BK102 0; have hcz12_1 := bc_ BK102 1; have hfz12_0 := blk_frozen BK102.out 0; have hfz12_1 := blk_frozen BK102.out 1) | (go_at_call 27; (with_reducible refine (spec_l2Fits.calls a1_0 a1_1 1000 true _ A5.out).mono ?_); rintro e w13 ⟨rfl, hb⟩; replace BK101 := aM_ (bkb_ BK101 hb); replace BK102 := aM_ (bkb_ BK102 hb); replace HB := aM_ (below_step (bB_ HB) hb); (try clear hb); have hcz14_0 := bc_ BK101 0; have hcz14_1 := bc_ BK101 1; have hfz14_0 := blk_frozen BK101.out 0; have hfz14_1 := blk_frozen BK101.out 1; have hcz15_0 := bc_ BK102 0; have hcz15_1 := bc_ BK102 1; have hfz15_0 := blk_frozen BK102.out 0; have hfz15_1 := blk_frozen BK102.out 1))
   go_ret
   exact ⟨verr_, bB_ HB⟩
  ·replace c6 := Bool.eq_false_iff.mpr c6
   subst c6
   rw [if_neg (show ¬ (false = true) by decide)] at H
   obtain rfl := Option.some.inj H
   go_enter Tryz.func54, Tryz.ntmps54
   go_wp2_with (first | ((with_reducible refine gate_dst (N := 2) rfl ?_); refine boxE_ (N := 2) #[.int .i64 a0_0, .int .i64 a0_1] 34 ?_; intro gb101 hg w16 hbox hb; have BK101 := aM_ (hbox); have GW101 := aM_ ((bs_ HB hg)); have GE101 := aM_ ((bs_ HB hg)); replace HB := aM_ (below_step (bB_ HB) hb); clear hb hbox hg) | ((with_reducible refine gate_dst (N := 3) rfl ?_); refine boxE_ (N := 3) #[.int .i64 a1_0, .int .i64 a1_1] 34 ?_; intro gb102 hg w17 hbox hb; have BK102 := aM_ (hbox); have GW102 := aM_ ((bs_ HB hg)); have GE102 := aM_ ((bs_ HB hg)); replace HB := aM_ (below_step (bB_ HB) hb); have NB101_102 := aM_ ((bnl_ BK101 hg)); have NB102_101 := aM_ ((bng_ BK101 hg)); replace BK101 := aM_ (bkb_ BK101 hb); clear hb hbox hg; have hnb18 := NB101_102.out; have hnc18 := NB102_101.out; have hcz19_0 := bc_ BK101 0; have hcz19_1 := bc_ BK101 1; have hfz19_0 := blk_frozen BK101.out 0; have hfz19_1 := blk_frozen BK101.out 1) | ((with_reducible refine gate_callee (f := 27) rfl ?_); refine goesM_ (some 6) Tryz.func27 #[.agg #[.int .i64 a0_0, .int .i64 a0_1], .int .i64 1000] ?_; (with_reducible refine (spec_l2Fits.calls a0_0 a0_1 1000 true _ A3.out).mono ?_); rintro e w20 ⟨rfl, hb⟩; refine ⟨_, rfl, ?_⟩; replace BK101 := aM_ (bkb_ BK101 hb); replace BK102 := aM_ (bkb_ BK102 hb); replace HB := aM_ (below_step (bB_ HB) hb); (try clear hb); have hcz21_0 := bc_ BK102 0; have hcz21_1 := bc_ BK102 1; have hfz21_0 := blk_frozen BK102.out 0; have hfz21_1 := blk_frozen BK102.out 1) | (go_at_call 27; (with_reducible refine (spec_l2Fits.calls a1_0 a1_1 1000 false _ A5.out).mono ?_); rintro e w22 ⟨rfl, hb⟩; replace BK101 := aM_ (bkb_ BK101 hb); replace BK102 := aM_ (bkb_ BK102 hb); replace HB := aM_ (below_step (bB_ HB) hb); (try clear hb)))
   go_ret
   exact ⟨verr_, bB_ HB⟩
 ·replace c4 := Bool.eq_false_iff.mpr c4
  subst c4
  rw [if_neg (show ¬ (false = true) by decide)] at H
  obtain rfl := Option.some.inj H
  go_enter Tryz.func54, Tryz.ntmps54
  go_wp2_with (first | ((with_reducible refine gate_dst (N := 2) rfl ?_); refine boxE_ (N := 2) #[.int .i64 a0_0, .int .i64 a0_1] 34 ?_; intro gb101 hg w23 hbox hb; have BK101 := aM_ (hbox); have GW101 := aM_ ((bs_ HB hg)); have GE101 := aM_ ((bs_ HB hg)); replace HB := aM_ (below_step (bB_ HB) hb); clear hb hbox hg) | ((with_reducible refine gate_dst (N := 3) rfl ?_); refine boxE_ (N := 3) #[.int .i64 a1_0, .int .i64 a1_1] 34 ?_; intro gb102 hg w24 hbox hb; have BK102 := aM_ (hbox); have GW102 := aM_ ((bs_ HB hg)); have GE102 := aM_ ((bs_ HB hg)); replace HB := aM_ (below_step (bB_ HB) hb); have NB101_102 := aM_ ((bnl_ BK101 hg)); have NB102_101 := aM_ ((bng_ BK101 hg)); replace BK101 := aM_ (bkb_ BK101 hb); clear hb hbox hg; have hnb25 := NB101_102.out; have hnc25 := NB102_101.out; have hcz26_0 := bc_ BK101 0; have hcz26_1 := bc_ BK101 1; have hfz26_0 := blk_frozen BK101.out 0; have hfz26_1 := blk_frozen BK101.out 1) | ((with_reducible refine gate_callee (f := 27) rfl ?_); refine goesM_ (some 6) Tryz.func27 #[.agg #[.int .i64 a0_0, .int .i64 a0_1], .int .i64 1000] ?_; (with_reducible refine (spec_l2Fits.calls a0_0 a0_1 1000 false _ A3.out).mono ?_); rintro e w27 ⟨rfl, hb⟩; refine ⟨_, rfl, ?_⟩; replace BK101 := aM_ (bkb_ BK101 hb); replace BK102 := aM_ (bkb_ BK102 hb); replace HB := aM_ (below_step (bB_ HB) hb); (try clear hb)))
  go_ret
  exact ⟨verr_, bB_ HB⟩
end Go.Proofs.YteaagaekdkolnaaGreatDoor.P

namespace Go.Proofs.YteaagaekdkolnaaGreatDoor.P
open Go.RowKit Go.Proofs.YteaagaekdkolnaaGreatDoorW.PrintWords Go.Proofs.YteaagaekdkolnaaGreatDoorW.PrintLast Go.Proofs.YteaagaekdkolnaaGreatDoorW.PrintMore
attribute [local go_sem] max2_int min2_int max_two min_two max_three min_three max_four min_four   -- for this text's walks alone
set_option linter.unusedVariables false
set_option linter.unusedSimpArgs false
/-! ### spec_l2Sign: function 55 -/
def spec_l2Sign.f (a0 : Int) : Option (Int) := (spec_l1Bit.f (decide (a0 > 0))).bind fun t101 => ((spec_l1Bit.f (decide (a0 < 0))).bind fun t102 => (some (wrap64 (t101 - t102))))
set_option maxHeartbeats 8000000 in
set_option maxRecDepth 100000 in
theorem spec_l2Sign.calls (a0 : Int) (r : Int) (w : World) (h : spec_l2Sign.f a0 = some r) :
  Calls Tryz.prog 55 #[.int .i64 a0] w fun e w' => e = .returned (.int .i64 r) ∧ Drawn0 w w' := by
 have H : ((spec_l1Bit.f (decide (a0 > 0))).bind fun t101 => ((spec_l1Bit.f (decide (a0 < 0))).bind fun t102 => (some (wrap64 (t101 - t102))))) = some r := h
 clear h
 replace H := oB_ H
 obtain ⟨t101, A20, H⟩ := H
 have A2 := aM_ A20
 clear A20
 replace H := oB_ H
 obtain ⟨t102, A30, H⟩ := H
 have A3 := aM_ A30
 clear A30
 obtain rfl := Option.some.inj H
 go_enter Tryz.func55, Tryz.ntmps55
 go_wp2_with (first | ((with_reducible refine gate_callee (f := 34) rfl ?_); refine goesM_ (some 5) Tryz.func34 #[.bool (decide (a0 > 0))] ?_; (with_reducible refine (spec_l1Bit.calls (decide (a0 > 0)) t101 _ A2.out).mono ?_); rintro e w' ⟨rfl, ⟨nd, rfl⟩⟩; refine ⟨_, rfl, ?_⟩) | ((with_reducible refine gate_callee (f := 34) rfl ?_); refine goesM_ (some 8) Tryz.func34 #[.bool (decide (a0 < 0))] ?_; (with_reducible refine (spec_l1Bit.calls (decide (a0 < 0)) t102 _ A3.out).mono ?_); rintro e w' ⟨rfl, ⟨nd, rfl⟩⟩; refine ⟨_, rfl, ?_⟩))
 go_ret
 exact ⟨veq_, by repeat (first | exact Drawn0.refl _ | apply Drawn0.step)⟩
end Go.Proofs.YteaagaekdkolnaaGreatDoor.P

namespace Go.Proofs.YteaagaekdkolnaaGreatDoor.P
open Go.RowKit Go.Proofs.YteaagaekdkolnaaGreatDoorW.PrintWords Go.Proofs.YteaagaekdkolnaaGreatDoorW.PrintLast Go.Proofs.YteaagaekdkolnaaGreatDoorW.PrintMore
attribute [local go_sem] max2_int min2_int max_two min_two max_three min_three max_four min_four   -- for this text's walks alone
set_option linter.unusedVariables false
set_option linter.unusedSimpArgs false
/-! ### spec_l29Side: function 36 -/
def spec_l29Side.f (a0_0 : Int) (a0_1 : Int) (a1_0 : Int) (a1_1 : Int) (a2_0 : Int) (a2_1 : Int) (a3_0 : Int) (a3_1 : Int) : Option (Int) := (spec_LengthOf.f a0_0 a0_1 a3_0 a3_1).bind fun t105 => ((spec_l2Area.f a3_0 a3_1 a1_0 a1_1 a2_0 a2_1).bind fun t106 => ((spec_LengthOf.f a1_0 a1_1 a3_0 a3_1).bind fun t107 => ((spec_l2Area.f a3_0 a3_1 a2_0 a2_1 a0_0 a0_1).bind fun t108 => ((spec_LengthOf.f a2_0 a2_1 a3_0 a3_1).bind fun t109 => ((spec_l2Area.f a3_0 a3_1 a0_0 a0_1 a1_0 a1_1).bind fun t110 => ((spec_l2Sign.f (wrap64 ((wrap64 ((wrap64 (t105 * t106)) + (wrap64 (t107 * t108)))) + (wrap64 (t109 * t110))))).bind fun t111 => ((spec_l2Area.f a0_0 a0_1 a1_0 a1_1 a2_0 a2_1).bind fun t112 => ((spec_l2Sign.f t112).bind fun t113 => (some (wrap64 (t111 * t113)))))))))))
def spec_l29Side.T1 : Bool × List (List Nat × List Nat) := (true, [([], []), ([], []), ([0, 1], [0, 1]), ([], []), ([], []), ([], []), ([3, 4, 5, 2], [3, 4, 5]), ([2, 6], [2, 6]), ([], []), ([], []), ([8, 9, 6], [8, 9]), ([], []), ([], []), ([], []), ([11, 12, 13, 10], [11, 12, 13]), ([10, 14], [10, 14]), ([7, 15], [7, 15]), ([], []), ([], []), ([17, 18, 14], [17, 18]), ([], []), ([], []), ([], []), ([20, 21, 22, 19], [20, 21, 22]), ([19, 23], [19, 23]), ([16, 24], [16, 24]), ([25, 23, 0, 1, 2, 3, 4, 5, 6, 7, 8, 9, 10, 11, 12, 13, 14, 15, 16, 17, 18, 19, 20, 21, 22, 23, 24, 25], [25])])
def spec_l29Side.B1 : List Nat := [0, 0, 3, 0, 0, 0, 63, 127, 0, 0, 895, 0, 0, 0, 16255, 32639, 65535, 0, 0, 425855, 0, 0, 0, 8290175, 16678783, 33554431, 67108863]
theorem spec_l29Side.tab1 : rtab .any (opsOf Tryz.f36 1) = spec_l29Side.T1 := by kernel_rfl
theorem spec_l29Side.bits1 : waitsOk spec_l29Side.T1.2 spec_l29Side.B1 = true := by kernel_rfl
def spec_l29Side.T2 : Bool × List (List Nat × List Nat) := (true, [([], []), ([0], [0]), ([], []), ([], []), ([], []), ([2, 3, 4, 1], [2, 3, 4]), ([5, 5], [5]), ([1, 6], [1, 6]), ([7, 6, 0, 1, 2, 3, 4, 5, 6, 7], [7])])
def spec_l29Side.B2 : List Nat := [0, 1, 0, 0, 0, 31, 63, 127, 255]
theorem spec_l29Side.tab2 : rtab .any (opsOf Tryz.f36 2) = spec_l29Side.T2 := by kernel_rfl
theorem spec_l29Side.bits2 : waitsOk spec_l29Side.T2.2 spec_l29Side.B2 = true := by kernel_rfl
set_option maxHeartbeats 8000000 in
set_option maxRecDepth 100000 in
theorem spec_l29Side.calls (a0_0 : Int) (a0_1 : Int) (a1_0 : Int) (a1_1 : Int) (a2_0 : Int) (a2_1 : Int) (a3_0 : Int) (a3_1 : Int) (r : Int) (w : World) (h : spec_l29Side.f a0_0 a0_1 a1_0 a1_1 a2_0 a2_1 a3_0 a3_1 = some r) :
  Calls Tryz.prog 36 #[.agg #[.int .i64 a0_0, .int .i64 a0_1], .agg #[.int .i64 a1_0, .int .i64 a1_1], .agg #[.int .i64 a2_0, .int .i64 a2_1], .agg #[.int .i64 a3_0, .int .i64 a3_1]] w fun e w' => e = .returned (.int .i64 r) ∧ Below w.heap.size w w' := by
 have hu34 := Tryz.underlying34
 have HB := aM_ (Below.refl w.heap.size w)
 have H : ((spec_LengthOf.f a0_0 a0_1 a3_0 a3_1).bind fun t105 => ((spec_l2Area.f a3_0 a3_1 a1_0 a1_1 a2_0 a2_1).bind fun t106 => ((spec_LengthOf.f a1_0 a1_1 a3_0 a3_1).bind fun t107 => ((spec_l2Area.f a3_0 a3_1 a2_0 a2_1 a0_0 a0_1).bind fun t108 => ((spec_LengthOf.f a2_0 a2_1 a3_0 a3_1).bind fun t109 => ((spec_l2Area.f a3_0 a3_1 a0_0 a0_1 a1_0 a1_1).bind fun t110 => ((spec_l2Sign.f (wrap64 ((wrap64 ((wrap64 (t105 * t106)) + (wrap64 (t107 * t108)))) + (wrap64 (t109 * t110))))).bind fun t111 => ((spec_l2Area.f a0_0 a0_1 a1_0 a1_1 a2_0 a2_1).bind fun t112 => ((spec_l2Sign.f t112).bind fun t113 => (some (wrap64 (t111 * t113)))))))))))) = some r := h
 clear h
 replace H := oB_ H
 obtain ⟨t105, A50, H⟩ := H
 have A5 := aM_ A50
 clear A50
 replace H := oB_ H
 obtain ⟨t106, A60, H⟩ := H
 have A6 := aM_ A60
 clear A60
 replace H := oB_ H
 obtain ⟨t107, A70, H⟩ := H
 have A7 := aM_ A70
 clear A70
 replace H := oB_ H
 obtain ⟨t108, A80, H⟩ := H
 have A8 := aM_ A80
 clear A80
 replace H := oB_ H
 obtain ⟨t109, A90, H⟩ := H
 have A9 := aM_ A90
 clear A90
 replace H := oB_ H
 obtain ⟨t110, A100, H⟩ := H
 have A10 := aM_ A100
 clear A100
 replace H := oB_ H
 obtain ⟨t111, A110, H⟩ := H
 have A11 := aM_ A110
 clear A110
 replace H := oB_ H
 obtain ⟨t112, A120, H⟩ := H
 have A12 := aM_ A120
 clear A120
 replace H := oB_ H
 obtain ⟨t113, A130, H⟩ := H
 have A13 := aM_ A130
 clear A130
 obtain rfl := Option.some.inj H
 go_enter Tryz.func36, Tryz.ntmps36
 try go_wp2_with (first | ((with_reducible refine gate_dst (N := 4) rfl ?_); refine boxE_ (N := 4) #[.int .i64 a0_0, .int .i64 a0_1] 34 ?_; intro gb101 hg w14 hbox hb; have BK101 := aM_ (hbox); have GW101 := aM_ ((bs_ HB hg)); have GE101 := aM_ ((bs_ HB hg)); replace HB := aM_ (below_step (bB_ HB) hb); clear hb hbox hg) | ((with_reducible refine gate_dst (N := 5) rfl ?_); refine boxE_ (N := 5) #[.int .i64 a1_0, .int .i64 a1_1] 34 ?_; intro gb102 hg w15 hbox hb; have BK102 := aM_ (hbox); have GW102 := aM_ ((bs_ HB hg)); have GE102 := aM_ ((bs_ HB hg)); replace HB := aM_ (below_step (bB_ HB) hb); have NB101_102 := aM_ ((bnl_ BK101 hg)); have NB102_101 := aM_ ((bng_ BK101 hg)); replace BK101 := aM_ (bkb_ BK101 hb); clear hb hbox hg) | ((with_reducible refine gate_dst (N := 6) rfl ?_); refine boxE_ (N := 6) #[.int .i64 a2_0, .int .i64 a2_1] 34 ?_; intro gb103 hg w16 hbox hb; have BK103 := aM_ (hbox); have GW103 := aM_ ((bs_ HB hg)); have GE103 := aM_ ((bs_ HB hg)); replace HB := aM_ (below_step (bB_ HB) hb); have NB101_103 := aM_ ((bnl_ BK101 hg)); have NB103_101 := aM_ ((bng_ BK101 hg)); replace BK101 := aM_ (bkb_ BK101 hb); have NB102_103 := aM_ ((bnl_ BK102 hg)); have NB103_102 := aM_ ((bng_ BK102 hg)); replace BK102 := aM_ (bkb_ BK102 hb); clear hb hbox hg) | ((with_reducible refine gate_dst (N := 7) rfl ?_); refine boxE_ (N := 7) #[.int .i64 a3_0, .int .i64 a3_1] 34 ?_; intro gb104 hg w17 hbox hb; have BK104 := aM_ (hbox); have GW104 := aM_ ((bs_ HB hg)); have GE104 := aM_ ((bs_ HB hg)); replace HB := aM_ (below_step (bB_ HB) hb); have NB101_104 := aM_ ((bnl_ BK101 hg)); have NB104_101 := aM_ ((bng_ BK101 hg)); replace BK101 := aM_ (bkb_ BK101 hb); have NB102_104 := aM_ ((bnl_ BK102 hg)); have NB104_102 := aM_ ((bng_ BK102 hg)); replace BK102 := aM_ (bkb_ BK102 hb); have NB103_104 := aM_ ((bnl_ BK103 hg)); have NB104_103 := aM_ ((bng_ BK103 hg)); replace BK103 := aM_ (bkb_ BK103 hb); clear hb hbox hg))
 replace BK101 := aM_ (blk_drew BK101.out)
 replace BK102 := aM_ (blk_drew BK102.out)
 replace BK103 := aM_ (blk_drew BK103.out)
 replace BK104 := aM_ (blk_drew BK104.out)
 replace HB := aM_ (bD_ HB.out)
 refine start_ (n := 27) (S := fun w' => w'.cell? ⟨gb101, 0, none⟩ = some (.int .i64 a0_0) ∧ w'.cell? ⟨gb101, 1, none⟩ = some (.int .i64 a0_1) ∧ w'.cell? ⟨gb104, 0, none⟩ = some (.int .i64 a3_0) ∧ w'.cell? ⟨gb104, 1, none⟩ = some (.int .i64 a3_1) ∧ w'.cell? ⟨gb102, 0, none⟩ = some (.int .i64 a1_0) ∧ w'.cell? ⟨gb102, 1, none⟩ = some (.int .i64 a1_1) ∧ w'.cell? ⟨gb103, 0, none⟩ = some (.int .i64 a2_0) ∧ w'.cell? ⟨gb103, 1, none⟩ = some (.int .i64 a2_1)) (ds := []) (bm 27 0) (by kernel_rfl) rfl rfl ⟨bc_ BK101 0, bc_ BK101 1, bc_ BK104 0, bc_ BK104 1, bc_ BK102 0, bc_ BK102 1, bc_ BK103 0, bc_ BK103 1⟩ (fun hHeld => ?_); refine with_tabW spec_l29Side.tab1 spec_l29Side.bits1 (fun HT_ HW_ => ?_)
 generalize w17.drew = w18 at BK101 BK102 BK103 BK104 HB hHeld ⊢
 refine plan_ ((2, 0, 10, 1) :: (2, 1, 11, 3) :: (2, 3, 13, 11) :: (2, 4, 14, 27) :: (2, 5, 15, 59) :: (2, 8, 18, 315) :: (2, 9, 19, 827) :: (2, 11, 21, 2875) :: (2, 12, 22, 6971) :: (2, 13, 23, 15163) :: (2, 17, 27, 146235) :: (2, 18, 28, 408379) :: (2, 20, 30, 1456955) :: (2, 21, 31, 3554107) :: (2, 22, 32, 7748411) :: []) ?_
 iterate 15 (first | refine pT_ HT_ HW_ hHeld ?_)
 refine planEnd_ ?_
 refine one_ (i := 2) (N := some 12) (bm 27 7748415) rfl rfl (one_of HT_.out (by kernel_rfl)) (by decide) (fun K hK => ?_)
 refine goesO_ Tryz.func54 #[.agg #[.int .i64 a0_0, .int .i64 a0_1], .agg #[.int .i64 a3_0, .int .i64 a3_1]] ?_
 with_reducible refine (spec_LengthOf.calls a0_0 a0_1 a3_0 a3_1 t105 _ A5.out).mono ?_
 rintro e w19 ⟨rfl, hb⟩
 refine ⟨_, rfl, ?_⟩
 replace BK101 := aM_ (bkb_ BK101 hb)
 replace BK102 := aM_ (bkb_ BK102 hb)
 replace BK103 := aM_ (bkb_ BK103 hb)
 replace BK104 := aM_ (bkb_ BK104 hb)
 replace HB := aM_ (below_step (bB_ HB) hb)
 (try clear hb)
 refine hK.out _ _ ⟨bc_ BK101 0, bc_ BK101 1, bc_ BK104 0, bc_ BK104 1, bc_ BK102 0, bc_ BK102 1, bc_ BK103 0, bc_ BK103 1⟩ (fun hHeld => ?_)
 clear hK K
 refine nrm_ ?_
 refine one_ (i := 6) (N := some 16) (bm 27 7748479) rfl rfl (one_of HT_.out (by kernel_rfl)) (by decide) (fun K hK => ?_)
 refine goesO_ Tryz.func28 #[.agg #[.int .i64 a3_0, .int .i64 a3_1], .agg #[.int .i64 a1_0, .int .i64 a1_1], .agg #[.int .i64 a2_0, .int .i64 a2_1]] ?_
 with_reducible refine (spec_l2Area.calls a3_0 a3_1 a1_0 a1_1 a2_0 a2_1 t106 _ A6.out).mono ?_
 rintro e w20 ⟨rfl, hb⟩
 refine ⟨_, rfl, ?_⟩
 replace BK101 := aM_ (bkb_ BK101 hb)
 replace BK102 := aM_ (bkb_ BK102 hb)
 replace BK103 := aM_ (bkb_ BK103 hb)
 replace BK104 := aM_ (bkb_ BK104 hb)
 replace HB := aM_ (below_step (bB_ HB) hb)
 (try clear hb)
 refine hK.out _ _ ⟨bc_ BK101 0, bc_ BK101 1, bc_ BK104 0, bc_ BK104 1, bc_ BK102 0, bc_ BK102 1, bc_ BK103 0, bc_ BK103 1⟩ (fun hHeld => ?_)
 clear hK K
 refine nrm_ ?_
 refine plan_ ((0, 7, 17, 7748607) :: []) ?_
 iterate 1 (first | refine pV_ HT_ ?_)
 refine planEnd_ ?_
 refine one_ (i := 10) (N := some 20) (bm 27 7749631) rfl rfl (one_of HT_.out (by kernel_rfl)) (by decide) (fun K hK => ?_)
 refine goesO_ Tryz.func54 #[.agg #[.int .i64 a1_0, .int .i64 a1_1], .agg #[.int .i64 a3_0, .int .i64 a3_1]] ?_
 with_reducible refine (spec_LengthOf.calls a1_0 a1_1 a3_0 a3_1 t107 _ A7.out).mono ?_
 rintro e w21 ⟨rfl, hb⟩
 refine ⟨_, rfl, ?_⟩
 replace BK101 := aM_ (bkb_ BK101 hb)
 replace BK102 := aM_ (bkb_ BK102 hb)
 replace BK103 := aM_ (bkb_ BK103 hb)
 replace BK104 := aM_ (bkb_ BK104 hb)
 replace HB := aM_ (below_step (bB_ HB) hb)
 (try clear hb)
 refine hK.out _ _ ⟨bc_ BK101 0, bc_ BK101 1, bc_ BK104 0, bc_ BK104 1, bc_ BK102 0, bc_ BK102 1, bc_ BK103 0, bc_ BK103 1⟩ (fun hHeld => ?_)
 clear hK K
 refine nrm_ ?_
 refine one_ (i := 14) (N := some 24) (bm 27 7766015) rfl rfl (one_of HT_.out (by kernel_rfl)) (by decide) (fun K hK => ?_)
 refine goesO_ Tryz.func28 #[.agg #[.int .i64 a3_0, .int .i64 a3_1], .agg #[.int .i64 a2_0, .int .i64 a2_1], .agg #[.int .i64 a0_0, .int .i64 a0_1]] ?_
 with_reducible refine (spec_l2Area.calls a3_0 a3_1 a2_0 a2_1 a0_0 a0_1 t108 _ A8.out).mono ?_
 rintro e w22 ⟨rfl, hb⟩
 refine ⟨_, rfl, ?_⟩
 replace BK101 := aM_ (bkb_ BK101 hb)
 replace BK102 := aM_ (bkb_ BK102 hb)
 replace BK103 := aM_ (bkb_ BK103 hb)
 replace BK104 := aM_ (bkb_ BK104 hb)
 replace HB := aM_ (below_step (bB_ HB) hb)
 (try clear hb)
 refine hK.out _ _ ⟨bc_ BK101 0, bc_ BK101 1, bc_ BK104 0, bc_ BK104 1, bc_ BK102 0, bc_ BK102 1, bc_ BK103 0, bc_ BK103 1⟩ (fun hHeld => ?_)
 clear hK K
 refine nrm_ ?_
 refine plan_ ((0, 15, 25, 7798783) :: (0, 16, 26, 7864319) :: []) ?_
 iterate 2 (first | refine pV_ HT_ ?_)
 refine planEnd_ ?_
 refine one_ (i := 19) (N := some 29) (bm 27 8388607) rfl rfl (one_of HT_.out (by kernel_rfl)) (by decide) (fun K hK => ?_)
 refine goesO_ Tryz.func54 #[.agg #[.int .i64 a2_0, .int .i64 a2_1], .agg #[.int .i64 a3_0, .int .i64 a3_1]] ?_
 with_reducible refine (spec_LengthOf.calls a2_0 a2_1 a3_0 a3_1 t109 _ A9.out).mono ?_
 rintro e w23 ⟨rfl, hb⟩
 refine ⟨_, rfl, ?_⟩
 replace BK101 := aM_ (bkb_ BK101 hb)
 replace BK102 := aM_ (bkb_ BK102 hb)
 replace BK103 := aM_ (bkb_ BK103 hb)
 replace BK104 := aM_ (bkb_ BK104 hb)
 replace HB := aM_ (below_step (bB_ HB) hb)
 (try clear hb)
 refine hK.out _ _ ⟨bc_ BK101 0, bc_ BK101 1, bc_ BK104 0, bc_ BK104 1, bc_ BK102 0, bc_ BK102 1, bc_ BK103 0, bc_ BK103 1⟩ (fun hHeld => ?_)
 clear hK K
 refine nrm_ ?_
 refine one_ (i := 23) (N := some 33) (bm 27 16777215) rfl rfl (one_of HT_.out (by kernel_rfl)) (by decide) (fun K hK => ?_)
 refine goesO_ Tryz.func28 #[.agg #[.int .i64 a3_0, .int .i64 a3_1], .agg #[.int .i64 a0_0, .int .i64 a0_1], .agg #[.int .i64 a1_0, .int .i64 a1_1]] ?_
 with_reducible refine (spec_l2Area.calls a3_0 a3_1 a0_0 a0_1 a1_0 a1_1 t110 _ A10.out).mono ?_
 rintro e w24 ⟨rfl, hb⟩
 refine ⟨_, rfl, ?_⟩
 replace BK101 := aM_ (bkb_ BK101 hb)
 replace BK102 := aM_ (bkb_ BK102 hb)
 replace BK103 := aM_ (bkb_ BK103 hb)
 replace BK104 := aM_ (bkb_ BK104 hb)
 replace HB := aM_ (below_step (bB_ HB) hb)
 (try clear hb)
 refine hK.out _ _ ⟨bc_ BK101 0, bc_ BK101 1, bc_ BK104 0, bc_ BK104 1, bc_ BK102 0, bc_ BK102 1, bc_ BK103 0, bc_ BK103 1⟩ (fun hHeld => ?_)
 clear hK K
 refine nrm_ ?_
 refine plan_ ((0, 24, 34, 33554431) :: (0, 25, 35, 67108863) :: (0, 26, 9, 134217727) :: []) ?_
 iterate 3 (first | refine pV_ HT_ ?_)
 refine planEnd_ ?_
 refine done_ (done_of HT_.out (by kernel_rfl)) ?_
 try go_wp2
 replace BK101 := aM_ (blk_drew BK101.out)
 replace BK102 := aM_ (blk_drew BK102.out)
 replace BK103 := aM_ (blk_drew BK103.out)
 replace BK104 := aM_ (blk_drew BK104.out)
 replace HB := aM_ (bD_ HB.out)
 refine start_ (n := 9) (S := fun w' => w'.cell? ⟨gb101, 0, none⟩ = some (.int .i64 a0_0) ∧ w'.cell? ⟨gb101, 1, none⟩ = some (.int .i64 a0_1) ∧ w'.cell? ⟨gb102, 0, none⟩ = some (.int .i64 a1_0) ∧ w'.cell? ⟨gb102, 1, none⟩ = some (.int .i64 a1_1) ∧ w'.cell? ⟨gb103, 0, none⟩ = some (.int .i64 a2_0) ∧ w'.cell? ⟨gb103, 1, none⟩ = some (.int .i64 a2_1)) (ds := []) (bm 9 0) (by kernel_rfl) rfl rfl ⟨bc_ BK101 0, bc_ BK101 1, bc_ BK102 0, bc_ BK102 1, bc_ BK103 0, bc_ BK103 1⟩ (fun hHeld => ?_); refine with_tabW spec_l29Side.tab2 spec_l29Side.bits2 (fun HT_ HW_ => ?_)
 generalize w24.drew = w25 at BK101 BK102 BK103 BK104 HB hHeld ⊢
 refine plan_ ((0, 0, 36, 1) :: (2, 2, 38, 5) :: (2, 3, 39, 13) :: (2, 4, 40, 29) :: []) ?_
 iterate 4 (first | refine pV_ HT_ ?_ | refine pT_ HT_ HW_ hHeld ?_)
 refine planEnd_ ?_
 refine one_ (i := 1) (N := some 37) (bm 9 31) rfl rfl (one_of HT_.out (by kernel_rfl)) (by decide) (fun K hK => ?_)
 refine goesO_ Tryz.func55 #[.int .i64 (wrap64 ((wrap64 ((wrap64 (t105 * t106)) + (wrap64 (t107 * t108)))) + (wrap64 (t109 * t110))))] ?_
 with_reducible refine (spec_l2Sign.calls (wrap64 ((wrap64 ((wrap64 (t105 * t106)) + (wrap64 (t107 * t108)))) + (wrap64 (t109 * t110)))) t111 _ A11.out).mono ?_
 rintro e w' ⟨rfl, ⟨nd, rfl⟩⟩
 refine ⟨_, rfl, ?_⟩
 refine hK.out _ _ ⟨bc_ BK101 0, bc_ BK101 1, bc_ BK102 0, bc_ BK102 1, bc_ BK103 0, bc_ BK103 1⟩ (fun hHeld => ?_)
 clear hK K
 refine nrm_ ?_
 refine one_ (i := 5) (N := some 41) (bm 9 63) rfl rfl (one_of HT_.out (by kernel_rfl)) (by decide) (fun K hK => ?_)
 refine goesO_ Tryz.func28 #[.agg #[.int .i64 a0_0, .int .i64 a0_1], .agg #[.int .i64 a1_0, .int .i64 a1_1], .agg #[.int .i64 a2_0, .int .i64 a2_1]] ?_
 with_reducible refine (spec_l2Area.calls a0_0 a0_1 a1_0 a1_1 a2_0 a2_1 t112 _ A12.out).mono ?_
 rintro e w26 ⟨rfl, hb⟩
 refine ⟨_, rfl, ?_⟩
 replace BK101 := aM_ (bkb_ BK101 hb)
 replace BK102 := aM_ (bkb_ BK102 hb)
 replace BK103 := aM_ (bkb_ BK103 hb)
 replace BK104 := aM_ (bkb_ BK104 hb)
 replace HB := aM_ (below_step (bB_ HB) hb)
 (try clear hb)
 refine hK.out _ _ ⟨bc_ BK101 0, bc_ BK101 1, bc_ BK102 0, bc_ BK102 1, bc_ BK103 0, bc_ BK103 1⟩ (fun hHeld => ?_)
 clear hK K
 refine nrm_ ?_
 refine one_ (i := 6) (N := some 42) (bm 9 127) rfl rfl (one_of HT_.out (by kernel_rfl)) (by decide) (fun K hK => ?_)
 refine goesO_ Tryz.func55 #[.int .i64 t112] ?_
 with_reducible refine (spec_l2Sign.calls t112 t113 _ A13.out).mono ?_
 rintro e w' ⟨rfl, ⟨nd, rfl⟩⟩
 refine ⟨_, rfl, ?_⟩
 refine hK.out _ _ ⟨bc_ BK101 0, bc_ BK101 1, bc_ BK102 0, bc_ BK102 1, bc_ BK103 0, bc_ BK103 1⟩ (fun hHeld => ?_)
 clear hK K
 refine nrm_ ?_
 refine plan_ ((0, 7, 43, 255) :: (0, 8, 8, 511) :: []) ?_
 iterate 2 (first | refine pV_ HT_ ?_)
 refine planEnd_ ?_
 refine done_ (done_of HT_.out (by kernel_rfl)) ?_
 try go_wp2
 go_ret
 exact ⟨verr_, bB_ HB⟩
end Go.Proofs.YteaagaekdkolnaaGreatDoor.P

