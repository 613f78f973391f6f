/- A part of the proof of FnExactDescribePoints: printed contracts and plain laws, joined by a program of this session. -/
import Derived.Test.YteaagaekdkolnaaGreatDoorZFnExactDescribePoints4
import Derived.KernelRfl
namespace Go.Proofs.YteaagaekdkolnaaGreatDoor.P
open Go.RowKit Go.Proofs.YteaagaekdkolnaaGreatDoorW.PrintWords Go.Proofs.YteaagaekdkolnaaGreatDoorW.PrintLast Go.Proofs.YteaagaekdkolnaaGreatDoorW.PrintMore
attribute [local go_sem] max2_int min2_int max_two min_two max_three min_three max_four min_four   -- for this text's walks alone
set_option linter.unusedVariables false
set_option linter.unusedSimpArgs false
/-! ### impl_lift: function 69 -/
def impl_lift.f (a0_0 : Int) (a0_1 : Int) (a1_0 : Int) (a1_1 : Int) : Option (Int × Int × Int) := some (wrap64 (a0_0 - a1_0), wrap64 (a0_1 - a1_1), wrap64 ((wrap64 ((wrap64 (a0_0 - a1_0)) * (wrap64 (a0_0 - a1_0)))) + (wrap64 ((wrap64 (a0_1 - a1_1)) * (wrap64 (a0_1 - a1_1))))))
set_option maxHeartbeats 8000000 in
set_option maxRecDepth 100000 in
theorem impl_lift.calls (a0_0 : Int) (a0_1 : Int) (a1_0 : Int) (a1_1 : Int) (r1 : Int) (r2 : Int) (r3 : Int) (w : World) (h : impl_lift.f a0_0 a0_1 a1_0 a1_1 = some (r1, r2, r3)) :
  Calls Tryz.prog 69 #[.agg #[.int .i64 a0_0, .int .i64 a0_1], .agg #[.int .i64 a1_0, .int .i64 a1_1]] w fun e w' => e = .returned (.tuple #[.int .i64 r1, .int .i64 r2, .int .i64 r3]) ∧ Below w.heap.size w w' := by
 have hu34 := Tryz.underlying34
 have HB := aM_ (Below.refl w.heap.size w)
 have H : (some (wrap64 (a0_0 - a1_0), wrap64 (a0_1 - a1_1), wrap64 ((wrap64 ((wrap64 (a0_0 - a1_0)) * (wrap64 (a0_0 - a1_0)))) + (wrap64 ((wrap64 (a0_1 - a1_1)) * (wrap64 (a0_1 - a1_1))))))) = some (r1, r2, r3) := h
 clear h
 simp only [Option.some.injEq, Prod.mk.injEq] at H
 obtain ⟨rfl, rfl, rfl⟩ := H
 go_enter Tryz.func69, Tryz.ntmps69
 go_wp2_with (first | ((with_reducible refine gate_dst (N := 2) rfl ?_); refine boxE_ (N := 2) #[.int .i64 a0_0, .int .i64 a0_1] 34 ?_; intro gb101 hg w3 hbox hb; have BK101 := aM_ (hbox); have GW101 := aM_ ((bs_ HB hg)); have GE101 := aM_ ((bs_ HB hg)); replace HB := aM_ (below_step (bB_ HB) hb); clear hb hbox hg) | ((with_reducible refine gate_dst (N := 3) rfl ?_); refine boxE_ (N := 3) #[.int .i64 a1_0, .int .i64 a1_1] 34 ?_; intro gb102 hg w4 hbox hb; have BK102 := aM_ (hbox); have GW102 := aM_ ((bs_ HB hg)); have GE102 := aM_ ((bs_ HB hg)); replace HB := aM_ (below_step (bB_ HB) hb); have NB101_102 := aM_ ((bnl_ BK101 hg)); have NB102_101 := aM_ ((bng_ BK101 hg)); replace BK101 := aM_ (bkb_ BK101 hb); clear hb hbox hg; have hnb5 := NB101_102.out; have hnc5 := NB102_101.out; have hcz6_0 := bc_ BK101 0; have hcz6_1 := bc_ BK101 1; have hfz6_0 := blk_frozen BK101.out 0; have hfz6_1 := blk_frozen BK101.out 1; have hcz7_0 := bc_ BK102 0; have hcz7_1 := bc_ BK102 1; have hfz7_0 := blk_frozen BK102.out 0; have hfz7_1 := blk_frozen BK102.out 1))
 repeat (go_quiet (first | ((with_reducible refine gate_dst (N := 2) rfl ?_); refine boxE_ (N := 2) #[.int .i64 a0_0, .int .i64 a0_1] 34 ?_; intro gb101 hg w3 hbox hb; have BK101 := aM_ (hbox); have GW101 := aM_ ((bs_ HB hg)); have GE101 := aM_ ((bs_ HB hg)); replace HB := aM_ (below_step (bB_ HB) hb); clear hb hbox hg) | ((with_reducible refine gate_dst (N := 3) rfl ?_); refine boxE_ (N := 3) #[.int .i64 a1_0, .int .i64 a1_1] 34 ?_; intro gb102 hg w4 hbox hb; have BK102 := aM_ (hbox); have GW102 := aM_ ((bs_ HB hg)); have GE102 := aM_ ((bs_ HB hg)); replace HB := aM_ (below_step (bB_ HB) hb); have NB101_102 := aM_ ((bnl_ BK101 hg)); have NB102_101 := aM_ ((bng_ BK101 hg)); replace BK101 := aM_ (bkb_ BK101 hb); clear hb hbox hg; have hnb5 := NB101_102.out; have hnc5 := NB102_101.out; have hcz6_0 := bc_ BK101 0; have hcz6_1 := bc_ BK101 1; have hfz6_0 := blk_frozen BK101.out 0; have hfz6_1 := blk_frozen BK101.out 1; have hcz7_0 := bc_ BK102 0; have hcz7_1 := bc_ BK102 1; have hfz7_0 := blk_frozen BK102.out 0; have hfz7_1 := blk_frozen BK102.out 1)); try go_wp2_with (first | ((with_reducible refine gate_dst (N := 2) rfl ?_); refine boxE_ (N := 2) #[.int .i64 a0_0, .int .i64 a0_1] 34 ?_; intro gb101 hg w3 hbox hb; have BK101 := aM_ (hbox); have GW101 := aM_ ((bs_ HB hg)); have GE101 := aM_ ((bs_ HB hg)); replace HB := aM_ (below_step (bB_ HB) hb); clear hb hbox hg) | ((with_reducible refine gate_dst (N := 3) rfl ?_); refine boxE_ (N := 3) #[.int .i64 a1_0, .int .i64 a1_1] 34 ?_; intro gb102 hg w4 hbox hb; have BK102 := aM_ (hbox); have GW102 := aM_ ((bs_ HB hg)); have GE102 := aM_ ((bs_ HB hg)); replace HB := aM_ (below_step (bB_ HB) hb); have NB101_102 := aM_ ((bnl_ BK101 hg)); have NB102_101 := aM_ ((bng_ BK101 hg)); replace BK101 := aM_ (bkb_ BK101 hb); clear hb hbox hg; have hnb5 := NB101_102.out; have hnc5 := NB102_101.out; have hcz6_0 := bc_ BK101 0; have hcz6_1 := bc_ BK101 1; have hfz6_0 := blk_frozen BK101.out 0; have hfz6_1 := blk_frozen BK101.out 1; have hcz7_0 := bc_ BK102 0; have hcz7_1 := bc_ BK102 1; have hfz7_0 := blk_frozen BK102.out 0; have hfz7_1 := blk_frozen BK102.out 1)))
 go_ret3
 exact ⟨verr_, bB_ HB⟩
end Go.Proofs.YteaagaekdkolnaaGreatDoor.P

namespace Go.Proofs.YteaagaekdkolnaaGreatDoor.P
open Go.RowKit Go.Proofs.YteaagaekdkolnaaGreatDoorW.PrintWords Go.Proofs.YteaagaekdkolnaaGreatDoorW.PrintLast Go.Proofs.YteaagaekdkolnaaGreatDoorW.PrintMore
attribute [local go_sem] max2_int min2_int max_two min_two max_three min_three max_four min_four   -- for this text's walks alone
set_option linter.unusedVariables false
set_option linter.unusedSimpArgs false
/-! ### impl_SideOfCircle: function 45 -/
def impl_SideOfCircle.f (a0_0 : Int) (a0_1 : Int) (a1_0 : Int) (a1_1 : Int) (a2_0 : Int) (a2_1 : Int) (a3_0 : Int) (a3_1 : Int) : Option (Int) := (impl_areNear.f 50 (([(⟨a0_0, a0_1⟩ : S34), (⟨a1_0, a1_1⟩ : S34), (⟨a2_0, a2_1⟩ : S34), (⟨a3_0, a3_1⟩ : S34)] : List (S34)))).bind fun t108 => (if t108 = true then ((impl_lift.f a0_0 a0_1 a3_0 a3_1).bind fun bt109 => ((impl_lift.f a1_0 a1_1 a3_0 a3_1).bind fun bt112 => ((impl_lift.f a2_0 a2_1 a3_0 a3_1).bind fun bt115 => ((impl_signOf.f (wrap64 ((wrap64 ((wrap64 (bt109.1 * (wrap64 ((wrap64 (bt112.2.1 * bt115.2.2)) - (wrap64 (bt112.2.2 * bt115.2.1)))))) - (wrap64 (bt109.2.1 * (wrap64 ((wrap64 (bt112.1 * bt115.2.2)) - (wrap64 (bt112.2.2 * bt115.1)))))))) + (wrap64 (bt109.2.2 * (wrap64 ((wrap64 (bt112.1 * bt115.2.1)) - (wrap64 (bt112.2.1 * bt115.1))))))))).bind fun t118 => ((impl_TurnOf.f a0_0 a0_1 a1_0 a1_1 a2_0 a2_1).bind fun t119 => (some (wrap64 (t118 * t119)))))))) else (some 0))
def impl_SideOfCircle.T7 : Bool × List (List Nat × List Nat) := (true, [([], []), ([0], [0]), ([], []), ([], []), ([], []), ([2, 3, 4, 1], [2, 3, 4]), ([1, 5], [1, 5]), ([6, 5, 0, 1, 2, 3, 4, 5, 6], [6])])
def impl_SideOfCircle.B7 : List Nat := [0, 1, 0, 0, 0, 31, 63, 127]
theorem impl_SideOfCircle.tab7 : rtab .any (opsOf Tryz.f45 7) = impl_SideOfCircle.T7 := by kernel_rfl
theorem impl_SideOfCircle.bits7 : waitsOk impl_SideOfCircle.T7.2 impl_SideOfCircle.B7 = true := by kernel_rfl
set_option maxHeartbeats 8000000 in
set_option maxRecDepth 100000 in
theorem impl_SideOfCircle.calls (a0_0 : Int) (a0_1 : Int) (a1_0 : Int) (a1_1 : Int) (a2_0 : Int) (a2_1 : Int) (a3_0 : Int) (a3_1 : Int) (r : Int) (w : World) (h : impl_SideOfCircle.f a0_0 a0_1 a1_0 a1_1 a2_0 a2_1 a3_0 a3_1 = some r) :
  Calls Tryz.prog 45 #[.agg #[.int .i64 a0_0, .int .i64 a0_1], .agg #[.int .i64 a1_0, .int .i64 a1_1], .agg #[.int .i64 a2_0, .int .i64 a2_1], .agg #[.int .i64 a3_0, .int .i64 a3_1]] w fun e w' => e = .returned (.int .i64 r) ∧ Below w.heap.size w w' := by
 have hu34 := Tryz.underlying34
 have HB := aM_ (Below.refl w.heap.size w)
 have H : ((impl_areNear.f 50 (([(⟨a0_0, a0_1⟩ : S34), (⟨a1_0, a1_1⟩ : S34), (⟨a2_0, a2_1⟩ : S34), (⟨a3_0, a3_1⟩ : S34)] : List (S34)))).bind fun t108 => (if t108 = true then ((impl_lift.f a0_0 a0_1 a3_0 a3_1).bind fun bt109 => ((impl_lift.f a1_0 a1_1 a3_0 a3_1).bind fun bt112 => ((impl_lift.f a2_0 a2_1 a3_0 a3_1).bind fun bt115 => ((impl_signOf.f (wrap64 ((wrap64 ((wrap64 (bt109.1 * (wrap64 ((wrap64 (bt112.2.1 * bt115.2.2)) - (wrap64 (bt112.2.2 * bt115.2.1)))))) - (wrap64 (bt109.2.1 * (wrap64 ((wrap64 (bt112.1 * bt115.2.2)) - (wrap64 (bt112.2.2 * bt115.1)))))))) + (wrap64 (bt109.2.2 * (wrap64 ((wrap64 (bt112.1 * bt115.2.1)) - (wrap64 (bt112.2.1 * bt115.1))))))))).bind fun t118 => ((impl_TurnOf.f a0_0 a0_1 a1_0 a1_1 a2_0 a2_1).bind fun t119 => (some (wrap64 (t118 * t119)))))))) else (some 0))) = some r := h
 clear h
 obtain ⟨y105, hy105⟩ : ∃ y_ : List (S34), y_ = (([(⟨a0_0, a0_1⟩ : S34), (⟨a1_0, a1_1⟩ : S34), (⟨a2_0, a2_1⟩ : S34), (⟨a3_0, a3_1⟩ : S34)] : List (S34))) := ⟨_, rfl⟩
 replace H : ((impl_areNear.f 50 y105).bind fun t108 => (if t108 = true then ((impl_lift.f a0_0 a0_1 a3_0 a3_1).bind fun bt109 => ((impl_lift.f a1_0 a1_1 a3_0 a3_1).bind fun bt112 => ((impl_lift.f a2_0 a2_1 a3_0 a3_1).bind fun bt115 => ((impl_signOf.f (wrap64 ((wrap64 ((wrap64 (bt109.1 * (wrap64 ((wrap64 (bt112.2.1 * bt115.2.2)) - (wrap64 (bt112.2.2 * bt115.2.1)))))) - (wrap64 (bt109.2.1 * (wrap64 ((wrap64 (bt112.1 * bt115.2.2)) - (wrap64 (bt112.2.2 * bt115.1)))))))) + (wrap64 (bt109.2.2 * (wrap64 ((wrap64 (bt112.1 * bt115.2.1)) - (wrap64 (bt112.2.1 * bt115.1))))))))).bind fun t118 => ((impl_TurnOf.f a0_0 a0_1 a1_0 a1_1 a2_0 a2_1).bind fun t119 => (some (wrap64 (t118 * t119)))))))) else (some 0))) = some r := by first | (rw [hy105]; with_reducible exact H) | (have H2_ := (Option.bind_some _ _).symm.trans H; rw [hy105]; with_reducible exact H2_) | (have H2_ := (Option.bind_some _ _).symm.trans H; with_reducible exact H2_) | with_reducible exact H | (rw [hy105]; exact H) | exact H
 have Ny105 := aM_ hy105
 clear hy105
 replace H := oB_ H
 obtain ⟨t108, A50, H⟩ := H
 have A5 := aM_ A50
 clear A50
 by_cases c6 : t108 = true
 ·subst c6
  rw [if_pos rfl] at H
  replace H := oB_ H
  obtain ⟨⟨t109, t110, t111⟩, A70, H⟩ := H
  replace H : ((impl_lift.f a1_0 a1_1 a3_0 a3_1).bind fun bt112 => ((impl_lift.f a2_0 a2_1 a3_0 a3_1).bind fun bt115 => ((impl_signOf.f (wrap64 ((wrap64 ((wrap64 (t109 * (wrap64 ((wrap64 (bt112.2.1 * bt115.2.2)) - (wrap64 (bt112.2.2 * bt115.2.1)))))) - (wrap64 (t110 * (wrap64 ((wrap64 (bt112.1 * bt115.2.2)) - (wrap64 (bt112.2.2 * bt115.1)))))))) + (wrap64 (t111 * (wrap64 ((wrap64 (bt112.1 * bt115.2.1)) - (wrap64 (bt112.2.1 * bt115.1))))))))).bind fun t118 => ((impl_TurnOf.f a0_0 a0_1 a1_0 a1_1 a2_0 a2_1).bind fun t119 => (some (wrap64 (t118 * t119))))))) = some r := H
  have A7 := aM_ A70
  clear A70
  replace H := oB_ H
  obtain ⟨⟨t112, t113, t114⟩, A80, H⟩ := H
  replace H : ((impl_lift.f a2_0 a2_1 a3_0 a3_1).bind fun bt115 => ((impl_signOf.f (wrap64 ((wrap64 ((wrap64 (t109 * (wrap64 ((wrap64 (t113 * bt115.2.2)) - (wrap64 (t114 * bt115.2.1)))))) - (wrap64 (t110 * (wrap64 ((wrap64 (t112 * bt115.2.2)) - (wrap64 (t114 * bt115.1)))))))) + (wrap64 (t111 * (wrap64 ((wrap64 (t112 * bt115.2.1)) - (wrap64 (t113 * bt115.1))))))))).bind fun t118 => ((impl_TurnOf.f a0_0 a0_1 a1_0 a1_1 a2_0 a2_1).bind fun t119 => (some (wrap64 (t118 * t119)))))) = some r := H
  have A8 := aM_ A80
  clear A80
  replace H := oB_ H
  obtain ⟨⟨t115, t116, t117⟩, A90, H⟩ := H
  replace H : ((impl_signOf.f (wrap64 ((wrap64 ((wrap64 (t109 * (wrap64 ((wrap64 (t113 * t117)) - (wrap64 (t114 * t116)))))) - (wrap64 (t110 * (wrap64 ((wrap64 (t112 * t117)) - (wrap64 (t114 * t115)))))))) + (wrap64 (t111 * (wrap64 ((wrap64 (t112 * t116)) - (wrap64 (t113 * t115))))))))).bind fun t118 => ((impl_TurnOf.f a0_0 a0_1 a1_0 a1_1 a2_0 a2_1).bind fun t119 => (some (wrap64 (t118 * t119))))) = some r := H
  have A9 := aM_ A90
  clear A90
  replace H := oB_ H
  obtain ⟨t118, A100, H⟩ := H
  have A10 := aM_ A100
  clear A100
  replace H := oB_ H
  obtain ⟨t119, A110, H⟩ := H
  have A11 := aM_ A110
  clear A110
  obtain rfl := Option.some.inj H
  go_enter Tryz.func45, Tryz.ntmps45
  try go_wp2_with (first | ((with_reducible refine gate_dst (N := 4) rfl ?_); refine boxE_ (N := 4) #[.int .i64 a0_0, .int .i64 a0_1] 34 ?_; intro gb101 hg w12 hbox hb; have BK101 := aM_ (hbox); have GW101 := aM_ ((bs_ HB hg)); have GE101 := aM_ ((bs_ HB hg)); replace HB := aM_ (below_step (bB_ HB) hb); clear hb hbox hg) | ((with_reducible refine gate_dst (N := 5) rfl ?_); refine boxE_ (N := 5) #[.int .i64 a1_0, .int .i64 a1_1] 34 ?_; intro gb102 hg w13 hbox hb; have BK102 := aM_ (hbox); have GW102 := aM_ ((bs_ HB hg)); have GE102 := aM_ ((bs_ HB hg)); replace HB := aM_ (below_step (bB_ HB) hb); have NB101_102 := aM_ ((bnl_ BK101 hg)); have NB102_101 := aM_ ((bng_ BK101 hg)); replace BK101 := aM_ (bkb_ BK101 hb); clear hb hbox hg) | ((with_reducible refine gate_dst (N := 6) rfl ?_); refine boxE_ (N := 6) #[.int .i64 a2_0, .int .i64 a2_1] 34 ?_; intro gb103 hg w14 hbox hb; have BK103 := aM_ (hbox); have GW103 := aM_ ((bs_ HB hg)); have GE103 := aM_ ((bs_ HB hg)); replace HB := aM_ (below_step (bB_ HB) hb); have NB101_103 := aM_ ((bnl_ BK101 hg)); have NB103_101 := aM_ ((bng_ BK101 hg)); replace BK101 := aM_ (bkb_ BK101 hb); have NB102_103 := aM_ ((bnl_ BK102 hg)); have NB103_102 := aM_ ((bng_ BK102 hg)); replace BK102 := aM_ (bkb_ BK102 hb); clear hb hbox hg) | ((with_reducible refine gate_dst (N := 7) rfl ?_); refine boxE_ (N := 7) #[.int .i64 a3_0, .int .i64 a3_1] 34 ?_; intro gb104 hg w15 hbox hb; have BK104 := aM_ (hbox); have GW104 := aM_ ((bs_ HB hg)); have GE104 := aM_ ((bs_ HB hg)); replace HB := aM_ (below_step (bB_ HB) hb); have NB101_104 := aM_ ((bnl_ BK101 hg)); have NB104_101 := aM_ ((bng_ BK101 hg)); replace BK101 := aM_ (bkb_ BK101 hb); have NB102_104 := aM_ ((bnl_ BK102 hg)); have NB104_102 := aM_ ((bng_ BK102 hg)); replace BK102 := aM_ (bkb_ BK102 hb); have NB103_104 := aM_ ((bnl_ BK103 hg)); have NB104_103 := aM_ ((bng_ BK103 hg)); replace BK103 := aM_ (bkb_ BK103 hb); clear hb hbox hg; have hnb16 := NB101_102.out; have hnc16 := NB102_101.out; have hnb17 := NB101_103.out; have hnc17 := NB103_101.out; have hnb18 := NB101_104.out; have hnc18 := NB104_101.out; have hcz19_0 := bc_ BK101 0; have hcz19_1 := bc_ BK101 1; have hfz19_0 := blk_frozen BK101.out 0; have hfz19_1 := blk_frozen BK101.out 1; have hnb20 := NB102_103.out; have hnc20 := NB103_102.out; have hnb21 := NB102_104.out; have hnc21 := NB104_102.out; have hcz22_0 := bc_ BK102 0; have hcz22_1 := bc_ BK102 1; have hfz22_0 := blk_frozen BK102.out 0; have hfz22_1 := blk_frozen BK102.out 1; have hnb23 := NB103_104.out; have hnc23 := NB104_103.out; have hcz24_0 := bc_ BK103 0; have hcz24_1 := bc_ BK103 1; have hfz24_0 := blk_frozen BK103.out 0; have hfz24_1 := blk_frozen BK103.out 1; have hcz25_0 := bc_ BK104 0; have hcz25_1 := bc_ BK104 1; have hfz25_0 := blk_frozen BK104.out 0; have hfz25_1 := blk_frozen BK104.out 1) | ((with_reducible refine gate_dst (N := 23) rfl ?_); refine Kd.R_lit k34 _ 34 ?hg (N := 23) ?hd (xs := ([(⟨a0_0, a0_1⟩ : S34), (⟨a1_0, a1_1⟩ : S34), (⟨a2_0, a2_1⟩ : S34), (⟨a3_0, a3_1⟩ : S34)] : List (S34))) (inner := [.int .i64 a0_0, .int .i64 a0_1, .int .i64 a1_0, .int .i64 a1_1, .int .i64 a2_0, .int .i64 a2_1, .int .i64 a3_0, .int .i64 a3_1]) (ok := fun _ => True) (okp := fun _ => True) ?hr ?hp (fun _ hk => hk) trivial (Below.refl _ _) (Nat.le_refl _) (by simp) ?_; (case hd => rfl); (case hg => rfl); (case hr => first | (go_simp; done) | (go_simp; rfl)); (case hp => exact (Reps.c2 (show Kd.M k34 _ _ _ (⟨a0_0, a0_1⟩ : S34) [.int .i64 a0_0, .int .i64 a0_1] from (k34_mkM _ _ _ (⟨a0_0, a0_1⟩ : S34) )) (Reps.c2 (show Kd.M k34 _ _ _ (⟨a1_0, a1_1⟩ : S34) [.int .i64 a1_0, .int .i64 a1_1] from (k34_mkM _ _ _ (⟨a1_0, a1_1⟩ : S34) )) (Reps.c2 (show Kd.M k34 _ _ _ (⟨a2_0, a2_1⟩ : S34) [.int .i64 a2_0, .int .i64 a2_1] from (k34_mkM _ _ _ (⟨a2_0, a2_1⟩ : S34) )) (Reps.c2 (show Kd.M k34 _ _ _ (⟨a3_0, a3_1⟩ : S34) [.int .i64 a3_0, .int .i64 a3_1] from (k34_mkM _ _ _ (⟨a3_0, a3_1⟩ : S34) )) (Reps.none _ _)))))); intro v106 w26 ho27 hb hg_ hnew_; clear hg_ hnew_; (first | rw [← Ny105.out] at ho27 | (simp only [Int.reduceToNat] at ho27; rw [← Ny105.out] at ho27)); have HO107 := aM_ (Kd.R_lower (Kd.R_newB (Kd.R_newB (Kd.R_newB (Kd.R_newB ho27 (g := gb101) (o := .cells #[.int .i64 a0_0, .int .i64 a0_1] 34 (0, 0)) (bk_ BK101)) (g := gb102) (o := .cells #[.int .i64 a1_0, .int .i64 a1_1] 34 (0, 0)) (bk_ BK102)) (g := gb103) (o := .cells #[.int .i64 a2_0, .int .i64 a2_1] 34 (0, 0)) (bk_ BK103)) (g := gb104) (o := .cells #[.int .i64 a3_0, .int .i64 a3_1] 34 (0, 0)) (bk_ BK104)) (below_size (bB_ HB))); replace BK101 := aM_ (bkb_ BK101 hb); replace BK102 := aM_ (bkb_ BK102 hb); replace BK103 := aM_ (bkb_ BK103 hb); replace BK104 := aM_ (bkb_ BK104 hb); replace HB := aM_ (below_step (bB_ HB) hb); clear hb ho27; obtain ⟨Ao28, co28, eo28⟩ := Kd.R_slice HO107.out; subst eo28) | ((with_reducible refine gate_callee (f := 37) rfl ?_); refine goesM_ (some 24) Tryz.func37 #[.int .i64 50, .slice Ao28 y105.length co28] ?_; (with_reducible refine (impl_areNear.calls 50 _ _ y105 true _ ?side1 ?side2 A5.out).mono ?_); (case side1 => repeat (first | exact (Kd.R_reads' HO107.out).2.2 | (with_reducible refine Kd.C_alloc ?_ _) | (with_reducible refine Kd.C_drewN ?_ _) | (with_reducible refine Kd.C_drew ?_))); (case side2 => exact (Kd.R_reads' HO107.out).2.1); rintro e w29 ⟨rfl, hb⟩; refine ⟨_, rfl, ?_⟩; replace HO107 := aM_ (Kd.R_below (kr_ HO107) hb); replace BK101 := aM_ (bkb_ BK101 hb); replace BK102 := aM_ (bkb_ BK102 hb); replace BK103 := aM_ (bkb_ BK103 hb); replace BK104 := aM_ (bkb_ BK104 hb); replace HB := aM_ (below_step (bB_ HB) hb); (try clear hb); (try clear hk); have hcz30_0 := bc_ BK101 0; have hcz30_1 := bc_ BK101 1; have hfz30_0 := blk_frozen BK101.out 0; have hfz30_1 := blk_frozen BK101.out 1; have hcz31_0 := bc_ BK104 0; have hcz31_1 := bc_ BK104 1; have hfz31_0 := blk_frozen BK104.out 0; have hfz31_1 := blk_frozen BK104.out 1) | ((with_reducible refine gate_callee (f := 69) rfl ?_); refine goesM_ (some 29) Tryz.func69 #[.agg #[.int .i64 a0_0, .int .i64 a0_1], .agg #[.int .i64 a3_0, .int .i64 a3_1]] ?_; (with_reducible refine (impl_lift.calls a0_0 a0_1 a3_0 a3_1 t109 t110 t111 _ A7.out).mono ?_); rintro e w32 ⟨rfl, hb⟩; refine ⟨_, rfl, ?_⟩; replace HO107 := aM_ (Kd.R_below (kr_ HO107) hb); replace BK101 := aM_ (bkb_ BK101 hb); replace BK102 := aM_ (bkb_ BK102 hb); replace BK103 := aM_ (bkb_ BK103 hb); replace BK104 := aM_ (bkb_ BK104 hb); replace HB := aM_ (below_step (bB_ HB) hb); (try clear hb); (try clear hk); have hcz33_0 := bc_ BK102 0; have hcz33_1 := bc_ BK102 1; have hfz33_0 := blk_frozen BK102.out 0; have hfz33_1 := blk_frozen BK102.out 1; have hcz34_0 := bc_ BK104 0; have hcz34_1 := bc_ BK104 1; have hfz34_0 := blk_frozen BK104.out 0; have hfz34_1 := blk_frozen BK104.out 1) | ((with_reducible refine gate_callee (f := 69) rfl ?_); refine goesM_ (some 36) Tryz.func69 #[.agg #[.int .i64 a1_0, .int .i64 a1_1], .agg #[.int .i64 a3_0, .int .i64 a3_1]] ?_; (with_reducible refine (impl_lift.calls a1_0 a1_1 a3_0 a3_1 t112 t113 t114 _ A8.out).mono ?_); rintro e w35 ⟨rfl, hb⟩; refine ⟨_, rfl, ?_⟩; replace HO107 := aM_ (Kd.R_below (kr_ HO107) hb); replace BK101 := aM_ (bkb_ BK101 hb); replace BK102 := aM_ (bkb_ BK102 hb); replace BK103 := aM_ (bkb_ BK103 hb); replace BK104 := aM_ (bkb_ BK104 hb); replace HB := aM_ (below_step (bB_ HB) hb); (try clear hb); (try clear hk); have hcz36_0 := bc_ BK103 0; have hcz36_1 := bc_ BK103 1; have hfz36_0 := blk_frozen BK103.out 0; have hfz36_1 := blk_frozen BK103.out 1; have hcz37_0 := bc_ BK104 0; have hcz37_1 := bc_ BK104 1; have hfz37_0 := blk_frozen BK104.out 0; have hfz37_1 := blk_frozen BK104.out 1) | ((with_reducible refine gate_callee (f := 69) rfl ?_); refine goesM_ (some 43) Tryz.func69 #[.agg #[.int .i64 a2_0, .int .i64 a2_1], .agg #[.int .i64 a3_0, .int .i64 a3_1]] ?_; (with_reducible refine (impl_lift.calls a2_0 a2_1 a3_0 a3_1 t115 t116 t117 _ A9.out).mono ?_); rintro e w38 ⟨rfl, hb⟩; refine ⟨_, rfl, ?_⟩; replace HO107 := aM_ (Kd.R_below (kr_ HO107) hb); replace BK101 := aM_ (bkb_ BK101 hb); replace BK102 := aM_ (bkb_ BK102 hb); replace BK103 := aM_ (bkb_ BK103 hb); replace BK104 := aM_ (bkb_ BK104 hb); replace HB := aM_ (below_step (bB_ HB) hb); (try clear hb); (try clear hk)))
  replace HO107 := aM_ (kD_ HO107.out)
  replace BK101 := aM_ (blk_drew BK101.out)
  replace BK102 := aM_ (blk_drew BK102.out)
  replace BK103 := aM_ (blk_drew BK103.out)
  replace BK104 := aM_ (blk_drew BK104.out)
  replace HB := aM_ (bD_ HB.out)
  refine start_ (n := 8) (S := fun w' => w'.cell? ⟨gb101, 0, none⟩ = some (.int .i64 a0_0) ∧ w'.cell? ⟨gb101, 1, none⟩ = some (.int .i64 a0_1) ∧ w'.cell? ⟨gb102, 0, none⟩ = some (.int .i64 a1_0) ∧ w'.cell? ⟨gb102, 1, none⟩ = some (.int .i64 a1_1) ∧ w'.cell? ⟨gb103, 0, none⟩ = some (.int .i64 a2_0) ∧ w'.cell? ⟨gb103, 1, none⟩ = some (.int .i64 a2_1)) (ds := []) (bm 8 0) (by kernel_rfl) rfl rfl ⟨bc_ BK101 0, bc_ BK101 1, bc_ BK102 0, bc_ BK102 1, bc_ BK103 0, bc_ BK103 1⟩ (fun hHeld => ?_); refine with_tabW impl_SideOfCircle.tab7 impl_SideOfCircle.bits7 (fun HT_ HW_ => ?_)
  generalize w38.drew = w39 at HO107 BK101 BK102 BK103 BK104 HB hHeld ⊢
  refine plan_ ((0, 0, 76, 1) :: (2, 2, 78, 5) :: (2, 3, 79, 13) :: (2, 4, 80, 29) :: []) ?_
  iterate 4 (first | refine pV_ HT_ ?_ | refine pT_ HT_ HW_ hHeld ?_)
  refine planEnd_ ?_
  refine one_ (i := 1) (N := some 77) (bm 8 31) rfl rfl (one_of HT_.out (by kernel_rfl)) (by decide) (fun K hK => ?_)
  refine goesO_ Tryz.func59 #[.int .i64 (wrap64 ((wrap64 ((wrap64 (t109 * (wrap64 ((wrap64 (t113 * t117)) - (wrap64 (t114 * t116)))))) - (wrap64 (t110 * (wrap64 ((wrap64 (t112 * t117)) - (wrap64 (t114 * t115)))))))) + (wrap64 (t111 * (wrap64 ((wrap64 (t112 * t116)) - (wrap64 (t113 * t115))))))))] ?_
  with_reducible refine (impl_signOf.calls (wrap64 ((wrap64 ((wrap64 (t109 * (wrap64 ((wrap64 (t113 * t117)) - (wrap64 (t114 * t116)))))) - (wrap64 (t110 * (wrap64 ((wrap64 (t112 * t117)) - (wrap64 (t114 * t115)))))))) + (wrap64 (t111 * (wrap64 ((wrap64 (t112 * t116)) - (wrap64 (t113 * t115)))))))) t118 _ A10.out).mono ?_
  rintro e w' ⟨rfl, ⟨nd, rfl⟩⟩
  refine ⟨_, rfl, ?_⟩
  refine hK.out _ _ ⟨bc_ BK101 0, bc_ BK101 1, bc_ BK102 0, bc_ BK102 1, bc_ BK103 0, bc_ BK103 1⟩ (fun hHeld => ?_)
  clear hK K
  refine nrm_ ?_
  refine one_ (i := 5) (N := some 81) (bm 8 63) rfl rfl (one_of HT_.out (by kernel_rfl)) (by decide) (fun K hK => ?_)
  refine goesO_ Tryz.func39 #[.agg #[.int .i64 a0_0, .int .i64 a0_1], .agg #[.int .i64 a1_0, .int .i64 a1_1], .agg #[.int .i64 a2_0, .int .i64 a2_1]] ?_
  with_reducible refine (impl_TurnOf.calls a0_0 a0_1 a1_0 a1_1 a2_0 a2_1 t119 _ A11.out).mono ?_
  rintro e w40 ⟨rfl, hb⟩
  refine ⟨_, rfl, ?_⟩
  replace HO107 := aM_ (Kd.R_below (kr_ HO107) hb)
  replace BK101 := aM_ (bkb_ BK101 hb)
  replace BK102 := aM_ (bkb_ BK102 hb)
  replace BK103 := aM_ (bkb_ BK103 hb)
  replace BK104 := aM_ (bkb_ BK104 hb)
  replace HB := aM_ (below_step (bB_ HB) hb)
  (try clear hb)
  (try clear hk)
  refine hK.out _ _ ⟨bc_ BK101 0, bc_ BK101 1, bc_ BK102 0, bc_ BK102 1, bc_ BK103 0, bc_ BK103 1⟩ (fun hHeld => ?_)
  clear hK K
  refine nrm_ ?_
  refine plan_ ((0, 6, 82, 127) :: (0, 7, 8, 255) :: []) ?_
  iterate 2 (first | refine pV_ HT_ ?_)
  refine planEnd_ ?_
  refine done_ (done_of HT_.out (by kernel_rfl)) ?_
  try go_wp2
  go_ret
  exact ⟨verr_, bB_ HB⟩
 ·replace c6 := Bool.eq_false_iff.mpr c6
  subst c6
  rw [if_neg (show ¬ (false = true) by decide)] at H
  obtain rfl := Option.some.inj H
  go_enter Tryz.func45, Tryz.ntmps45
  go_wp2_with (first | ((with_reducible refine gate_dst (N := 4) rfl ?_); refine boxE_ (N := 4) #[.int .i64 a0_0, .int .i64 a0_1] 34 ?_; intro gb101 hg w41 hbox hb; have BK101 := aM_ (hbox); have GW101 := aM_ ((bs_ HB hg)); have GE101 := aM_ ((bs_ HB hg)); replace HB := aM_ (below_step (bB_ HB) hb); clear hb hbox hg) | ((with_reducible refine gate_dst (N := 5) rfl ?_); refine boxE_ (N := 5) #[.int .i64 a1_0, .int .i64 a1_1] 34 ?_; intro gb102 hg w42 hbox hb; have BK102 := aM_ (hbox); have GW102 := aM_ ((bs_ HB hg)); have GE102 := aM_ ((bs_ HB hg)); replace HB := aM_ (below_step (bB_ HB) hb); have NB101_102 := aM_ ((bnl_ BK101 hg)); have NB102_101 := aM_ ((bng_ BK101 hg)); replace BK101 := aM_ (bkb_ BK101 hb); clear hb hbox hg) | ((with_reducible refine gate_dst (N := 6) rfl ?_); refine boxE_ (N := 6) #[.int .i64 a2_0, .int .i64 a2_1] 34 ?_; intro gb103 hg w43 hbox hb; have BK103 := aM_ (hbox); have GW103 := aM_ ((bs_ HB hg)); have GE103 := aM_ ((bs_ HB hg)); replace HB := aM_ (below_step (bB_ HB) hb); have NB101_103 := aM_ ((bnl_ BK101 hg)); have NB103_101 := aM_ ((bng_ BK101 hg)); replace BK101 := aM_ (bkb_ BK101 hb); have NB102_103 := aM_ ((bnl_ BK102 hg)); have NB103_102 := aM_ ((bng_ BK102 hg)); replace BK102 := aM_ (bkb_ BK102 hb); clear hb hbox hg) | ((with_reducible refine gate_dst (N := 7) rfl ?_); refine boxE_ (N := 7) #[.int .i64 a3_0, .int .i64 a3_1] 34 ?_; intro gb104 hg w44 hbox hb; have BK104 := aM_ (hbox); have GW104 := aM_ ((bs_ HB hg)); have GE104 := aM_ ((bs_ HB hg)); replace HB := aM_ (below_step (bB_ HB) hb); have NB101_104 := aM_ ((bnl_ BK101 hg)); have NB104_101 := aM_ ((bng_ BK101 hg)); replace BK101 := aM_ (bkb_ BK101 hb); have NB102_104 := aM_ ((bnl_ BK102 hg)); have NB104_102 := aM_ ((bng_ BK102 hg)); replace BK102 := aM_ (bkb_ BK102 hb); have NB103_104 := aM_ ((bnl_ BK103 hg)); have NB104_103 := aM_ ((bng_ BK103 hg)); replace BK103 := aM_ (bkb_ BK103 hb); clear hb hbox hg; have hnb45 := NB101_102.out; have hnc45 := NB102_101.out; have hnb46 := NB101_103.out; have hnc46 := NB103_101.out; have hnb47 := NB101_104.out; have hnc47 := NB104_101.out; have hcz48_0 := bc_ BK101 0; have hcz48_1 := bc_ BK101 1; have hfz48_0 := blk_frozen BK101.out 0; have hfz48_1 := blk_frozen BK101.out 1; have hnb49 := NB102_103.out; have hnc49 := NB103_102.out; have hnb50 := NB102_104.out; have hnc50 := NB104_102.out; have hcz51_0 := bc_ BK102 0; have hcz51_1 := bc_ BK102 1; have hfz51_0 := blk_frozen BK102.out 0; have hfz51_1 := blk_frozen BK102.out 1; have hnb52 := NB103_104.out; have hnc52 := NB104_103.out; have hcz53_0 := bc_ BK103 0; have hcz53_1 := bc_ BK103 1; have hfz53_0 := blk_frozen BK103.out 0; have hfz53_1 := blk_frozen BK103.out 1; have hcz54_0 := bc_ BK104 0; have hcz54_1 := bc_ BK104 1; have hfz54_0 := blk_frozen BK104.out 0; have hfz54_1 := blk_frozen BK104.out 1) | ((with_reducible refine gate_dst (N := 23) rfl ?_); refine Kd.R_lit k34 _ 34 ?hg (N := 23) ?hd (xs := ([(⟨a0_0, a0_1⟩ : S34), (⟨a1_0, a1_1⟩ : S34), (⟨a2_0, a2_1⟩ : S34), (⟨a3_0, a3_1⟩ : S34)] : List (S34))) (inner := [.int .i64 a0_0, .int .i64 a0_1, .int .i64 a1_0, .int .i64 a1_1, .int .i64 a2_0, .int .i64 a2_1, .int .i64 a3_0, .int .i64 a3_1]) (ok := fun _ => True) (okp := fun _ => True) ?hr ?hp (fun _ hk => hk) trivial (Below.refl _ _) (Nat.le_refl _) (by simp) ?_; (case hd => rfl); (case hg => rfl); (case hr => first | (go_simp; done) | (go_simp; rfl)); (case hp => exact (Reps.c2 (show Kd.M k34 _ _ _ (⟨a0_0, a0_1⟩ : S34) [.int .i64 a0_0, .int .i64 a0_1] from (k34_mkM _ _ _ (⟨a0_0, a0_1⟩ : S34) )) (Reps.c2 (show Kd.M k34 _ _ _ (⟨a1_0, a1_1⟩ : S34) [.int .i64 a1_0, .int .i64 a1_1] from (k34_mkM _ _ _ (⟨a1_0, a1_1⟩ : S34) )) (Reps.c2 (show Kd.M k34 _ _ _ (⟨a2_0, a2_1⟩ : S34) [.int .i64 a2_0, .int .i64 a2_1] from (k34_mkM _ _ _ (⟨a2_0, a2_1⟩ : S34) )) (Reps.c2 (show Kd.M k34 _ _ _ (⟨a3_0, a3_1⟩ : S34) [.int .i64 a3_0, .int .i64 a3_1] from (k34_mkM _ _ _ (⟨a3_0, a3_1⟩ : S34) )) (Reps.none _ _)))))); intro v106 w55 ho56 hb hg_ hnew_; clear hg_ hnew_; (first | rw [← Ny105.out] at ho56 | (simp only [Int.reduceToNat] at ho56; rw [← Ny105.out] at ho56)); have HO107 := aM_ (Kd.R_lower (Kd.R_newB (Kd.R_newB (Kd.R_newB (Kd.R_newB ho56 (g := gb101) (o := .cells #[.int .i64 a0_0, .int .i64 a0_1] 34 (0, 0)) (bk_ BK101)) (g := gb102) (o := .cells #[.int .i64 a1_0, .int .i64 a1_1] 34 (0, 0)) (bk_ BK102)) (g := gb103) (o := .cells #[.int .i64 a2_0, .int .i64 a2_1] 34 (0, 0)) (bk_ BK103)) (g := gb104) (o := .cells #[.int .i64 a3_0, .int .i64 a3_1] 34 (0, 0)) (bk_ BK104)) (below_size (bB_ HB))); replace BK101 := aM_ (bkb_ BK101 hb); replace BK102 := aM_ (bkb_ BK102 hb); replace BK103 := aM_ (bkb_ BK103 hb); replace BK104 := aM_ (bkb_ BK104 hb); replace HB := aM_ (below_step (bB_ HB) hb); clear hb ho56; obtain ⟨Ao57, co57, eo57⟩ := Kd.R_slice HO107.out; subst eo57) | ((with_reducible refine gate_callee (f := 37) rfl ?_); refine goesM_ (some 24) Tryz.func37 #[.int .i64 50, .slice Ao57 y105.length co57] ?_; (with_reducible refine (impl_areNear.calls 50 _ _ y105 false _ ?side1 ?side2 A5.out).mono ?_); (case side1 => repeat (first | exact (Kd.R_reads' HO107.out).2.2 | (with_reducible refine Kd.C_alloc ?_ _) | (with_reducible refine Kd.C_drewN ?_ _) | (with_reducible refine Kd.C_drew ?_))); (case side2 => exact (Kd.R_reads' HO107.out).2.1); rintro e w58 ⟨rfl, hb⟩; refine ⟨_, rfl, ?_⟩; replace HO107 := aM_ (Kd.R_below (kr_ HO107) hb); replace BK101 := aM_ (bkb_ BK101 hb); replace BK102 := aM_ (bkb_ BK102 hb); replace BK103 := aM_ (bkb_ BK103 hb); replace BK104 := aM_ (bkb_ BK104 hb); replace HB := aM_ (below_step (bB_ HB) hb); (try clear hb); (try clear hk)))
  go_ret
  exact ⟨verr_, bB_ HB⟩
end Go.Proofs.YteaagaekdkolnaaGreatDoor.P

namespace Go.Proofs.YteaagaekdkolnaaGreatDoor.P
open Go.RowKit Go.Proofs.YteaagaekdkolnaaGreatDoorW.PrintWords Go.Proofs.YteaagaekdkolnaaGreatDoorW.PrintLast Go.Proofs.YteaagaekdkolnaaGreatDoorW.PrintMore
attribute [local go_sem] max2_int min2_int max_two min_two max_three min_three max_four min_four   -- for this text's walks alone
set_option linter.unusedVariables false
set_option linter.unusedSimpArgs false
/-! ### impl_AreFree: function 24 -/
mutual
def impl_AreFree.j0 : Nat → List (S34) → Bool → Option (Bool)
 | 0, _, _ => none
 | k + 1, x0, x12 => if x12 = true then (some false) else ((impl_quadsOf.f k (x0.length : Int)).bind fun t102 => (impl_AreFree.l0 k x0 t102 (t102.length : Int) 0))
def impl_AreFree.l0 : Nat → List (S34) → List (S62) → Int → Int → Option (Bool)
 | 0, _, _, _, _ => none
 | k + 1, x0, x15, x16, x17 => if x17 < x16 then (if 0 ≤ x17 then (if x17 < (x15.length : Int) then (if 0 ≤ ((rd_T62 x15 x17).f0) then (if ((rd_T62 x15 x17).f0) < (x0.length : Int) then (if 0 ≤ ((rd_T62 x15 x17).f1) then (if ((rd_T62 x15 x17).f1) < (x0.length : Int) then (if 0 ≤ ((rd_T62 x15 x17).f2) then (if ((rd_T62 x15 x17).f2) < (x0.length : Int) then (if 0 ≤ ((rd_T62 x15 x17).f3) then (if ((rd_T62 x15 x17).f3) < (x0.length : Int) then ((impl_SideOfCircle.f ((rd_T34 x0 ((rd_T62 x15 x17).f0)).f0) ((rd_T34 x0 ((rd_T62 x15 x17).f0)).f1) ((rd_T34 x0 ((rd_T62 x15 x17).f1)).f0) ((rd_T34 x0 ((rd_T62 x15 x17).f1)).f1) ((rd_T34 x0 ((rd_T62 x15 x17).f2)).f0) ((rd_T34 x0 ((rd_T62 x15 x17).f2)).f1) ((rd_T34 x0 ((rd_T62 x15 x17).f3)).f0) ((rd_T34 x0 ((rd_T62 x15 x17).f3)).f1)).bind fun t111 => (if t111 = 0 then (some false) else (impl_AreFree.l0 k x0 x15 x16 (wrap64 (x17 + 1))))) else (none)) else (none)) else (none)) else (none)) else (none)) else (none)) else (none)) else (none)) else (none)) else (none)) else (some true)
end
def impl_AreFree.f (k : Nat) (l0 : List (S34)) : Option (Bool) := (impl_ArePoints.f k l0).bind fun t101 => (if t101 = true then (impl_AreFree.j0 k l0 (decide ((l0.length : Int) > 6))) else (impl_AreFree.j0 k l0 true))
def impl_AreFree.T6 : Bool × List (List Nat × List Nat) := (true, [([], []), ([], []), ([1], [1]), ([0, 2], [0, 2]), ([3], [3]), ([], []), ([], []), ([6], [6]), ([5, 7], [5, 7]), ([8], [8]), ([], []), ([], []), ([11], [11]), ([10, 12], [10, 12]), ([13], [13]), ([], []), ([], []), ([16], [16]), ([15, 17], [15, 17]), ([18], [18]), ([4, 9, 14, 19], [4, 9, 14, 19]), ([20], [20])])
def impl_AreFree.B6 : List Nat := [0, 0, 2, 7, 15, 0, 0, 64, 224, 480, 0, 0, 2048, 7168, 15360, 0, 0, 65536, 229376, 491520, 1048575, 2097151]
theorem impl_AreFree.tab6 : rtab .any (opsOf Tryz.f24 6) = impl_AreFree.T6 := by kernel_rfl
theorem impl_AreFree.bits6 : waitsOk impl_AreFree.T6.2 impl_AreFree.B6 = true := by kernel_rfl
set_option maxHeartbeats 8000000 in
set_option maxRecDepth 100000 in
theorem impl_AreFree.calls (k : Nat) (A0 : Option Addr) (c0 : Nat) (l0 : List (S34)) (r : Bool) (w : World) (hr0 : Kd.C k34 w A0 l0.length l0) (hc0 : l0.length ≤ c0) (h : impl_AreFree.f k l0 = some r) :
  Calls Tryz.prog 24 #[.slice A0 l0.length c0] w fun e w' => e = .returned (.bool r) ∧ Below w.heap.size w w' := by
 have hu62 := Tryz.underlying62
 have hu34 := Tryz.underlying34
 have HR0 := aM_ hr0
 have HC0 := aM_ hc0
 clear hr0 hc0
 have HB := aM_ (Below.refl w.heap.size w)
 have H : ((impl_ArePoints.f k l0).bind fun t101 => (if t101 = true then (impl_AreFree.j0 k l0 (decide ((l0.length : Int) > 6))) else (impl_AreFree.j0 k l0 true))) = some r := h
 clear h
 have HC2 := aM_ H
 clear H
 go_enter Tryz.func24, Tryz.ntmps24
 go_upto_region 1 with (fail)
 go_cut [12] (fun v12 wc => ∃ (kq : Nat) (x12_1 : Bool), v12 = .bool x12_1 ∧ Aside0 (impl_AreFree.j0 kq l0 x12_1 = some r) ∧ Aside0 (kq ≤ k) ∧ Aside0 (Below w.heap.size w wc))
 case first =>
  have H := HC2.out
  clear HC2
  replace H := oB_ H
  obtain ⟨t101, A30, H⟩ := H
  have A3 := aM_ A30
  clear A30
  by_cases c4 : t101 = true
  ·subst c4
   rw [if_pos rfl] at H
   have H' := aM_ H
   clear H
   go_wp2_with (first | ((with_reducible refine gate_callee (f := 17) rfl ?_); refine goesM_ (some 6) Tryz.func17 #[.slice A0 l0.length c0] ?_; (with_reducible refine (impl_ArePoints.calls k _ _ l0 true _ ?side1 ?side2 A3.out).mono ?_); (case side1 => repeat (first | exact (Kd.C_below HR0.out HB.out) | (with_reducible refine Kd.C_alloc ?_ _) | (with_reducible refine Kd.C_drewN ?_ _) | (with_reducible refine Kd.C_drew ?_))); (case side2 => exact HC0.out); rintro e w5 ⟨rfl, hb⟩; refine ⟨_, rfl, ?_⟩; replace HB := aM_ (below_step (bB_ HB) hb); (try clear hb); (try clear hk)))
   go_meet
   case rel => exact ⟨_, (decide ((l0.length : Int) > 6)), veq_, H', ⟨by first | omega | exact Nat.le_refl _⟩, ⟨bB_ HB⟩⟩
  ·replace c4 := Bool.eq_false_iff.mpr c4
   subst c4
   rw [if_neg (show ¬ (false = true) by decide)] at H
   have H' := aM_ H
   clear H
   go_wp2_with (first | ((with_reducible refine gate_callee (f := 17) rfl ?_); refine goesM_ (some 6) Tryz.func17 #[.slice A0 l0.length c0] ?_; (with_reducible refine (impl_ArePoints.calls k _ _ l0 false _ ?side1 ?side2 A3.out).mono ?_); (case side1 => repeat (first | exact (Kd.C_below HR0.out HB.out) | (with_reducible refine Kd.C_alloc ?_ _) | (with_reducible refine Kd.C_drewN ?_ _) | (with_reducible refine Kd.C_drew ?_))); (case side2 => exact HC0.out); rintro e w6 ⟨rfl, hb⟩; refine ⟨_, rfl, ?_⟩; replace HB := aM_ (below_step (bB_ HB) hb); (try clear hb); (try clear hk)))
   go_meet
   case rel => exact ⟨_, (true), veq_, H', ⟨by first | omega | exact Nat.le_refl _⟩, ⟨bB_ HB⟩⟩
 case rest =>
  clear HC2
  try clear c4
  obtain ⟨kq, x12_1, rfl, HA, HJ1, HB⟩ := hcut
  cases kq with
  | zero => exact absurd HA.out (by simp [impl_AreFree.j0])
  | succ kj1 =>
   have H := HA.out
   clear HA
   simp only [impl_AreFree.j0] at H
   by_cases c7 : x12_1 = true
   ·subst c7
    rw [if_pos rfl] at H
    obtain rfl := Option.some.inj H
    go_wp2
    go_ret
    exact ⟨verr_, bB_ HB⟩
   ·replace c7 := Bool.eq_false_iff.mpr c7
    subst c7
    rw [if_neg (show ¬ (false = true) by decide)] at H
    replace H := oB_ H
    obtain ⟨t102, A80, H⟩ := H
    have A8 := aM_ A80
    clear A80
    have H' := aM_ H
    clear H
    go_wp2_with (first | ((with_reducible refine gate_callee (f := 44) rfl ?_); refine goesM_ (some 15) Tryz.func44 #[.int .i64 (l0.length : Int)] ?_; (with_reducible refine (impl_quadsOf.calls kj1 (l0.length : Int) t102 _ A8.out).mono ?_); rintro e w9 ⟨v103, rfl, ho0, hb⟩; refine ⟨_, rfl, ?_⟩; have HO104 := aM_ (Kd.R_lower ho0 (below_size (bB_ HB))); replace HB := aM_ (below_step (bB_ HB) hb); (try clear hb); (try clear hk); (try clear ho0); obtain ⟨Ao10, co10, eo10⟩ := Kd.R_slice HO104.out; subst eo10))
    go_loopg [17] kj1 (fun kq v17 w' => ∃ (x17_2 : Int), v17 = .int .i64 x17_2 ∧ Aside0 (impl_AreFree.l0 kq l0 t102 (t102.length : Int) x17_2 = some r) ∧ Aside0 (kq ≤ kj1) ∧ Aside0 (Kd.R k62 62 w' w.heap.size (fun _ => True) (.slice Ao10 t102.length co10) t102) ∧ Aside0 (Below w.heap.size w w'))
    case atStart => exact ⟨(0), veq_, H', ⟨Nat.le_refl _⟩, ⟨kr_ HO104⟩, ⟨bB_ HB⟩⟩
    case round =>
     clear H'
     try clear c4
     try clear c7
     obtain ⟨x17_2, rfl, HA, HK2, HO_15, HB⟩ := hrel
     cases gk with
     | zero => exact absurd HA.out (by simp [impl_AreFree.l0])
     | succ k2 =>
      have H := HA.out
      clear HA
      simp only [impl_AreFree.l0] at H
      rcases ifd_ H with ⟨c11b0, H⟩ | ⟨c11b0, H⟩
      ·obtain ⟨c12b0, H⟩ := ifn_ H
       obtain ⟨c13b0, H⟩ := ifn_ H
       obtain ⟨c14b0, H⟩ := ifn_ H
       obtain ⟨c15b0, H⟩ := ifn_ H
       obtain ⟨c16b0, H⟩ := ifn_ H
       obtain ⟨c17b0, H⟩ := ifn_ H
       obtain ⟨c18b0, H⟩ := ifn_ H
       obtain ⟨c19b0, H⟩ := ifn_ H
       obtain ⟨c20b0, H⟩ := ifn_ H
       obtain ⟨c21b0, H⟩ := ifn_ H
       replace H := oB_ H
       obtain ⟨t111, A220, H⟩ := H
       have A22 := aM_ A220
       clear A220
       rcases ifc_ H with ⟨c23, H⟩ | ⟨c23, H⟩
       ·have c23b0 : (t111 == 0) = true := beq_iff_eq.mpr c23
        have c23b1 : (t111 != 0) = false := bne_eq_false_iff_eq.mpr c23
        clear c23
        obtain rfl := Option.some.inj H
        obtain ⟨p105, q105, ad105, e105, hx105_0, hx105_1, hx105_2, hx105_3⟩ := atW_ (at_T62 (Kd.R_reads' HO_15.out).2.2 x17_2)
        cases e105
        try go_wp2_with (first | ((with_reducible refine gate_dst (N := 4) rfl ?_); (try (refine gate_guard (by rfl) ?_; dsimp only)); refine boxE_ (N := 4) #[.int .i64 0, .int .i64 0, .int .i64 0, .int .i64 0] 62 ?_; intro gb106 hg w24 hbox hb; replace HO_15 := aM_ (Kd.R_below (Kd.R_elderB (kr_ HO_15) gb106 (Nat.le_of_eq hg.symm)) hb); have BK106 := aM_ (hbox); have GW106 := aM_ ((bs_ HB hg)); have GE106 := aM_ ((bs_ HB hg)); replace HB := aM_ (below_step (bB_ HB) hb); clear hb hbox hg; have hcz25_0 := bc_ BK106 0; have hcz25_1 := bc_ BK106 1; have hcz25_2 := bc_ BK106 2; have hcz25_3 := bc_ BK106 3; have hfz25_0 := blk_frozen BK106.out 0; have hfz25_1 := blk_frozen BK106.out 1; have hfz25_2 := blk_frozen BK106.out 2; have hfz25_3 := blk_frozen BK106.out 3))
        replace HO_15 : Aside0 (Kd.R k62 62 ((((w24.setCell ⟨gb106, 0, none⟩ (.int .i64 ((rd_T62 t102 x17_2).f0))).setCell ⟨gb106, 1, none⟩ (.int .i64 ((rd_T62 t102 x17_2).f1))).setCell ⟨gb106, 2, none⟩ (.int .i64 ((rd_T62 t102 x17_2).f2))).setCell ⟨gb106, 3, none⟩ (.int .i64 ((rd_T62 t102 x17_2).f3))) w.heap.size (fun k_ => k_ ≠ gb106) (.slice (some ad105) t102.length co10) t102) := ⟨by (with_reducible repeat (first | apply kA_ | apply kN_ | apply kD_)); exact Kd.R_mono (Kd.R_far (p := ⟨gb106, 3, none⟩) (Kd.R_far (p := ⟨gb106, 2, none⟩) (Kd.R_far (p := ⟨gb106, 1, none⟩) (Kd.R_far (p := ⟨gb106, 0, none⟩) (Kd.R_mono HO_15.out (fun k_ hk => (⟨hk, hk.2⟩ : _ ∧ k_ ≠ gb106))) (fun _ hk => hk.2) (.int .i64 ((rd_T62 t102 x17_2).f0))) (fun _ hk => hk.2) (.int .i64 ((rd_T62 t102 x17_2).f1))) (fun _ hk => hk.2) (.int .i64 ((rd_T62 t102 x17_2).f2))) (fun _ hk => hk.2) (.int .i64 ((rd_T62 t102 x17_2).f3))) (fun _ hk => hk.1.2)⟩
        replace BK106 : Aside0 (((((w24.setCell ⟨gb106, 0, none⟩ (.int .i64 ((rd_T62 t102 x17_2).f0))).setCell ⟨gb106, 1, none⟩ (.int .i64 ((rd_T62 t102 x17_2).f1))).setCell ⟨gb106, 2, none⟩ (.int .i64 ((rd_T62 t102 x17_2).f2))).setCell ⟨gb106, 3, none⟩ (.int .i64 ((rd_T62 t102 x17_2).f3))).heap[gb106]? = some (.cells #[.int .i64 ((rd_T62 t102 x17_2).f0), .int .i64 ((rd_T62 t102 x17_2).f1), .int .i64 ((rd_T62 t102 x17_2).f2), .int .i64 ((rd_T62 t102 x17_2).f3)] 62 (0, 0))) := ⟨by (with_reducible repeat (first | refine blk_drewN ?_ _ | refine blk_drew ?_ | refine blk_alloc ?_ _)); refine blk_put (cs := #[.int .i64 ((rd_T62 t102 x17_2).f0), .int .i64 ((rd_T62 t102 x17_2).f1), .int .i64 ((rd_T62 t102 x17_2).f2), .int .i64 0]) ?_ 3 _ rfl; (with_reducible repeat (first | refine blk_drewN ?_ _ | refine blk_drew ?_ | refine blk_alloc ?_ _)); refine blk_put (cs := #[.int .i64 ((rd_T62 t102 x17_2).f0), .int .i64 ((rd_T62 t102 x17_2).f1), .int .i64 0, .int .i64 0]) ?_ 2 _ rfl; (with_reducible repeat (first | refine blk_drewN ?_ _ | refine blk_drew ?_ | refine blk_alloc ?_ _)); refine blk_put (cs := #[.int .i64 ((rd_T62 t102 x17_2).f0), .int .i64 0, .int .i64 0, .int .i64 0]) ?_ 1 _ rfl; (with_reducible repeat (first | refine blk_drewN ?_ _ | refine blk_drew ?_ | refine blk_alloc ?_ _)); refine blk_put (cs := #[.int .i64 0, .int .i64 0, .int .i64 0, .int .i64 0]) ?_ 0 _ rfl; (with_reducible repeat (first | refine blk_drewN ?_ _ | refine blk_drew ?_ | refine blk_alloc ?_ _)); exact BK106.out⟩
        replace HB : Aside0 (Below w.heap.size w ((((w24.setCell ⟨gb106, 0, none⟩ (.int .i64 ((rd_T62 t102 x17_2).f0))).setCell ⟨gb106, 1, none⟩ (.int .i64 ((rd_T62 t102 x17_2).f1))).setCell ⟨gb106, 2, none⟩ (.int .i64 ((rd_T62 t102 x17_2).f2))).setCell ⟨gb106, 3, none⟩ (.int .i64 ((rd_T62 t102 x17_2).f3)))) := ⟨bB_ HB⟩
        generalize ((((w24.setCell ⟨gb106, 0, none⟩ (.int .i64 ((rd_T62 t102 x17_2).f0))).setCell ⟨gb106, 1, none⟩ (.int .i64 ((rd_T62 t102 x17_2).f1))).setCell ⟨gb106, 2, none⟩ (.int .i64 ((rd_T62 t102 x17_2).f2))).setCell ⟨gb106, 3, none⟩ (.int .i64 ((rd_T62 t102 x17_2).f3))) = w26 at HO_15 BK106 HB ⊢
        replace HO_15 := aM_ (kD_ HO_15.out)
        replace BK106 := aM_ (blk_drew BK106.out)
        replace HB := aM_ (bD_ HB.out)
        have p107 : 0 ≤ (((rd_T62 t102 x17_2).f0) : Int) := ode_
        have q107 : ((rd_T62 t102 x17_2).f0) < (l0.length : Int) := ode_
        obtain ⟨ad107, e107, hx107_0, hx107_1⟩ := at_T34 HR0.out ((rd_T62 t102 x17_2).f0) p107 q107
        have hw107_1 := hx107_1
        have hw107_0 := hx107_0
        cases e107
        replace hx107_0 := hbc_ HB hx107_0
        replace hx107_1 := hbc_ HB hx107_1
        replace p107 := eq_true p107
        replace q107 := eq_true q107
        have p108 : 0 ≤ (((rd_T62 t102 x17_2).f1) : Int) := ode_
        have q108 : ((rd_T62 t102 x17_2).f1) < (l0.length : Int) := ode_
        obtain ⟨ad108, e108, hx108_0, hx108_1⟩ := at_T34 HR0.out ((rd_T62 t102 x17_2).f1) p108 q108
        have hw108_1 := hx108_1
        have hw108_0 := hx108_0
        obtain rfl : ad107 = ad108 := (by injection e108)
        replace hx108_0 := hbc_ HB hx108_0
        replace hx108_1 := hbc_ HB hx108_1
        replace p108 := eq_true p108
        replace q108 := eq_true q108
        have p109 : 0 ≤ (((rd_T62 t102 x17_2).f2) : Int) := ode_
        have q109 : ((rd_T62 t102 x17_2).f2) < (l0.length : Int) := ode_
        obtain ⟨ad109, e109, hx109_0, hx109_1⟩ := at_T34 HR0.out ((rd_T62 t102 x17_2).f2) p109 q109
        have hw109_1 := hx109_1
        have hw109_0 := hx109_0
        obtain rfl : ad107 = ad109 := (by injection e109)
        replace hx109_0 := hbc_ HB hx109_0
        replace hx109_1 := hbc_ HB hx109_1
        replace p109 := eq_true p109
        replace q109 := eq_true q109
        have p110 : 0 ≤ (((rd_T62 t102 x17_2).f3) : Int) := ode_
        have q110 : ((rd_T62 t102 x17_2).f3) < (l0.length : Int) := ode_
        obtain ⟨ad110, e110, hx110_0, hx110_1⟩ := at_T34 HR0.out ((rd_T62 t102 x17_2).f3) p110 q110
        have hw110_1 := hx110_1
        have hw110_0 := hx110_0
        obtain rfl : ad107 = ad110 := (by injection e110)
        replace hx110_0 := hbc_ HB hx110_0
        replace hx110_1 := hbc_ HB hx110_1
        replace p110 := eq_true p110
        replace q110 := eq_true q110
        refine start_ (n := 22) (S := fun w' => w'.cell? ⟨gb106, 0, none⟩ = some (.int .i64 ((rd_T62 t102 x17_2).f0)) ∧ w'.cell? ⟨gb106, 1, none⟩ = some (.int .i64 ((rd_T62 t102 x17_2).f1)) ∧ w'.cell? ⟨gb106, 2, none⟩ = some (.int .i64 ((rd_T62 t102 x17_2).f2)) ∧ w'.cell? ⟨gb106, 3, none⟩ = some (.int .i64 ((rd_T62 t102 x17_2).f3)) ∧ w'.cell? (ad107.add ((((rd_T62 t102 x17_2).f0)).toNat * 2)) = some (.int .i64 ((rd_T34 l0 ((rd_T62 t102 x17_2).f0)).f0)) ∧ w'.cell? ⟨(ad107.add ((((rd_T62 t102 x17_2).f0)).toNat * 2)).block, (ad107.add ((((rd_T62 t102 x17_2).f0)).toNat * 2)).off + 1, none⟩ = some (.int .i64 ((rd_T34 l0 ((rd_T62 t102 x17_2).f0)).f1)) ∧ w'.cell? (ad107.add ((((rd_T62 t102 x17_2).f1)).toNat * 2)) = some (.int .i64 ((rd_T34 l0 ((rd_T62 t102 x17_2).f1)).f0)) ∧ w'.cell? ⟨(ad107.add ((((rd_T62 t102 x17_2).f1)).toNat * 2)).block, (ad107.add ((((rd_T62 t102 x17_2).f1)).toNat * 2)).off + 1, none⟩ = some (.int .i64 ((rd_T34 l0 ((rd_T62 t102 x17_2).f1)).f1)) ∧ w'.cell? (ad107.add ((((rd_T62 t102 x17_2).f2)).toNat * 2)) = some (.int .i64 ((rd_T34 l0 ((rd_T62 t102 x17_2).f2)).f0)) ∧ w'.cell? ⟨(ad107.add ((((rd_T62 t102 x17_2).f2)).toNat * 2)).block, (ad107.add ((((rd_T62 t102 x17_2).f2)).toNat * 2)).off + 1, none⟩ = some (.int .i64 ((rd_T34 l0 ((rd_T62 t102 x17_2).f2)).f1)) ∧ w'.cell? (ad107.add ((((rd_T62 t102 x17_2).f3)).toNat * 2)) = some (.int .i64 ((rd_T34 l0 ((rd_T62 t102 x17_2).f3)).f0)) ∧ w'.cell? ⟨(ad107.add ((((rd_T62 t102 x17_2).f3)).toNat * 2)).block, (ad107.add ((((rd_T62 t102 x17_2).f3)).toNat * 2)).off + 1, none⟩ = some (.int .i64 ((rd_T34 l0 ((rd_T62 t102 x17_2).f3)).f1))) (ds := []) (bm 22 0) (by kernel_rfl) rfl rfl ⟨bc_ BK106 0, bc_ BK106 1, bc_ BK106 2, bc_ BK106 3, (hbc_ HB hw107_0), (hbc_ HB hw107_1), (hbc_ HB hw108_0), (hbc_ HB hw108_1), (hbc_ HB hw109_0), (hbc_ HB hw109_1), (hbc_ HB hw110_0), (hbc_ HB hw110_1)⟩ (fun hHeld => ?_); refine with_tabW impl_AreFree.tab6 impl_AreFree.bits6 (fun HT_ HW_ => ?_)
        generalize w26.drew = w27 at HO_15 BK106 HB hx107_0 hx107_1 hx108_0 hx108_1 hx109_0 hx109_1 hx110_0 hx110_1 hHeld ⊢
        refine plan_ ((0, 0, 21, 1) :: (0, 1, 22, 3) :: (0, 5, 26, 35) :: (0, 6, 27, 99) :: (0, 10, 31, 1123) :: (0, 11, 32, 3171) :: (0, 15, 36, 35939) :: (0, 16, 37, 101475) :: (2, 2, 23, 101479) :: (0, 3, 24, 101487) :: (2, 4, 25, 101503) :: (2, 7, 28, 101631) :: (0, 8, 29, 101887) :: (2, 9, 30, 102399) :: (2, 12, 33, 106495) :: (0, 13, 34, 114687) :: (2, 14, 35, 131071) :: (2, 17, 38, 262143) :: (0, 18, 39, 524287) :: (2, 19, 40, 1048575) :: []) ?_
        iterate 20 (first | refine pV_ HT_ ?_ | refine pT_ HT_ HW_ hHeld ?_)
        refine planEnd_ ?_
        refine one_ (i := 20) (N := some 41) (bm 22 2097151) rfl rfl (one_of HT_.out (by kernel_rfl)) (by decide) (fun K hK => ?_)
        refine goesO_ Tryz.func45 #[.agg #[.int .i64 ((rd_T34 l0 ((rd_T62 t102 x17_2).f0)).f0), .int .i64 ((rd_T34 l0 ((rd_T62 t102 x17_2).f0)).f1)], .agg #[.int .i64 ((rd_T34 l0 ((rd_T62 t102 x17_2).f1)).f0), .int .i64 ((rd_T34 l0 ((rd_T62 t102 x17_2).f1)).f1)], .agg #[.int .i64 ((rd_T34 l0 ((rd_T62 t102 x17_2).f2)).f0), .int .i64 ((rd_T34 l0 ((rd_T62 t102 x17_2).f2)).f1)], .agg #[.int .i64 ((rd_T34 l0 ((rd_T62 t102 x17_2).f3)).f0), .int .i64 ((rd_T34 l0 ((rd_T62 t102 x17_2).f3)).f1)]] ?_
        with_reducible refine (impl_SideOfCircle.calls ((rd_T34 l0 ((rd_T62 t102 x17_2).f0)).f0) ((rd_T34 l0 ((rd_T62 t102 x17_2).f0)).f1) ((rd_T34 l0 ((rd_T62 t102 x17_2).f1)).f0) ((rd_T34 l0 ((rd_T62 t102 x17_2).f1)).f1) ((rd_T34 l0 ((rd_T62 t102 x17_2).f2)).f0) ((rd_T34 l0 ((rd_T62 t102 x17_2).f2)).f1) ((rd_T34 l0 ((rd_T62 t102 x17_2).f3)).f0) ((rd_T34 l0 ((rd_T62 t102 x17_2).f3)).f1) t111 _ A22.out).mono ?_
        rintro e w28 ⟨rfl, hb⟩
        refine ⟨_, rfl, ?_⟩
        replace HO_15 := aM_ (Kd.R_below (kr_ HO_15) hb)
        replace BK106 := aM_ (bkb_ BK106 hb)
        replace HB := aM_ (below_step (bB_ HB) hb)
        (try clear hb)
        (try clear hk)
        refine hK.out _ _ ⟨bc_ BK106 0, bc_ BK106 1, bc_ BK106 2, bc_ BK106 3, (hbc_ HB hw107_0), (hbc_ HB hw107_1), (hbc_ HB hw108_0), (hbc_ HB hw108_1), (hbc_ HB hw109_0), (hbc_ HB hw109_1), (hbc_ HB hw110_0), (hbc_ HB hw110_1)⟩ (fun hHeld => ?_)
        clear hK K
        refine nrm_ ?_
        refine plan_ ((0, 21, 42, 4194303) :: []) ?_
        iterate 1 (first | refine pV_ HT_ ?_)
        refine planEnd_ ?_
        refine done_ (done_of HT_.out (by kernel_rfl)) ?_
        try go_wp2
        go_ret
        exact ⟨verr_, bB_ HB⟩
       ·have c23b0 : (t111 == 0) = false := beq_eq_false_iff_ne.mpr c23
        have c23b1 : (t111 != 0) = true := bne_iff_ne.mpr c23
        have H' := aM_ H
        clear H
        obtain ⟨p105, q105, ad105, e105, hx105_0, hx105_1, hx105_2, hx105_3⟩ := atW_ (at_T62 (Kd.R_reads' HO_15.out).2.2 x17_2)
        cases e105
        try go_wp2_with (first | ((with_reducible refine gate_dst (N := 4) rfl ?_); (try (refine gate_guard (by rfl) ?_; dsimp only)); refine boxE_ (N := 4) #[.int .i64 0, .int .i64 0, .int .i64 0, .int .i64 0] 62 ?_; intro gb106 hg w29 hbox hb; replace HO_15 := aM_ (Kd.R_below (Kd.R_elderB (kr_ HO_15) gb106 (Nat.le_of_eq hg.symm)) hb); have BK106 := aM_ (hbox); have GW106 := aM_ ((bs_ HB hg)); have GE106 := aM_ ((bs_ HB hg)); replace HB := aM_ (below_step (bB_ HB) hb); clear hb hbox hg; have hcz30_0 := bc_ BK106 0; have hcz30_1 := bc_ BK106 1; have hcz30_2 := bc_ BK106 2; have hcz30_3 := bc_ BK106 3; have hfz30_0 := blk_frozen BK106.out 0; have hfz30_1 := blk_frozen BK106.out 1; have hfz30_2 := blk_frozen BK106.out 2; have hfz30_3 := blk_frozen BK106.out 3))
        replace HO_15 : Aside0 (Kd.R k62 62 ((((w29.setCell ⟨gb106, 0, none⟩ (.int .i64 ((rd_T62 t102 x17_2).f0))).setCell ⟨gb106, 1, none⟩ (.int .i64 ((rd_T62 t102 x17_2).f1))).setCell ⟨gb106, 2, none⟩ (.int .i64 ((rd_T62 t102 x17_2).f2))).setCell ⟨gb106, 3, none⟩ (.int .i64 ((rd_T62 t102 x17_2).f3))) w.heap.size (fun k_ => k_ ≠ gb106) (.slice (some ad105) t102.length co10) t102) := ⟨by (with_reducible repeat (first | apply kA_ | apply kN_ | apply kD_)); exact Kd.R_mono (Kd.R_far (p := ⟨gb106, 3, none⟩) (Kd.R_far (p := ⟨gb106, 2, none⟩) (Kd.R_far (p := ⟨gb106, 1, none⟩) (Kd.R_far (p := ⟨gb106, 0, none⟩) (Kd.R_mono HO_15.out (fun k_ hk => (⟨hk, hk.2⟩ : _ ∧ k_ ≠ gb106))) (fun _ hk => hk.2) (.int .i64 ((rd_T62 t102 x17_2).f0))) (fun _ hk => hk.2) (.int .i64 ((rd_T62 t102 x17_2).f1))) (fun _ hk => hk.2) (.int .i64 ((rd_T62 t102 x17_2).f2))) (fun _ hk => hk.2) (.int .i64 ((rd_T62 t102 x17_2).f3))) (fun _ hk => hk.1.2)⟩
        replace BK106 : Aside0 (((((w29.setCell ⟨gb106, 0, none⟩ (.int .i64 ((rd_T62 t102 x17_2).f0))).setCell ⟨gb106, 1, none⟩ (.int .i64 ((rd_T62 t102 x17_2).f1))).setCell ⟨gb106, 2, none⟩ (.int .i64 ((rd_T62 t102 x17_2).f2))).setCell ⟨gb106, 3, none⟩ (.int .i64 ((rd_T62 t102 x17_2).f3))).heap[gb106]? = some (.cells #[.int .i64 ((rd_T62 t102 x17_2).f0), .int .i64 ((rd_T62 t102 x17_2).f1), .int .i64 ((rd_T62 t102 x17_2).f2), .int .i64 ((rd_T62 t102 x17_2).f3)] 62 (0, 0))) := ⟨by (with_reducible repeat (first | refine blk_drewN ?_ _ | refine blk_drew ?_ | refine blk_alloc ?_ _)); refine blk_put (cs := #[.int .i64 ((rd_T62 t102 x17_2).f0), .int .i64 ((rd_T62 t102 x17_2).f1), .int .i64 ((rd_T62 t102 x17_2).f2), .int .i64 0]) ?_ 3 _ rfl; (with_reducible repeat (first | refine blk_drewN ?_ _ | refine blk_drew ?_ | refine blk_alloc ?_ _)); refine blk_put (cs := #[.int .i64 ((rd_T62 t102 x17_2).f0), .int .i64 ((rd_T62 t102 x17_2).f1), .int .i64 0, .int .i64 0]) ?_ 2 _ rfl; (with_reducible repeat (first | refine blk_drewN ?_ _ | refine blk_drew ?_ | refine blk_alloc ?_ _)); refine blk_put (cs := #[.int .i64 ((rd_T62 t102 x17_2).f0), .int .i64 0, .int .i64 0, .int .i64 0]) ?_ 1 _ rfl; (with_reducible repeat (first | refine blk_drewN ?_ _ | refine blk_drew ?_ | refine blk_alloc ?_ _)); refine blk_put (cs := #[.int .i64 0, .int .i64 0, .int .i64 0, .int .i64 0]) ?_ 0 _ rfl; (with_reducible repeat (first | refine blk_drewN ?_ _ | refine blk_drew ?_ | refine blk_alloc ?_ _)); exact BK106.out⟩
        replace HB : Aside0 (Below w.heap.size w ((((w29.setCell ⟨gb106, 0, none⟩ (.int .i64 ((rd_T62 t102 x17_2).f0))).setCell ⟨gb106, 1, none⟩ (.int .i64 ((rd_T62 t102 x17_2).f1))).setCell ⟨gb106, 2, none⟩ (.int .i64 ((rd_T62 t102 x17_2).f2))).setCell ⟨gb106, 3, none⟩ (.int .i64 ((rd_T62 t102 x17_2).f3)))) := ⟨bB_ HB⟩
        generalize ((((w29.setCell ⟨gb106, 0, none⟩ (.int .i64 ((rd_T62 t102 x17_2).f0))).setCell ⟨gb106, 1, none⟩ (.int .i64 ((rd_T62 t102 x17_2).f1))).setCell ⟨gb106, 2, none⟩ (.int .i64 ((rd_T62 t102 x17_2).f2))).setCell ⟨gb106, 3, none⟩ (.int .i64 ((rd_T62 t102 x17_2).f3))) = w31 at HO_15 BK106 HB ⊢
        replace HO_15 := aM_ (kD_ HO_15.out)
        replace BK106 := aM_ (blk_drew BK106.out)
        replace HB := aM_ (bD_ HB.out)
        have p107 : 0 ≤ (((rd_T62 t102 x17_2).f0) : Int) := ode_
        have q107 : ((rd_T62 t102 x17_2).f0) < (l0.length : Int) := ode_
        obtain ⟨ad107, e107, hx107_0, hx107_1⟩ := at_T34 HR0.out ((rd_T62 t102 x17_2).f0) p107 q107
        have hw107_1 := hx107_1
        have hw107_0 := hx107_0
        cases e107
        replace hx107_0 := hbc_ HB hx107_0
        replace hx107_1 := hbc_ HB hx107_1
        replace p107 := eq_true p107
        replace q107 := eq_true q107
        have p108 : 0 ≤ (((rd_T62 t102 x17_2).f1) : Int) := ode_
        have q108 : ((rd_T62 t102 x17_2).f1) < (l0.length : Int) := ode_
        obtain ⟨ad108, e108, hx108_0, hx108_1⟩ := at_T34 HR0.out ((rd_T62 t102 x17_2).f1) p108 q108
        have hw108_1 := hx108_1
        have hw108_0 := hx108_0
        obtain rfl : ad107 = ad108 := (by injection e108)
        replace hx108_0 := hbc_ HB hx108_0
        replace hx108_1 := hbc_ HB hx108_1
        replace p108 := eq_true p108
        replace q108 := eq_true q108
        have p109 : 0 ≤ (((rd_T62 t102 x17_2).f2) : Int) := ode_
        have q109 : ((rd_T62 t102 x17_2).f2) < (l0.length : Int) := ode_
        obtain ⟨ad109, e109, hx109_0, hx109_1⟩ := at_T34 HR0.out ((rd_T62 t102 x17_2).f2) p109 q109
        have hw109_1 := hx109_1
        have hw109_0 := hx109_0
        obtain rfl : ad107 = ad109 := (by injection e109)
        replace hx109_0 := hbc_ HB hx109_0
        replace hx109_1 := hbc_ HB hx109_1
        replace p109 := eq_true p109
        replace q109 := eq_true q109
        have p110 : 0 ≤ (((rd_T62 t102 x17_2).f3) : Int) := ode_
        have q110 : ((rd_T62 t102 x17_2).f3) < (l0.length : Int) := ode_
        obtain ⟨ad110, e110, hx110_0, hx110_1⟩ := at_T34 HR0.out ((rd_T62 t102 x17_2).f3) p110 q110
        have hw110_1 := hx110_1
        have hw110_0 := hx110_0
        obtain rfl : ad107 = ad110 := (by injection e110)
        replace hx110_0 := hbc_ HB hx110_0
        replace hx110_1 := hbc_ HB hx110_1
        replace p110 := eq_true p110
        replace q110 := eq_true q110
        refine start_ (n := 22) (S := fun w' => w'.cell? ⟨gb106, 0, none⟩ = some (.int .i64 ((rd_T62 t102 x17_2).f0)) ∧ w'.cell? ⟨gb106, 1, none⟩ = some (.int .i64 ((rd_T62 t102 x17_2).f1)) ∧ w'.cell? ⟨gb106, 2, none⟩ = some (.int .i64 ((rd_T62 t102 x17_2).f2)) ∧ w'.cell? ⟨gb106, 3, none⟩ = some (.int .i64 ((rd_T62 t102 x17_2).f3)) ∧ w'.cell? (ad107.add ((((rd_T62 t102 x17_2).f0)).toNat * 2)) = some (.int .i64 ((rd_T34 l0 ((rd_T62 t102 x17_2).f0)).f0)) ∧ w'.cell? ⟨(ad107.add ((((rd_T62 t102 x17_2).f0)).toNat * 2)).block, (ad107.add ((((rd_T62 t102 x17_2).f0)).toNat * 2)).off + 1, none⟩ = some (.int .i64 ((rd_T34 l0 ((rd_T62 t102 x17_2).f0)).f1)) ∧ w'.cell? (ad107.add ((((rd_T62 t102 x17_2).f1)).toNat * 2)) = some (.int .i64 ((rd_T34 l0 ((rd_T62 t102 x17_2).f1)).f0)) ∧ w'.cell? ⟨(ad107.add ((((rd_T62 t102 x17_2).f1)).toNat * 2)).block, (ad107.add ((((rd_T62 t102 x17_2).f1)).toNat * 2)).off + 1, none⟩ = some (.int .i64 ((rd_T34 l0 ((rd_T62 t102 x17_2).f1)).f1)) ∧ w'.cell? (ad107.add ((((rd_T62 t102 x17_2).f2)).toNat * 2)) = some (.int .i64 ((rd_T34 l0 ((rd_T62 t102 x17_2).f2)).f0)) ∧ w'.cell? ⟨(ad107.add ((((rd_T62 t102 x17_2).f2)).toNat * 2)).block, (ad107.add ((((rd_T62 t102 x17_2).f2)).toNat * 2)).off + 1, none⟩ = some (.int .i64 ((rd_T34 l0 ((rd_T62 t102 x17_2).f2)).f1)) ∧ w'.cell? (ad107.add ((((rd_T62 t102 x17_2).f3)).toNat * 2)) = some (.int .i64 ((rd_T34 l0 ((rd_T62 t102 x17_2).f3)).f0)) ∧ w'.cell? ⟨(ad107.add ((((rd_T62 t102 x17_2).f3)).toNat * 2)).block, (ad107.add ((((rd_T62 t102 x17_2).f3)).toNat * 2)).off + 1, none⟩ = some (.int .i64 ((rd_T34 l0 ((rd_T62 t102 x17_2).f3)).f1))) (ds := []) (bm 22 0) (by kernel_rfl) rfl rfl ⟨bc_ BK106 0, bc_ BK106 1, bc_ BK106 2, bc_ BK106 3, (hbc_ HB hw107_0), (hbc_ HB hw107_1), (hbc_ HB hw108_0), (hbc_ HB hw108_1), (hbc_ HB hw109_0), (hbc_ HB hw109_1), (hbc_ HB hw110_0), (hbc_ HB hw110_1)⟩ (fun hHeld => ?_); refine with_tabW impl_AreFree.tab6 impl_AreFree.bits6 (fun HT_ HW_ => ?_)
        generalize w31.drew = w32 at HO_15 BK106 HB hx107_0 hx107_1 hx108_0 hx108_1 hx109_0 hx109_1 hx110_0 hx110_1 hHeld ⊢
        refine plan_ ((0, 0, 21, 1) :: (0, 1, 22, 3) :: (0, 5, 26, 35) :: (0, 6, 27, 99) :: (0, 10, 31, 1123) :: (0, 11, 32, 3171) :: (0, 15, 36, 35939) :: (0, 16, 37, 101475) :: (2, 2, 23, 101479) :: (0, 3, 24, 101487) :: (2, 4, 25, 101503) :: (2, 7, 28, 101631) :: (0, 8, 29, 101887) :: (2, 9, 30, 102399) :: (2, 12, 33, 106495) :: (0, 13, 34, 114687) :: (2, 14, 35, 131071) :: (2, 17, 38, 262143) :: (0, 18, 39, 524287) :: (2, 19, 40, 1048575) :: []) ?_
        iterate 20 (first | refine pV_ HT_ ?_ | refine pT_ HT_ HW_ hHeld ?_)
        refine planEnd_ ?_
        refine one_ (i := 20) (N := some 41) (bm 22 2097151) rfl rfl (one_of HT_.out (by kernel_rfl)) (by decide) (fun K hK => ?_)
        refine goesO_ Tryz.func45 #[.agg #[.int .i64 ((rd_T34 l0 ((rd_T62 t102 x17_2).f0)).f0), .int .i64 ((rd_T34 l0 ((rd_T62 t102 x17_2).f0)).f1)], .agg #[.int .i64 ((rd_T34 l0 ((rd_T62 t102 x17_2).f1)).f0), .int .i64 ((rd_T34 l0 ((rd_T62 t102 x17_2).f1)).f1)], .agg #[.int .i64 ((rd_T34 l0 ((rd_T62 t102 x17_2).f2)).f0), .int .i64 ((rd_T34 l0 ((rd_T62 t102 x17_2).f2)).f1)], .agg #[.int .i64 ((rd_T34 l0 ((rd_T62 t102 x17_2).f3)).f0), .int .i64 ((rd_T34 l0 ((rd_T62 t102 x17_2).f3)).f1)]] ?_
        with_reducible refine (impl_SideOfCircle.calls ((rd_T34 l0 ((rd_T62 t102 x17_2).f0)).f0) ((rd_T34 l0 ((rd_T62 t102 x17_2).f0)).f1) ((rd_T34 l0 ((rd_T62 t102 x17_2).f1)).f0) ((rd_T34 l0 ((rd_T62 t102 x17_2).f1)).f1) ((rd_T34 l0 ((rd_T62 t102 x17_2).f2)).f0) ((rd_T34 l0 ((rd_T62 t102 x17_2).f2)).f1) ((rd_T34 l0 ((rd_T62 t102 x17_2).f3)).f0) ((rd_T34 l0 ((rd_T62 t102 x17_2).f3)).f1) t111 _ A22.out).mono ?_
        rintro e w33 ⟨rfl, hb⟩
        refine ⟨_, rfl, ?_⟩
        replace HO_15 := aM_ (Kd.R_below (kr_ HO_15) hb)
        replace BK106 := aM_ (bkb_ BK106 hb)
        replace HB := aM_ (below_step (bB_ HB) hb)
        (try clear hb)
        (try clear hk)
        refine hK.out _ _ ⟨bc_ BK106 0, bc_ BK106 1, bc_ BK106 2, bc_ BK106 3, (hbc_ HB hw107_0), (hbc_ HB hw107_1), (hbc_ HB hw108_0), (hbc_ HB hw108_1), (hbc_ HB hw109_0), (hbc_ HB hw109_1), (hbc_ HB hw110_0), (hbc_ HB hw110_1)⟩ (fun hHeld => ?_)
        clear hK K
        refine nrm_ ?_
        refine plan_ ((0, 21, 42, 4194303) :: []) ?_
        iterate 1 (first | refine pV_ HT_ ?_)
        refine planEnd_ ?_
        refine done_ (done_of HT_.out (by kernel_rfl)) ?_
        try go_wp2
        go_roundg k2
        case measure => have := HJ1.out; have := HK2.out; omega
        case rel => exact ⟨(wrap64 (x17_2 + 1)), veq_, H', ⟨by have := HJ1.out; have := HK2.out; omega⟩, ⟨by (with_reducible repeat (first | apply kA_ | apply kN_ | apply kD_)); exact Kd.R_mono HO_15.out (fun _ hk => trivial)⟩, ⟨bB_ HB⟩⟩
      ·obtain rfl := Option.some.inj H
       go_wp2
       go_ret
       exact ⟨verr_, bB_ HB⟩
end Go.Proofs.YteaagaekdkolnaaGreatDoor.P

namespace Go.Proofs.YteaagaekdkolnaaGreatDoor.P
open Go.RowKit Go.Proofs.YteaagaekdkolnaaGreatDoorW.PrintWords Go.Proofs.YteaagaekdkolnaaGreatDoorW.PrintLast Go.Proofs.YteaagaekdkolnaaGreatDoorW.PrintMore
attribute [local go_sem] max2_int min2_int max_two min_two max_three min_three max_four min_four   -- for this text's walks alone
set_option linter.unusedVariables false
set_option linter.unusedSimpArgs false
/-! ### impl_DescribePoints: function 7 -/
def impl_DescribePoints.f (k : Nat) (l0 : List (S34)) : Option (ByteArray) := (impl_ArePoints.f k l0).bind fun t101 => (if t101 = true then ((impl_HullArea.f k l0).bind fun t102 => ((impl_FormatInt.f t102).bind fun t103 => ((impl_EdgePoints.f k l0).bind fun t104 => ((impl_FormatInt.f t104).bind fun t105 => ((impl_InnerPoints.f k l0).bind fun t106 => ((impl_FormatInt.f t106).bind fun t107 => ((impl_AreFree.f k l0).bind fun t108 => ((impl_yesNo.f t108).bind fun t109 => ((impl_Join.f (([(⟨#[97, 114, 101, 97]⟩ : ByteArray), t103, (⟨#[101, 100, 103, 101]⟩ : ByteArray), t105, (⟨#[105, 110, 110, 101, 114]⟩ : ByteArray), t107, (⟨#[102, 114, 101, 101]⟩ : ByteArray), t109] : List ByteArray)) (⟨#[32]⟩ : ByteArray)).bind fun t113 => (some t113)))))))))) else (some (⟨#[]⟩ : ByteArray)))
set_option maxHeartbeats 8000000 in
set_option maxRecDepth 100000 in
theorem impl_DescribePoints.calls (k : Nat) (A0 : Option Addr) (c0 : Nat) (l0 : List (S34)) (r : ByteArray) (w : World) (hr0 : Kd.C k34 w A0 l0.length l0) (hc0 : l0.length ≤ c0) (h : impl_DescribePoints.f k l0 = some r) (htab_ : Tab w) :
  Calls Tryz.prog 7 #[.slice A0 l0.length c0] w fun e w' => e = .returned (.string r) ∧ Below w.heap.size w w' := by
 have HTAB := aM_ htab_
 clear htab_
 have HR0 := aM_ hr0
 have HC0 := aM_ hc0
 clear hr0 hc0
 have HB := aM_ (Below.refl w.heap.size w)
 have H : ((impl_ArePoints.f k l0).bind fun t101 => (if t101 = true then ((impl_HullArea.f k l0).bind fun t102 => ((impl_FormatInt.f t102).bind fun t103 => ((impl_EdgePoints.f k l0).bind fun t104 => ((impl_FormatInt.f t104).bind fun t105 => ((impl_InnerPoints.f k l0).bind fun t106 => ((impl_FormatInt.f t106).bind fun t107 => ((impl_AreFree.f k l0).bind fun t108 => ((impl_yesNo.f t108).bind fun t109 => ((impl_Join.f (([(⟨#[97, 114, 101, 97]⟩ : ByteArray), t103, (⟨#[101, 100, 103, 101]⟩ : ByteArray), t105, (⟨#[105, 110, 110, 101, 114]⟩ : ByteArray), t107, (⟨#[102, 114, 101, 101]⟩ : ByteArray), t109] : List ByteArray)) (⟨#[32]⟩ : ByteArray)).bind fun t113 => (some t113)))))))))) else (some (⟨#[]⟩ : ByteArray)))) = some r := h
 clear h
 replace H := oB_ H
 obtain ⟨t101, A20, H⟩ := H
 have A2 := aM_ A20
 clear A20
 by_cases c3 : t101 = true
 ·subst c3
  rw [if_pos rfl] at H
  replace H := oB_ H
  obtain ⟨t102, A40, H⟩ := H
  have A4 := aM_ A40
  clear A40
  replace H := oB_ H
  obtain ⟨t103, A50, H⟩ := H
  have A5 := aM_ A50
  clear A50
  replace H := oB_ H
  obtain ⟨t104, A60, H⟩ := H
  have A6 := aM_ A60
  clear A60
  replace H := oB_ H
  obtain ⟨t105, A70, H⟩ := H
  have A7 := aM_ A70
  clear A70
  replace H := oB_ H
  obtain ⟨t106, A80, H⟩ := H
  have A8 := aM_ A80
  clear A80
  replace H := oB_ H
  obtain ⟨t107, A90, H⟩ := H
  have A9 := aM_ A90
  clear A90
  replace H := oB_ H
  obtain ⟨t108, A100, H⟩ := H
  have A10 := aM_ A100
  clear A100
  replace H := oB_ H
  obtain ⟨t109, A110, H⟩ := H
  have A11 := aM_ A110
  clear A110
  obtain ⟨y110, hy110⟩ : ∃ y_ : List ByteArray, y_ = (([(⟨#[97, 114, 101, 97]⟩ : ByteArray), t103, (⟨#[101, 100, 103, 101]⟩ : ByteArray), t105, (⟨#[105, 110, 110, 101, 114]⟩ : ByteArray), t107, (⟨#[102, 114, 101, 101]⟩ : ByteArray), t109] : List ByteArray)) := ⟨_, rfl⟩
  replace H : ((impl_Join.f y110 (⟨#[32]⟩ : ByteArray)).bind fun t113 => (some t113)) = some r := by first | (rw [hy110]; with_reducible exact H) | (have H2_ := (Option.bind_some _ _).symm.trans H; rw [hy110]; with_reducible exact H2_) | (have H2_ := (Option.bind_some _ _).symm.trans H; with_reducible exact H2_) | with_reducible exact H | (rw [hy110]; exact H) | exact H
  have Ny110 := aM_ hy110
  clear hy110
  replace H := oB_ H
  obtain ⟨t113, A120, H⟩ := H
  have A12 := aM_ A120
  clear A120
  obtain rfl := Option.some.inj H
  go_enter Tryz.func7, Tryz.ntmps7
  go_wp2_with (first | ((with_reducible refine gate_callee (f := 17) rfl ?_); refine goesM_ (some 4) Tryz.func17 #[.slice A0 l0.length c0] ?_; (with_reducible refine (impl_ArePoints.calls k _ _ l0 true _ ?side1 ?side2 A2.out).mono ?_); (case side1 => repeat (first | exact HR0.out | (with_reducible refine Kd.C_alloc ?_ _) | (with_reducible refine Kd.C_drewN ?_ _) | (with_reducible refine Kd.C_drew ?_))); (case side2 => exact HC0.out); rintro e w13 ⟨rfl, hb⟩; refine ⟨_, rfl, ?_⟩; replace HB := aM_ (below_step (bB_ HB) hb); (try clear hb); (try clear hk)) | ((with_reducible refine gate_callee (f := 20) rfl ?_); refine goesM_ (some 7) Tryz.func20 #[.slice A0 l0.length c0] ?_; (with_reducible refine (impl_HullArea.calls k _ _ l0 t102 _ ?side1 ?side2 A4.out).mono ?_); (case side1 => repeat (first | exact (Kd.C_below HR0.out HB.out) | (with_reducible refine Kd.C_alloc ?_ _) | (with_reducible refine Kd.C_drewN ?_ _) | (with_reducible refine Kd.C_drew ?_))); (case side2 => exact HC0.out); rintro e w14 ⟨rfl, hb⟩; refine ⟨_, rfl, ?_⟩; replace HB := aM_ (below_step (bB_ HB) hb); (try clear hb); (try clear hk)) | ((with_reducible refine gate_callee (f := 19) rfl ?_); refine goesM_ (some 8) Tryz.func19 #[.int .i64 t102] ?_; (with_reducible refine (impl_FormatInt.calls t102 t103 _ A5.out (Tab.on HTAB.out (bB_ HB))).mono ?_); rintro e w15 ⟨rfl, hb⟩; refine ⟨_, rfl, ?_⟩; replace HB := aM_ (below_step (bB_ HB) hb); (try clear hb); (try clear hk)) | ((with_reducible refine gate_callee (f := 21) rfl ?_); refine goesM_ (some 10) Tryz.func21 #[.slice A0 l0.length c0] ?_; (with_reducible refine (impl_EdgePoints.calls k _ _ l0 t104 _ ?side1 ?side2 A6.out).mono ?_); (case side1 => repeat (first | exact (Kd.C_below HR0.out HB.out) | (with_reducible refine Kd.C_alloc ?_ _) | (with_reducible refine Kd.C_drewN ?_ _) | (with_reducible refine Kd.C_drew ?_))); (case side2 => exact HC0.out); rintro e w16 ⟨rfl, hb⟩; refine ⟨_, rfl, ?_⟩; replace HB := aM_ (below_step (bB_ HB) hb); (try clear hb); (try clear hk)) | ((with_reducible refine gate_callee (f := 19) rfl ?_); refine goesM_ (some 11) Tryz.func19 #[.int .i64 t104] ?_; (with_reducible refine (impl_FormatInt.calls t104 t105 _ A7.out (Tab.on HTAB.out (bB_ HB))).mono ?_); rintro e w17 ⟨rfl, hb⟩; refine ⟨_, rfl, ?_⟩; replace HB := aM_ (below_step (bB_ HB) hb); (try clear hb); (try clear hk)) | ((with_reducible refine gate_callee (f := 22) rfl ?_); refine goesM_ (some 13) Tryz.func22 #[.slice A0 l0.length c0] ?_; (with_reducible refine (impl_InnerPoints.calls k _ _ l0 t106 _ ?side1 ?side2 A8.out).mono ?_); (case side1 => repeat (first | exact (Kd.C_below HR0.out HB.out) | (with_reducible refine Kd.C_alloc ?_ _) | (with_reducible refine Kd.C_drewN ?_ _) | (with_reducible refine Kd.C_drew ?_))); (case side2 => exact HC0.out); rintro e w18 ⟨rfl, hb⟩; refine ⟨_, rfl, ?_⟩; replace HB := aM_ (below_step (bB_ HB) hb); (try clear hb); (try clear hk)) | ((with_reducible refine gate_callee (f := 19) rfl ?_); refine goesM_ (some 14) Tryz.func19 #[.int .i64 t106] ?_; (with_reducible refine (impl_FormatInt.calls t106 t107 _ A9.out (Tab.on HTAB.out (bB_ HB))).mono ?_); rintro e w19 ⟨rfl, hb⟩; refine ⟨_, rfl, ?_⟩; replace HB := aM_ (below_step (bB_ HB) hb); (try clear hb); (try clear hk)) | ((with_reducible refine gate_callee (f := 24) rfl ?_); refine goesM_ (some 16) Tryz.func24 #[.slice A0 l0.length c0] ?_; (with_reducible refine (impl_AreFree.calls k _ _ l0 t108 _ ?side1 ?side2 A10.out).mono ?_); (case side1 => repeat (first | exact (Kd.C_below HR0.out HB.out) | (with_reducible refine Kd.C_alloc ?_ _) | (with_reducible refine Kd.C_drewN ?_ _) | (with_reducible refine Kd.C_drew ?_))); (case side2 => exact HC0.out); rintro e w20 ⟨rfl, hb⟩; refine ⟨_, rfl, ?_⟩; replace HB := aM_ (below_step (bB_ HB) hb); (try clear hb); (try clear hk)) | ((with_reducible refine gate_callee (f := 23) rfl ?_); refine goesM_ (some 17) Tryz.func23 #[.bool t108] ?_; (with_reducible refine (impl_yesNo.calls t108 t109 _ A11.out).mono ?_); rintro e w' ⟨rfl, ⟨nd, rfl⟩⟩; refine ⟨_, rfl, ?_⟩) | ((with_reducible refine gate_dst (N := 18) rfl ?_); refine Kd.R_lit Kd.string _ 9 ?hg (N := 18) ?hd (xs := ([(⟨#[97, 114, 101, 97]⟩ : ByteArray), t103, (⟨#[101, 100, 103, 101]⟩ : ByteArray), t105, (⟨#[105, 110, 110, 101, 114]⟩ : ByteArray), t107, (⟨#[102, 114, 101, 101]⟩ : ByteArray), t109] : List ByteArray)) (inner := [.string (⟨#[97, 114, 101, 97]⟩ : ByteArray), .string t103, .string (⟨#[101, 100, 103, 101]⟩ : ByteArray), .string t105, .string (⟨#[105, 110, 110, 101, 114]⟩ : ByteArray), .string t107, .string (⟨#[102, 114, 101, 101]⟩ : ByteArray), .string t109]) (ok := fun _ => True) (okp := fun _ => True) ?hr ?hp (fun _ hk => hk) trivial (Below.refl _ _) (Nat.le_refl _) (by simp) ?_; (case hd => rfl); (case hg => rfl); (case hr => first | (go_simp; done) | (go_simp; rfl)); (case hp => exact (Reps.one (show Kd.M Kd.string _ _ _ (⟨#[97, 114, 101, 97]⟩ : ByteArray) [.string (⟨#[97, 114, 101, 97]⟩ : ByteArray)] from rfl) (Reps.one (show Kd.M Kd.string _ _ _ t103 [.string t103] from rfl) (Reps.one (show Kd.M Kd.string _ _ _ (⟨#[101, 100, 103, 101]⟩ : ByteArray) [.string (⟨#[101, 100, 103, 101]⟩ : ByteArray)] from rfl) (Reps.one (show Kd.M Kd.string _ _ _ t105 [.string t105] from rfl) (Reps.one (show Kd.M Kd.string _ _ _ (⟨#[105, 110, 110, 101, 114]⟩ : ByteArray) [.string (⟨#[105, 110, 110, 101, 114]⟩ : ByteArray)] from rfl) (Reps.one (show Kd.M Kd.string _ _ _ t107 [.string t107] from rfl) (Reps.one (show Kd.M Kd.string _ _ _ (⟨#[102, 114, 101, 101]⟩ : ByteArray) [.string (⟨#[102, 114, 101, 101]⟩ : ByteArray)] from rfl) (Reps.one (show Kd.M Kd.string _ _ _ t109 [.string t109] from rfl) (Reps.none _ _)))))))))); intro v111 w21 ho22 hb hg_ hnew_; clear hg_ hnew_; (first | rw [← Ny110.out] at ho22 | (simp only [Int.reduceToNat] at ho22; rw [← Ny110.out] at ho22)); have HO112 := aM_ (Kd.R_lower ho22 (below_size (bB_ HB))); replace HB := aM_ (below_step (bB_ HB) hb); clear hb ho22; obtain ⟨Ao23, co23, eo23⟩ := Kd.R_slice HO112.out; subst eo23) | ((with_reducible refine gate_callee (f := 18) rfl ?_); refine goesM_ (some 19) Tryz.func18 #[.slice Ao23 y110.length co23, .string (⟨#[32]⟩ : ByteArray)] ?_; (with_reducible refine (impl_Join.calls _ _ y110 (⟨#[32]⟩ : ByteArray) t113 _ ?side1 ?side2 A12.out).mono ?_); (case side1 => repeat (first | exact (Kd.R_reads' HO112.out).2.2 | (with_reducible refine Kd.C_alloc ?_ _) | (with_reducible refine Kd.C_drewN ?_ _) | (with_reducible refine Kd.C_drew ?_))); (case side2 => exact (Kd.R_reads' HO112.out).2.1); rintro e w24 ⟨rfl, hb⟩; refine ⟨_, rfl, ?_⟩; replace HO112 := aM_ (Kd.R_below (kr_ HO112) hb); replace HB := aM_ (below_step (bB_ HB) hb); (try clear hb); (try clear hk)))
  go_ret
  exact ⟨verr_, bB_ HB⟩
 ·replace c3 := Bool.eq_false_iff.mpr c3
  subst c3
  rw [if_neg (show ¬ (false = true) by decide)] at H
  obtain rfl := Option.some.inj H
  go_enter Tryz.func7, Tryz.ntmps7
  go_wp2_with (first | ((with_reducible refine gate_callee (f := 17) rfl ?_); refine goesM_ (some 4) Tryz.func17 #[.slice A0 l0.length c0] ?_; (with_reducible refine (impl_ArePoints.calls k _ _ l0 false _ ?side1 ?side2 A2.out).mono ?_); (case side1 => repeat (first | exact HR0.out | (with_reducible refine Kd.C_alloc ?_ _) | (with_reducible refine Kd.C_drewN ?_ _) | (with_reducible refine Kd.C_drew ?_))); (case side2 => exact HC0.out); rintro e w25 ⟨rfl, hb⟩; refine ⟨_, rfl, ?_⟩; replace HB := aM_ (below_step (bB_ HB) hb); (try clear hb); (try clear hk)))
  go_ret
  exact ⟨verr_, bB_ HB⟩
end Go.Proofs.YteaagaekdkolnaaGreatDoor.P

namespace Go.Proofs.YteaagaekdkolnaaGreatDoor.P
open Go.RowKit Go.Proofs.YteaagaekdkolnaaGreatDoorW.PrintWords Go.Proofs.YteaagaekdkolnaaGreatDoorW.PrintLast Go.Proofs.YteaagaekdkolnaaGreatDoorW.PrintMore
attribute [local go_sem] max2_int min2_int max_two min_two max_three min_three max_four min_four   -- for this text's walks alone
set_option linter.unusedVariables false
set_option linter.unusedSimpArgs false
/-! ### laws_eqPoint: function 25 -/
def laws_eqPoint.f (a0_0 : Int) (a0_1 : Int) (a1_0 : Int) (a1_1 : Int) : Option (Bool) := if a0_0 = a1_0 then (if a0_1 = a1_1 then (some true) else (some false)) else (some false)
set_option maxHeartbeats 8000000 in
set_option maxRecDepth 100000 in
theorem laws_eqPoint.calls (a0_0 : Int) (a0_1 : Int) (a1_0 : Int) (a1_1 : Int) (r : Bool) (w : World) (h : laws_eqPoint.f a0_0 a0_1 a1_0 a1_1 = some r) :
  Calls Tryz.prog 25 #[.agg #[.int .i64 a0_0, .int .i64 a0_1], .agg #[.int .i64 a1_0, .int .i64 a1_1]] w fun e w' => e = .returned (.bool r) ∧ Below w.heap.size w w' := by
 have hu34 := Tryz.underlying34
 have HB := aM_ (Below.refl w.heap.size w)
 have H : (if a0_0 = a1_0 then (if a0_1 = a1_1 then (some true) else (some false)) else (some false)) = some r := h
 clear h
 rcases ifc_ H with ⟨c3, H⟩ | ⟨c3, H⟩
 ·have c3b0 : (a0_0 == a1_0) = true := beq_iff_eq.mpr c3
  have c3b1 : (a0_0 != a1_0) = false := bne_eq_false_iff_eq.mpr c3
  clear c3
  rcases ifc_ H with ⟨c4, H⟩ | ⟨c4, H⟩
  ·have c4b0 : (a0_1 == a1_1) = true := beq_iff_eq.mpr c4
   have c4b1 : (a0_1 != a1_1) = false := bne_eq_false_iff_eq.mpr c4
   clear c4
   obtain rfl := Option.some.inj H
   go_enter Tryz.func25, Tryz.ntmps25
   go_wp2_with (first | ((with_reducible refine gate_dst (N := 2) rfl ?_); refine boxE_ (N := 2) #[.int .i64 a0_0, .int .i64 a0_1] 34 ?_; intro gb101 hg w5 hbox hb; have BK101 := aM_ (hbox); have GW101 := aM_ ((bs_ HB hg)); have GE101 := aM_ ((bs_ HB hg)); replace HB := aM_ (below_step (bB_ HB) hb); clear hb hbox hg) | ((with_reducible refine gate_dst (N := 3) rfl ?_); refine boxE_ (N := 3) #[.int .i64 a1_0, .int .i64 a1_1] 34 ?_; intro gb102 hg w6 hbox hb; have BK102 := aM_ (hbox); have GW102 := aM_ ((bs_ HB hg)); have GE102 := aM_ ((bs_ HB hg)); replace HB := aM_ (below_step (bB_ HB) hb); have NB101_102 := aM_ ((bnl_ BK101 hg)); have NB102_101 := aM_ ((bng_ BK101 hg)); replace BK101 := aM_ (bkb_ BK101 hb); clear hb hbox hg; have hnb7 := NB101_102.out; have hnc7 := NB102_101.out; have hcz8_0 := bc_ BK101 0; have hcz8_1 := bc_ BK101 1; have hfz8_0 := blk_frozen BK101.out 0; have hfz8_1 := blk_frozen BK101.out 1; have hcz9_0 := bc_ BK102 0; have hcz9_1 := bc_ BK102 1; have hfz9_0 := blk_frozen BK102.out 0; have hfz9_1 := blk_frozen BK102.out 1))
   go_ret
   exact ⟨verr_, bB_ HB⟩
  ·have c4b0 : (a0_1 == a1_1) = false := beq_eq_false_iff_ne.mpr c4
   have c4b1 : (a0_1 != a1_1) = true := bne_iff_ne.mpr c4
   obtain rfl := Option.some.inj H
   go_enter Tryz.func25, Tryz.ntmps25
   go_wp2_with (first | ((with_reducible refine gate_dst (N := 2) rfl ?_); refine boxE_ (N := 2) #[.int .i64 a0_0, .int .i64 a0_1] 34 ?_; intro gb101 hg w10 hbox hb; have BK101 := aM_ (hbox); have GW101 := aM_ ((bs_ HB hg)); have GE101 := aM_ ((bs_ HB hg)); replace HB := aM_ (below_step (bB_ HB) hb); clear hb hbox hg) | ((with_reducible refine gate_dst (N := 3) rfl ?_); refine boxE_ (N := 3) #[.int .i64 a1_0, .int .i64 a1_1] 34 ?_; intro gb102 hg w11 hbox hb; have BK102 := aM_ (hbox); have GW102 := aM_ ((bs_ HB hg)); have GE102 := aM_ ((bs_ HB hg)); replace HB := aM_ (below_step (bB_ HB) hb); have NB101_102 := aM_ ((bnl_ BK101 hg)); have NB102_101 := aM_ ((bng_ BK101 hg)); replace BK101 := aM_ (bkb_ BK101 hb); clear hb hbox hg; have hnb12 := NB101_102.out; have hnc12 := NB102_101.out; have hcz13_0 := bc_ BK101 0; have hcz13_1 := bc_ BK101 1; have hfz13_0 := blk_frozen BK101.out 0; have hfz13_1 := blk_frozen BK101.out 1; have hcz14_0 := bc_ BK102 0; have hcz14_1 := bc_ BK102 1; have hfz14_0 := blk_frozen BK102.out 0; have hfz14_1 := blk_frozen BK102.out 1))
   go_ret
   exact ⟨verr_, bB_ HB⟩
 ·have c3b0 : (a0_0 == a1_0) = false := beq_eq_false_iff_ne.mpr c3
  have c3b1 : (a0_0 != a1_0) = true := bne_iff_ne.mpr c3
  obtain rfl := Option.some.inj H
  go_enter Tryz.func25, Tryz.ntmps25
  go_wp2_with (first | ((with_reducible refine gate_dst (N := 2) rfl ?_); refine boxE_ (N := 2) #[.int .i64 a0_0, .int .i64 a0_1] 34 ?_; intro gb101 hg w15 hbox hb; have BK101 := aM_ (hbox); have GW101 := aM_ ((bs_ HB hg)); have GE101 := aM_ ((bs_ HB hg)); replace HB := aM_ (below_step (bB_ HB) hb); clear hb hbox hg) | ((with_reducible refine gate_dst (N := 3) rfl ?_); refine boxE_ (N := 3) #[.int .i64 a1_0, .int .i64 a1_1] 34 ?_; intro gb102 hg w16 hbox hb; have BK102 := aM_ (hbox); have GW102 := aM_ ((bs_ HB hg)); have GE102 := aM_ ((bs_ HB hg)); replace HB := aM_ (below_step (bB_ HB) hb); have NB101_102 := aM_ ((bnl_ BK101 hg)); have NB102_101 := aM_ ((bng_ BK101 hg)); replace BK101 := aM_ (bkb_ BK101 hb); clear hb hbox hg; have hnb17 := NB101_102.out; have hnc17 := NB102_101.out; have hcz18_0 := bc_ BK101 0; have hcz18_1 := bc_ BK101 1; have hfz18_0 := blk_frozen BK101.out 0; have hfz18_1 := blk_frozen BK101.out 1; have hcz19_0 := bc_ BK102 0; have hcz19_1 := bc_ BK102 1; have hfz19_0 := blk_frozen BK102.out 0; have hfz19_1 := blk_frozen BK102.out 1))
  go_ret
  exact ⟨verr_, bB_ HB⟩
end Go.Proofs.YteaagaekdkolnaaGreatDoor.P

namespace Go.Proofs.YteaagaekdkolnaaGreatDoor.P
open Go.RowKit Go.Proofs.YteaagaekdkolnaaGreatDoorW.PrintWords Go.Proofs.YteaagaekdkolnaaGreatDoorW.PrintLast Go.Proofs.YteaagaekdkolnaaGreatDoorW.PrintMore
attribute [local go_sem] max2_int min2_int max_two min_two max_three min_three max_four min_four   -- for this text's walks alone
set_option linter.unusedVariables false
set_option linter.unusedSimpArgs false
/-! ### laws_eqPointS: function 8 -/
def laws_eqPointS.l0 : Nat → List (S34) → List (S34) → Int → Option (Bool)
 | 0, _, _, _ => none
 | k + 1, x0, x1, x5 => if x5 < (x0.length : Int) then (if 0 ≤ x5 then (if x5 < (x1.length : Int) then ((laws_eqPoint.f ((rd_T34 x0 x5).f0) ((rd_T34 x0 x5).f1) ((rd_T34 x1 x5).f0) ((rd_T34 x1 x5).f1)).bind fun t103 => (if t103 = true then (laws_eqPointS.l0 k x0 x1 (wrap64 (x5 + 1))) else (some false))) else (none)) else (none)) else (some true)
def laws_eqPointS.f (k : Nat) (l0 : List (S34)) (l1 : List (S34)) : Option (Bool) := if (l0.length : Int) = (l1.length : Int) then (laws_eqPointS.l0 k l0 l1 0) else (some false)
def laws_eqPointS.T6 : Bool × List (List Nat × List Nat) := (true, [([], []), ([], []), ([0, 1], [0, 1]), ([2], [2]), ([], []), ([], []), ([4, 5], [4, 5]), ([6], [6]), ([3, 7], [3, 7]), ([8], [8])])
def laws_eqPointS.B6 : List Nat := [0, 0, 3, 7, 0, 0, 48, 112, 255, 511]
theorem laws_eqPointS.tab6 : rtab .any (opsOf Tryz.f8 6) = laws_eqPointS.T6 := by kernel_rfl
theorem laws_eqPointS.bits6 : waitsOk laws_eqPointS.T6.2 laws_eqPointS.B6 = true := by kernel_rfl
set_option maxHeartbeats 8000000 in
set_option maxRecDepth 100000 in
theorem laws_eqPointS.calls (k : Nat) (A0 : Option Addr) (c0 : Nat) (l0 : List (S34)) (A1 : Option Addr) (c1 : Nat) (l1 : List (S34)) (r : Bool) (w : World) (hr0 : Kd.C k34 w A0 l0.length l0) (hc0 : l0.length ≤ c0) (hr1 : Kd.C k34 w A1 l1.length l1) (hc1 : l1.length ≤ c1) (h : laws_eqPointS.f k l0 l1 = some r) :
  Calls Tryz.prog 8 #[.slice A0 l0.length c0, .slice A1 l1.length c1] w fun e w' => e = .returned (.bool r) ∧ Below w.heap.size w w' := by
 have hu34 := Tryz.underlying34
 have HR0 := aM_ hr0
 have HC0 := aM_ hc0
 clear hr0 hc0
 have HR1 := aM_ hr1
 have HC1 := aM_ hc1
 clear hr1 hc1
 have HB := aM_ (Below.refl w.heap.size w)
 have H : (if (l0.length : Int) = (l1.length : Int) then (laws_eqPointS.l0 k l0 l1 0) else (some false)) = some r := h
 clear h
 rcases ifc_ H with ⟨c3, H⟩ | ⟨c3, H⟩
 ·have c3b0 : ((l0.length : Int) == (l1.length : Int)) = true := beq_iff_eq.mpr c3
  have c3b1 : ((l0.length : Int) != (l1.length : Int)) = false := bne_eq_false_iff_eq.mpr c3
  have c3b2 : (l0.length == l1.length) = true := by first | simpa using c3 | (simp at c3 ⊢; omega)
  clear c3
  have H' := aM_ H
  clear H
  go_enter Tryz.func8, Tryz.ntmps8
  go_wp2
  go_loopg [5] k (fun kq v5 w' => ∃ (x5_1 : Int), v5 = .int .i64 x5_1 ∧ Aside0 (laws_eqPointS.l0 kq l0 l1 x5_1 = some r) ∧ Aside0 (kq ≤ k) ∧ Aside0 (Below w.heap.size w w'))
  case atStart => exact ⟨(0), veq_, H', ⟨Nat.le_refl _⟩, ⟨bB_ HB⟩⟩
  case round =>
   clear H'
   try clear c1
   try clear c3
   try clear c3b0
   try clear c3b1
   try clear c3b2
   obtain ⟨x5_1, rfl, HA, HK1, HB⟩ := hrel
   cases gk with
   | zero => exact absurd HA.out (by simp [laws_eqPointS.l0])
   | succ k1 =>
    have H := HA.out
    clear HA
    simp only [laws_eqPointS.l0] at H
    rcases ifd_ H with ⟨c4b0, H⟩ | ⟨c4b0, H⟩
    ·obtain ⟨c5b0, H⟩ := ifn_ H
     obtain ⟨c6b0, H⟩ := ifn_ H
     replace H := oB_ H
     obtain ⟨t103, A70, H⟩ := H
     have A7 := aM_ A70
     clear A70
     by_cases c8 : t103 = true
     ·subst c8
      rw [if_pos rfl] at H
      have H' := aM_ H
      clear H
      try go_wp2
      replace HB := aM_ (bD_ HB.out)
      have p101 : 0 ≤ (x5_1 : Int) := ode_
      have q101 : x5_1 < (l0.length : Int) := ode_
      obtain ⟨ad101, e101, hx101_0, hx101_1⟩ := at_T34 HR0.out x5_1 p101 q101
      have hw101_1 := hx101_1
      have hw101_0 := hx101_0
      cases e101
      replace hx101_0 := hbc_ HB hx101_0
      replace hx101_1 := hbc_ HB hx101_1
      replace p101 := eq_true p101
      replace q101 := eq_true q101
      have p102 : 0 ≤ (x5_1 : Int) := ode_
      have q102 : x5_1 < (l1.length : Int) := ode_
      obtain ⟨ad102, e102, hx102_0, hx102_1⟩ := at_T34 HR1.out x5_1 p102 q102
      have hw102_1 := hx102_1
      have hw102_0 := hx102_0
      cases e102
      replace hx102_0 := hbc_ HB hx102_0
      replace hx102_1 := hbc_ HB hx102_1
      replace p102 := eq_true p102
      replace q102 := eq_true q102
      refine start_ (n := 10) (S := fun w' => w'.cell? (ad101.add ((x5_1).toNat * 2)) = some (.int .i64 ((rd_T34 l0 x5_1).f0)) ∧ w'.cell? ⟨(ad101.add ((x5_1).toNat * 2)).block, (ad101.add ((x5_1).toNat * 2)).off + 1, none⟩ = some (.int .i64 ((rd_T34 l0 x5_1).f1)) ∧ w'.cell? (ad102.add ((x5_1).toNat * 2)) = some (.int .i64 ((rd_T34 l1 x5_1).f0)) ∧ w'.cell? ⟨(ad102.add ((x5_1).toNat * 2)).block, (ad102.add ((x5_1).toNat * 2)).off + 1, none⟩ = some (.int .i64 ((rd_T34 l1 x5_1).f1))) (ds := []) (bm 10 0) (by kernel_rfl) rfl rfl ⟨(hbc_ HB hw101_0), (hbc_ HB hw101_1), (hbc_ HB hw102_0), (hbc_ HB hw102_1)⟩ (fun hHeld => ?_); refine with_tabW laws_eqPointS.tab6 laws_eqPointS.bits6 (fun HT_ HW_ => ?_)
      generalize wr.drew = w9 at HB hx101_0 hx101_1 hx102_0 hx102_1 hHeld ⊢
      refine plan_ ((0, 0, 17, 1) :: (0, 1, 18, 3) :: (0, 2, 19, 7) :: (0, 4, 21, 23) :: (0, 5, 22, 55) :: (0, 6, 23, 119) :: (2, 3, 20, 127) :: (2, 7, 24, 255) :: []) ?_
      iterate 8 (first | refine pV_ HT_ ?_ | refine pT_ HT_ HW_ hHeld ?_)
      refine planEnd_ ?_
      refine one_ (i := 8) (N := some 25) (bm 10 511) rfl rfl (one_of HT_.out (by kernel_rfl)) (by decide) (fun K hK => ?_)
      refine goesO_ Tryz.func25 #[.agg #[.int .i64 ((rd_T34 l0 x5_1).f0), .int .i64 ((rd_T34 l0 x5_1).f1)], .agg #[.int .i64 ((rd_T34 l1 x5_1).f0), .int .i64 ((rd_T34 l1 x5_1).f1)]] ?_
      with_reducible refine (laws_eqPoint.calls ((rd_T34 l0 x5_1).f0) ((rd_T34 l0 x5_1).f1) ((rd_T34 l1 x5_1).f0) ((rd_T34 l1 x5_1).f1) true _ A7.out).mono ?_
      rintro e w10 ⟨rfl, hb⟩
      refine ⟨_, rfl, ?_⟩
      replace HB := aM_ (below_step (bB_ HB) hb)
      (try clear hb)
      refine hK.out _ _ ⟨(hbc_ HB hw101_0), (hbc_ HB hw101_1), (hbc_ HB hw102_0), (hbc_ HB hw102_1)⟩ (fun hHeld => ?_)
      clear hK K
      refine nrm_ ?_
      refine plan_ ((0, 9, 26, 1023) :: []) ?_
      iterate 1 (first | refine pV_ HT_ ?_)
      refine planEnd_ ?_
      refine done_ (done_of HT_.out (by kernel_rfl)) ?_
      try go_wp2
      go_roundg k1
      case measure => have := HK1.out; omega
      case rel => exact ⟨(wrap64 (x5_1 + 1)), veq_, H', ⟨by have := HK1.out; omega⟩, ⟨bB_ HB⟩⟩
     ·replace c8 := Bool.eq_false_iff.mpr c8
      subst c8
      rw [if_neg (show ¬ (false = true) by decide)] at H
      obtain rfl := Option.some.inj H
      try go_wp2
      replace HB := aM_ (bD_ HB.out)
      have p101 : 0 ≤ (x5_1 : Int) := ode_
      have q101 : x5_1 < (l0.length : Int) := ode_
      obtain ⟨ad101, e101, hx101_0, hx101_1⟩ := at_T34 HR0.out x5_1 p101 q101
      have hw101_1 := hx101_1
      have hw101_0 := hx101_0
      cases e101
      replace hx101_0 := hbc_ HB hx101_0
      replace hx101_1 := hbc_ HB hx101_1
      replace p101 := eq_true p101
      replace q101 := eq_true q101
      have p102 : 0 ≤ (x5_1 : Int) := ode_
      have q102 : x5_1 < (l1.length : Int) := ode_
      obtain ⟨ad102, e102, hx102_0, hx102_1⟩ := at_T34 HR1.out x5_1 p102 q102
      have hw102_1 := hx102_1
      have hw102_0 := hx102_0
      cases e102
      replace hx102_0 := hbc_ HB hx102_0
      replace hx102_1 := hbc_ HB hx102_1
      replace p102 := eq_true p102
      replace q102 := eq_true q102
      refine start_ (n := 10) (S := fun w' => w'.cell? (ad101.add ((x5_1).toNat * 2)) = some (.int .i64 ((rd_T34 l0 x5_1).f0)) ∧ w'.cell? ⟨(ad101.add ((x5_1).toNat * 2)).block, (ad101.add ((x5_1).toNat * 2)).off + 1, none⟩ = some (.int .i64 ((rd_T34 l0 x5_1).f1)) ∧ w'.cell? (ad102.add ((x5_1).toNat * 2)) = some (.int .i64 ((rd_T34 l1 x5_1).f0)) ∧ w'.cell? ⟨(ad102.add ((x5_1).toNat * 2)).block, (ad102.add ((x5_1).toNat * 2)).off + 1, none⟩ = some (.int .i64 ((rd_T34 l1 x5_1).f1))) (ds := []) (bm 10 0) (by kernel_rfl) rfl rfl ⟨(hbc_ HB hw101_0), (hbc_ HB hw101_1), (hbc_ HB hw102_0), (hbc_ HB hw102_1)⟩ (fun hHeld => ?_); refine with_tabW laws_eqPointS.tab6 laws_eqPointS.bits6 (fun HT_ HW_ => ?_)
      generalize wr.drew = w11 at HB hx101_0 hx101_1 hx102_0 hx102_1 hHeld ⊢
      refine plan_ ((0, 0, 17, 1) :: (0, 1, 18, 3) :: (0, 2, 19, 7) :: (0, 4, 21, 23) :: (0, 5, 22, 55) :: (0, 6, 23, 119) :: (2, 3, 20, 127) :: (2, 7, 24, 255) :: []) ?_
      iterate 8 (first | refine pV_ HT_ ?_ | refine pT_ HT_ HW_ hHeld ?_)
      refine planEnd_ ?_
      refine one_ (i := 8) (N := some 25) (bm 10 511) rfl rfl (one_of HT_.out (by kernel_rfl)) (by decide) (fun K hK => ?_)
      refine goesO_ Tryz.func25 #[.agg #[.int .i64 ((rd_T34 l0 x5_1).f0), .int .i64 ((rd_T34 l0 x5_1).f1)], .agg #[.int .i64 ((rd_T34 l1 x5_1).f0), .int .i64 ((rd_T34 l1 x5_1).f1)]] ?_
      with_reducible refine (laws_eqPoint.calls ((rd_T34 l0 x5_1).f0) ((rd_T34 l0 x5_1).f1) ((rd_T34 l1 x5_1).f0) ((rd_T34 l1 x5_1).f1) false _ A7.out).mono ?_
      rintro e w12 ⟨rfl, hb⟩
      refine ⟨_, rfl, ?_⟩
      replace HB := aM_ (below_step (bB_ HB) hb)
      (try clear hb)
      refine hK.out _ _ ⟨(hbc_ HB hw101_0), (hbc_ HB hw101_1), (hbc_ HB hw102_0), (hbc_ HB hw102_1)⟩ (fun hHeld => ?_)
      clear hK K
      refine nrm_ ?_
      refine plan_ ((0, 9, 26, 1023) :: []) ?_
      iterate 1 (first | refine pV_ HT_ ?_)
      refine planEnd_ ?_
      refine done_ (done_of HT_.out (by kernel_rfl)) ?_
      try go_wp2
      go_ret
      exact ⟨verr_, bB_ HB⟩
    ·obtain rfl := Option.some.inj H
     go_wp2
     go_ret
     exact ⟨verr_, bB_ HB⟩
 ·have c3b0 : ((l0.length : Int) == (l1.length : Int)) = false := beq_eq_false_iff_ne.mpr c3
  have c3b1 : ((l0.length : Int) != (l1.length : Int)) = true := bne_iff_ne.mpr c3
  have c3b2 : (l0.length == l1.length) = false := by first | simpa using c3 | (simp at c3 ⊢; omega)
  obtain rfl := Option.some.inj H
  go_enter Tryz.func8, Tryz.ntmps8
  go_wp2
  go_ret
  exact ⟨verr_, bB_ HB⟩
end Go.Proofs.YteaagaekdkolnaaGreatDoor.P

namespace Go.Proofs.YteaagaekdkolnaaGreatDoor.P
open Go.RowKit Go.Proofs.YteaagaekdkolnaaGreatDoorW.PrintWords Go.Proofs.YteaagaekdkolnaaGreatDoorW.PrintLast Go.Proofs.YteaagaekdkolnaaGreatDoorW.PrintMore
attribute [local go_sem] max2_int min2_int max_two min_two max_three min_three max_four min_four   -- for this text's walks alone
set_option linter.unusedVariables false
set_option linter.unusedSimpArgs false
/-! ### laws_FnExactDescribePoints: function 3 -/
def laws_FnExactDescribePoints.f (k : Nat) (l0 : List (S36)) : Option (Bool) := (laws_szPointS.f l0 1048576).bind fun t101 => (if t101 < 0 then (some true) else ((laws_toPointS.f k l0).bind fun t102 => ((spec_DescribePoints.f k t102).bind fun t105 => ((laws_toPointS.f k l0).bind fun t106 => ((impl_DescribePoints.f k t106).bind fun t109 => (if t109.toList = t105.toList then ((laws_toPointS.f k l0).bind fun t110 => ((laws_eqPointS.f k t106 t110).bind fun t113 => (if t113 = true then (some true) else (some false)))) else (some false)))))))
set_option maxHeartbeats 8000000 in
set_option maxRecDepth 100000 in
theorem laws_FnExactDescribePoints.calls (k : Nat) (A0 : Option Addr) (c0 : Nat) (l0 : List (S36)) (r : Bool) (w : World) (hr0 : Kd.C k36 w A0 l0.length l0) (hc0 : l0.length ≤ c0) (h : laws_FnExactDescribePoints.f k l0 = some true) (htab_ : Tab w) :
  Calls Tryz.prog 3 #[.slice A0 l0.length c0] w fun e w' => e = .returned (.bool true) ∧ Below w.heap.size w w' := by
 have HTAB := aM_ htab_
 clear htab_
 have HR0 := aM_ hr0
 have HC0 := aM_ hc0
 clear hr0 hc0
 have HB := aM_ (Below.refl w.heap.size w)
 have H : ((laws_szPointS.f l0 1048576).bind fun t101 => (if t101 < 0 then (some true) else ((laws_toPointS.f k l0).bind fun t102 => ((spec_DescribePoints.f k t102).bind fun t105 => ((laws_toPointS.f k l0).bind fun t106 => ((impl_DescribePoints.f k t106).bind fun t109 => (if t109.toList = t105.toList then ((laws_toPointS.f k l0).bind fun t110 => ((laws_eqPointS.f k t106 t110).bind fun t113 => (if t113 = true then (some true) else (some false)))) else (some false)))))))) = some true := h
 clear h
 replace H := oB_ H
 obtain ⟨t101, A20, H⟩ := H
 have A2 := aM_ A20
 clear A20
 rcases ifd_ H with ⟨c3b0, H⟩ | ⟨c3b0, H⟩
 ·clear H
  go_enter Tryz.func3, Tryz.ntmps3
  go_wp2_with (first | ((with_reducible refine gate_callee (f := 4) rfl ?_); refine goesM_ (some 9) Tryz.func4 #[.slice A0 l0.length c0, .int .i64 1048576] ?_; (with_reducible refine (laws_szPointS.calls _ _ l0 1048576 t101 _ ?side1 ?side2 A2.out).mono ?_); (case side1 => repeat (first | exact HR0.out | (with_reducible refine Kd.C_alloc ?_ _) | (with_reducible refine Kd.C_drewN ?_ _) | (with_reducible refine Kd.C_drew ?_))); (case side2 => exact HC0.out); rintro e w' ⟨rfl, ⟨nd, rfl⟩⟩; refine ⟨_, rfl, ?_⟩))
  go_ret
  exact ⟨verr_, bB_ HB⟩
 ·replace H := oB_ H
  obtain ⟨t102, A40, H⟩ := H
  have A4 := aM_ A40
  clear A40
  replace H := oB_ H
  obtain ⟨t105, A50, H⟩ := H
  have A5 := aM_ A50
  clear A50
  replace H := oB_ H
  obtain ⟨t106, A60, H⟩ := H
  have A6 := aM_ A60
  clear A60
  replace H := oB_ H
  obtain ⟨t109, A70, H⟩ := H
  have A7 := aM_ A70
  clear A70
  rcases ifc_ H with ⟨c8, H⟩ | ⟨c8, H⟩
  ·have c8b0 : (t109.toList == t105.toList) = true := beq_iff_eq.mpr c8
   have c8b1 : (t109.toList != t105.toList) = false := bne_eq_false_iff_eq.mpr c8
   clear c8
   replace H := oB_ H
   obtain ⟨t110, A90, H⟩ := H
   have A9 := aM_ A90
   clear A90
   replace H := oB_ H
   obtain ⟨t113, A100, H⟩ := H
   have A10 := aM_ A100
   clear A100
   by_cases c11 : t113 = true
   ·subst c11
    have H1 : (some true : Option Bool) = some true := rfl
    clear H
    have H := H1
    clear H1
    clear H
    go_enter Tryz.func3, Tryz.ntmps3
    go_wp2_with (first | ((with_reducible refine gate_callee (f := 4) rfl ?_); refine goesM_ (some 9) Tryz.func4 #[.slice A0 l0.length c0, .int .i64 1048576] ?_; (with_reducible refine (laws_szPointS.calls _ _ l0 1048576 t101 _ ?side1 ?side2 A2.out).mono ?_); (case side1 => repeat (first | exact HR0.out | (with_reducible refine Kd.C_alloc ?_ _) | (with_reducible refine Kd.C_drewN ?_ _) | (with_reducible refine Kd.C_drew ?_))); (case side2 => exact HC0.out); rintro e w' ⟨rfl, ⟨nd, rfl⟩⟩; refine ⟨_, rfl, ?_⟩) | ((with_reducible refine gate_callee (f := 6) rfl ?_); refine goesM_ (some 13) Tryz.func6 #[.slice A0 l0.length c0] ?_; (with_reducible refine (laws_toPointS.calls k _ _ l0 t102 _ ?side1 ?side2 A4.out).mono ?_); (case side1 => repeat (first | exact HR0.out | (with_reducible refine Kd.C_alloc ?_ _) | (with_reducible refine Kd.C_drewN ?_ _) | (with_reducible refine Kd.C_drew ?_))); (case side2 => exact HC0.out); rintro e w12 ⟨v103, rfl, ho0, hb⟩; refine ⟨_, rfl, ?_⟩; have HO104 := aM_ (Kd.R_lower ho0 (below_size (bB_ HB))); replace HB := aM_ (below_step (bB_ HB) hb); (try clear hb); (try clear ho0); obtain ⟨Ao13, co13, eo13⟩ := Kd.R_slice HO104.out; subst eo13) | ((with_reducible refine gate_callee (f := 5) rfl ?_); refine goesM_ (some 14) Tryz.func5 #[.slice Ao13 t102.length co13] ?_; (with_reducible refine (spec_DescribePoints.calls k _ _ t102 t105 _ ?side1 ?side2 A5.out).mono ?_); (case side1 => repeat (first | exact (Kd.R_reads' HO104.out).2.2 | (with_reducible refine Kd.C_alloc ?_ _) | (with_reducible refine Kd.C_drewN ?_ _) | (with_reducible refine Kd.C_drew ?_))); (case side2 => exact (Kd.R_reads' HO104.out).2.1); rintro e w14 ⟨rfl, hb⟩; refine ⟨_, rfl, ?_⟩; replace HO104 := aM_ (Kd.R_below (kr_ HO104) hb); replace HB := aM_ (below_step (bB_ HB) hb); (try clear hb)) | ((with_reducible refine gate_callee (f := 6) rfl ?_); refine goesM_ (some 16) Tryz.func6 #[.slice A0 l0.length c0] ?_; (with_reducible refine (laws_toPointS.calls k _ _ l0 t106 _ ?side1 ?side2 A6.out).mono ?_); (case side1 => repeat (first | exact (Kd.C_below HR0.out HB.out) | (with_reducible refine Kd.C_alloc ?_ _) | (with_reducible refine Kd.C_drewN ?_ _) | (with_reducible refine Kd.C_drew ?_))); (case side2 => exact HC0.out); rintro e w15 ⟨v107, rfl, ho0, hb⟩; refine ⟨_, rfl, ?_⟩; have HO108 := aM_ (Kd.R_lower (Kd.R_new' ho0 (Kd.R_lt (kr_ HO104))) (below_size (bB_ HB))); replace HO104 := aM_ (Kd.R_elder' (kr_ HO104) (Kd.R_base ho0) hb); replace HB := aM_ (below_step (bB_ HB) hb); (try clear hb); (try clear ho0); obtain ⟨Ao16, co16, eo16⟩ := Kd.R_slice HO108.out; subst eo16) | ((with_reducible refine gate_callee (f := 7) rfl ?_); refine goesM_ (some 18) Tryz.func7 #[.slice Ao16 t106.length co16] ?_; (with_reducible refine (impl_DescribePoints.calls k _ _ t106 t109 _ ?side1 ?side2 A7.out (Tab.on HTAB.out (bB_ HB))).mono ?_); (case side1 => repeat (first | exact (Kd.R_reads' HO108.out).2.2 | (with_reducible refine Kd.C_alloc ?_ _) | (with_reducible refine Kd.C_drewN ?_ _) | (with_reducible refine Kd.C_drew ?_))); (case side2 => exact (Kd.R_reads' HO108.out).2.1); rintro e w17 ⟨rfl, hb⟩; refine ⟨_, rfl, ?_⟩; replace HO104 := aM_ (Kd.R_below (kr_ HO104) hb); replace HO108 := aM_ (Kd.R_below (kr_ HO108) hb); replace HB := aM_ (below_step (bB_ HB) hb); (try clear hb)) | ((with_reducible refine gate_callee (f := 6) rfl ?_); refine goesM_ (some 24) Tryz.func6 #[.slice A0 l0.length c0] ?_; (with_reducible refine (laws_toPointS.calls k _ _ l0 t110 _ ?side1 ?side2 A9.out).mono ?_); (case side1 => repeat (first | exact (Kd.C_below HR0.out HB.out) | (with_reducible refine Kd.C_alloc ?_ _) | (with_reducible refine Kd.C_drewN ?_ _) | (with_reducible refine Kd.C_drew ?_))); (case side2 => exact HC0.out); rintro e w18 ⟨v111, rfl, ho0, hb⟩; refine ⟨_, rfl, ?_⟩; have HO112 := aM_ (Kd.R_lower (Kd.R_new' (Kd.R_new' ho0 (Kd.R_lt (kr_ HO104))) (Kd.R_lt (kr_ HO108))) (below_size (bB_ HB))); replace HO104 := aM_ (Kd.R_elder' (kr_ HO104) (Kd.R_base ho0) hb); replace HO108 := aM_ (Kd.R_elder' (kr_ HO108) (Kd.R_base ho0) hb); replace HB := aM_ (below_step (bB_ HB) hb); (try clear hb); (try clear ho0); obtain ⟨Ao19, co19, eo19⟩ := Kd.R_slice HO112.out; subst eo19) | ((with_reducible refine gate_callee (f := 8) rfl ?_); refine goesM_ (some 25) Tryz.func8 #[.slice Ao16 t106.length co16, .slice Ao19 t110.length co19] ?_; (with_reducible refine (laws_eqPointS.calls k _ _ t106 _ _ t110 true _ ?side1 ?side2 ?side3 ?side4 A10.out).mono ?_); (case side1 => repeat (first | exact (Kd.R_reads' HO108.out).2.2 | (with_reducible refine Kd.C_alloc ?_ _) | (with_reducible refine Kd.C_drewN ?_ _) | (with_reducible refine Kd.C_drew ?_))); (case side2 => exact (Kd.R_reads' HO108.out).2.1); (case side3 => repeat (first | exact (Kd.R_reads' HO112.out).2.2 | (with_reducible refine Kd.C_alloc ?_ _) | (with_reducible refine Kd.C_drewN ?_ _) | (with_reducible refine Kd.C_drew ?_))); (case side4 => exact (Kd.R_reads' HO112.out).2.1); rintro e w20 ⟨rfl, hb⟩; refine ⟨_, rfl, ?_⟩; replace HO104 := aM_ (Kd.R_below (kr_ HO104) hb); replace HO108 := aM_ (Kd.R_below (kr_ HO108) hb); replace HO112 := aM_ (Kd.R_below (kr_ HO112) hb); replace HB := aM_ (below_step (bB_ HB) hb); (try clear hb)))
    go_ret
    exact ⟨verr_, bB_ HB⟩
   ·replace c11 := Bool.eq_false_iff.mpr c11
    subst c11
    rw [if_neg (show ¬ (false = true) by decide)] at H
    exact absurd H (by simp)
  ·have c8b0 : (t109.toList == t105.toList) = false := beq_eq_false_iff_ne.mpr c8
   have c8b1 : (t109.toList != t105.toList) = true := bne_iff_ne.mpr c8
   exact absurd H (by simp)
def laws_FnExactDescribePoints.Pure : Prop := ∀ (x0 : List (S36)), (x0.length ≤ maxLen ∧ ∀ y0 ∈ x0, ((Lit.int .i64 y0.f0).wf = true ∧ (Lit.int .i64 y0.f1).wf = true)) → ∃ k, laws_FnExactDescribePoints.f k x0 = some true
end Go.Proofs.YteaagaekdkolnaaGreatDoor.P

namespace Go.Proofs.YteaagaekdkolnaaGreatDoor.Com
open Go.RowKit Go.Proofs.YteaagaekdkolnaaGreatDoorW.PrintWords
set_option linter.unusedSimpArgs false
set_option linter.unusedVariables false

theorem w64 {x : Int} (h0 : -9223372036854775808 ≤ x) (h1 : x ≤ 9223372036854775807) : wrap64 x = x := by unfold wrap64; omega
theorem set_take_succ {α : Type} (l : List α) (n : Nat) (v : α) (h : n < l.length) : (l.set n v).take (n + 1) = l.take n ++ [v] := by
  rw [List.take_succ_eq_append_getElem (by simpa using h), List.take_set_of_le (Nat.le_refl n)]; simp
theorem drop_cons {α : Type} (l : List α) (n : Nat) (d : α) (h : n < l.length) : l.drop n = l.getD n d :: l.drop (n + 1) := by
  rw [List.drop_eq_getElem_cons h]; simp [List.getD, List.getElem?_eq_getElem h]
theorem getD_mem {α : Type} (l : List α) (n : Nat) (d : α) (h : n < l.length) : l.getD n d ∈ l := by
  simp [List.getD, List.getElem?_eq_getElem h]
theorem getD_map {α β : Type} (f : α → β) (l : List α) (n : Nat) (d : α) (e : β) (h : n < l.length) : (l.map f).getD n e = f (l.getD n d) := by
  simp [List.getD, h]
theorem succ_of_lt {d k : Nat} (h : d < k) : ∃ m, k = m + 1 ∧ d ≤ m := ⟨k - 1, by omega, by omega⟩
theorem Ev.iteT {α : Type} {c : Prop} [Decidable c] {g f : Nat → Option α} {r : α} (hc : c) (h : Ev g r) : Ev (fun k => if c then g k else f k) r := by simpa only [if_pos hc] using h
theorem Ev.iteF {α : Type} {c : Prop} [Decidable c] {g f : Nat → Option α} {r : α} (hc : ¬ c) (h : Ev f r) : Ev (fun k => if c then g k else f k) r := by simpa only [if_neg hc] using h
theorem Ev.const {α : Type} {o : Option α} {r : α} (h : o = some r) : Ev (fun _ => o) r := ⟨0, fun _ _ => h⟩
/-- Rounds enough, told by a bound. -/
theorem Ev.from {α : Type} {g : Nat → Option α} {r : α} (K : Nat) (h : ∀ k, K ≤ k → g k = some r) : Ev g r := ⟨K, h⟩
theorem Ev.bind0 {α β : Type} {o : Option α} {f : Nat → α → Option β} {a : α} {r : β} (h : o = some a) (k : Ev (fun n => f n a) r) : Ev (fun n => o.bind (f n)) r := Ev.bind ⟨0, fun _ _ => h⟩ k
end Go.Proofs.YteaagaekdkolnaaGreatDoor.Com

namespace Go.Proofs.YteaagaekdkolnaaGreatDoor.Pure
open Go.RowKit Go.Proofs.YteaagaekdkolnaaGreatDoor.P Go.Proofs.YteaagaekdkolnaaGreatDoorW.PrintWords Go.Proofs.YteaagaekdkolnaaGreatDoorW.PrintLast Go.Proofs.YteaagaekdkolnaaGreatDoor.Com
set_option linter.unusedSimpArgs false
set_option linter.unusedVariables false

def inB (n m : Int) : Bool := decide (-m ≤ n ∧ n ≤ m)
theorem inB_iff {n m : Int} : inB n m = true ↔ -m ≤ n ∧ n ≤ m := by simp [inB]
theorem l1In_eq (a lo hi : Int) : spec_l1In.f a lo hi = some (decide (lo ≤ a ∧ a ≤ hi)) := by
  unfold spec_l1In.f
  by_cases h : a ≥ lo
  · rw [if_pos h]; congr 1; simp only [decide_eq_decide]; omega
  · rw [if_neg h]; congr 1; symm; simp only [decide_eq_false_iff_not]; omega
theorem l1In_inB (a m : Int) (h0 : 0 ≤ m) (h1 : m ≤ 4611686018427387904) : spec_l1In.f a (wrap64 (-m)) m = some (inB a m) := by
  rw [w64 (by omega) (by omega), l1In_eq]; rfl
end Go.Proofs.YteaagaekdkolnaaGreatDoor.Pure

namespace Go.Proofs.YteaagaekdkolnaaGreatDoor.Pure
open Go.RowKit Go.Proofs.YteaagaekdkolnaaGreatDoor.P Go.Proofs.YteaagaekdkolnaaGreatDoorW.PrintWords Go.Proofs.YteaagaekdkolnaaGreatDoorW.PrintLast Go.Proofs.YteaagaekdkolnaaGreatDoor.Com
set_option linter.unusedSimpArgs false
set_option linter.unusedVariables false

theorem farB_eq (n m : Int) (h0 : 0 ≤ m) (h1 : m ≤ 4611686018427387904) : farB n m = !inB n m := by
  unfold farB impl_isFar.f inB
  rw [w64 (by omega) (by omega)]
  by_cases h : n < -m
  · rw [if_pos h, Option.getD_some, Bool.eq_iff_iff]; simp; omega
  · rw [if_neg h, Option.getD_some, Bool.eq_iff_iff]; simp; omega
theorem l2Fits_eq (x y m : Int) (h0 : 0 ≤ m) (h1 : m ≤ 4611686018427387904) : spec_l2Fits.f x y m = some (inB x m && inB y m) := by
  unfold spec_l2Fits.f
  rw [l1In_inB x m h0 h1, l1In_inB y m h0 h1]
  simp only [Option.bind_some]
  cases inB x m <;> simp
theorem areNear_eq (m : Int) (l : List S34) (h0 : 0 ≤ m) (h1 : m ≤ 4611686018427387904) : impl_areNear.f m l = some (l.all fun p => inB p.f0 m && inB p.f1 m) := by
  unfold impl_areNear.f outPoint
  congr 1
  rw [List.not_any_eq_all_not]
  congr 1
  funext p
  rw [farB_eq _ _ h0 h1, farB_eq _ _ h0 h1]
  simp
end Go.Proofs.YteaagaekdkolnaaGreatDoor.Pure

namespace Go.Proofs.YteaagaekdkolnaaGreatDoor.Pure
open Go.RowKit Go.Proofs.YteaagaekdkolnaaGreatDoorW.PrintWords Go.Proofs.YteaagaekdkolnaaGreatDoorW.PrintLast Go.Proofs.YteaagaekdkolnaaGreatDoor.Com
set_option linter.unusedSimpArgs false
set_option linter.unusedVariables false

theorem ww_add_l (x y : Int) : wrap64 (wrap64 x + y) = wrap64 (x + y) := by unfold wrap64; omega
theorem ww_add_r (x y : Int) : wrap64 (x + wrap64 y) = wrap64 (x + y) := by unfold wrap64; omega
theorem ww_sub_l (x y : Int) : wrap64 (wrap64 x - y) = wrap64 (x - y) := by unfold wrap64; omega
theorem ww_sub_r (x y : Int) : wrap64 (x - wrap64 y) = wrap64 (x - y) := by unfold wrap64; omega
theorem wrap_is (x : Int) : ∃ q : Int, wrap64 x = x + q * 18446744073709551616 := ⟨-((x + 9223372036854775808) / 18446744073709551616), by unfold wrap64; omega⟩
theorem wrap_shift (x q : Int) : wrap64 (x + q * 18446744073709551616) = wrap64 x := by unfold wrap64; omega
theorem ww_mul_l (x y : Int) : wrap64 (wrap64 x * y) = wrap64 (x * y) := by
  obtain ⟨q, h⟩ := wrap_is x
  rw [h, Int.add_mul, Int.mul_assoc q, Int.mul_comm 18446744073709551616 y, ← Int.mul_assoc q, wrap_shift]
theorem ww_mul_r (x y : Int) : wrap64 (x * wrap64 y) = wrap64 (x * y) := by rw [Int.mul_comm, ww_mul_l, Int.mul_comm]
end Go.Proofs.YteaagaekdkolnaaGreatDoor.Pure

namespace Go.Proofs.YteaagaekdkolnaaGreatDoor.Pure
open Go.RowKit Go.Proofs.YteaagaekdkolnaaGreatDoor.P Go.Proofs.YteaagaekdkolnaaGreatDoorW.PrintWords Go.Proofs.YteaagaekdkolnaaGreatDoorW.PrintLast Go.Proofs.YteaagaekdkolnaaGreatDoor.Com
set_option linter.unusedSimpArgs false
set_option linter.unusedVariables false

def sgn (x : Int) : Int := if 0 < x then 1 else if x < 0 then -1 else 0
theorem l2Sign_eq (x : Int) : spec_l2Sign.f x = some (sgn x) := by
  unfold spec_l2Sign.f spec_l1Bit.f sgn
  by_cases h1 : 0 < x
  · have h2 : ¬ x < 0 := by omega
    simp [h1, h2, wrap64]
  · by_cases h2 : x < 0
    · simp [h1, h2, wrap64]
    · simp [h1, h2, wrap64]
theorem signOf_eq (x : Int) : impl_signOf.f x = some (sgn x) := by
  unfold impl_signOf.f cmp_Compare_int.f cmp_isNaN_int.f sgn
  by_cases h1 : 0 < x
  · have h2 : ¬ x < 0 := by omega
    simp [h1, h2]
  · by_cases h2 : x < 0
    · simp [h1, h2]
    · simp [h1, h2]
/-- Twice a triangle's area, as Go reckons it. -/
def areaW (a b c d e f : Int) : Int := wrap64 ((c - a) * (f - b) - (d - b) * (e - a))
theorem l2Area_eq (a b c d e f : Int) : spec_l2Area.f a b c d e f = some (areaW a b c d e f) := by
  simp only [spec_l2Area.f, areaW, ww_sub_l, ww_sub_r, ww_mul_l, ww_mul_r]
theorem area_eq (a b c d e f : Int) : impl_area.f a b c d e f = some (areaW a b c d e f) := by
  simp only [impl_area.f, areaW, ww_sub_l, ww_sub_r, ww_mul_l, ww_mul_r]
theorem TurnOf_eq (a b c d e f : Int) : impl_TurnOf.f a b c d e f = some (if ((inB a 1000 && inB b 1000) && ((inB c 1000 && inB d 1000) && (inB e 1000 && inB f 1000))) = true then sgn (areaW a b c d e f) else 0) := by
  unfold impl_TurnOf.f
  rw [areNear_eq 1000 _ (by omega) (by omega), area_eq]
  simp only [Option.bind_some, signOf_eq, List.all_cons, List.all_nil, Bool.and_true]
  split <;> rfl
end Go.Proofs.YteaagaekdkolnaaGreatDoor.Pure

namespace Go.Proofs.YteaagaekdkolnaaGreatDoor.Com
open Go.RowKit Go.Proofs.YteaagaekdkolnaaGreatDoorW.PrintWords
set_option linter.unusedSimpArgs false
set_option linter.unusedVariables false
variable {σ τ ρ υ : Type}
/-- A fold of rounds that hand on to what follows. -/
def foldT (T : σ → τ → (σ → ρ → Prop) → ρ → Prop) (C : σ → ρ → Prop) : List τ → σ → ρ → Prop
  | [], s, r => C s r
  | t :: L, s, r => T s t (foldT T C L) r
def MonoT (T : σ → τ → (σ → ρ → Prop) → ρ → Prop) : Prop := ∀ s t (C D : σ → ρ → Prop) r, (∀ s' r', C s' r' → D s' r') → T s t C r → T s t D r
theorem foldT_mono {T : σ → τ → (σ → ρ → Prop) → ρ → Prop} (hT : MonoT T) {C D : σ → ρ → Prop} (h : ∀ s r, C s r → D s r) (L : List τ) : ∀ s r, foldT T C L s r → foldT T D L s r := by
  induction L with
  | nil => exact h
  | cons t L ih => intro s r; exact hT s t _ _ r ih
/-- A round that goes on with a new state, or ends all with a result. -/
def stepT (step : σ → τ → σ ⊕ ρ) : σ → τ → (σ → ρ → Prop) → ρ → Prop := fun s t C r =>
  match step s t with
  | .inl s' => C s' r
  | .inr r' => r = r'
theorem stepT_mono (step : σ → τ → σ ⊕ ρ) : MonoT (stepT step) := by
  intro s t C D r h hT
  unfold stepT at *
  revert hT
  cases step s t with
  | inl s' => exact fun hT => h _ _ hT
  | inr r' => exact fun hT => hT
/-- A round that is a loop itself. -/
def nestT (T : τ → σ → υ → (σ → ρ → Prop) → ρ → Prop) (L : τ → List υ) : σ → τ → (σ → ρ → Prop) → ρ → Prop := fun s t C r => foldT (T t) C (L t) s r
theorem nestT_mono {T : τ → σ → υ → (σ → ρ → Prop) → ρ → Prop} (hT : ∀ t, MonoT (T t)) (L : τ → List υ) : MonoT (nestT T L) := fun s t C D r h hh => foldT_mono (hT t) h (L t) s r hh
theorem foldT_append (T : σ → τ → (σ → ρ → Prop) → ρ → Prop) (C : σ → ρ → Prop) (A B : List τ) : ∀ s r, foldT T C (A ++ B) s r ↔ foldT T (foldT T C B) A s r := by
  induction A with
  | nil => intro s r; rfl
  | cons t A ih =>
    intro s r
    have e : foldT T C (A ++ B) = foldT T (foldT T C B) A := by funext s r; exact propext (ih s r)
    show T s t (foldT T C (A ++ B)) r ↔ T s t (foldT T (foldT T C B) A) r
    rw [e]
theorem nest_flat (step : σ → υ → σ ⊕ ρ) (L : τ → List υ) (C : σ → ρ → Prop) (J : List τ) : foldT (nestT (fun _ => stepT step) L) C J = foldT (stepT step) C (J.flatMap L) := by
  induction J with
  | nil => rfl
  | cons t J ih =>
    funext s r
    rw [List.flatMap_cons]
    apply propext
    rw [foldT_append]
    show foldT (stepT step) (foldT (nestT (fun _ => stepT step) L) C J) (L t) s r ↔ _
    rw [ih]
def foldX (step : σ → τ → σ ⊕ ρ) (fin : σ → ρ) : List τ → σ → ρ
  | [], s => fin s
  | t :: L, s => match step s t with
    | .inl s' => foldX step fin L s'
    | .inr r => r
theorem foldX_T (step : σ → τ → σ ⊕ ρ) (fin : σ → ρ) {C : σ → ρ → Prop} (hC : ∀ s, C s (fin s)) (L : List τ) : ∀ s, foldT (stepT step) C L s (foldX step fin L s) := by
  induction L with
  | nil => exact hC
  | cons t L ih =>
    intro s
    show stepT step s t _ _
    unfold stepT foldX
    cases h : step s t with
    | inl s' => exact ih s'
    | inr r => rfl
/-- The whole numbers from a on, d of them. -/
def ints (a : Int) : Nat → List Int
  | 0 => []
  | d + 1 => a :: ints (a + 1) d
theorem ints_mem {a x : Int} {d : Nat} (h : x ∈ ints a d) : a ≤ x ∧ x < a + d := by
  induction d generalizing a with
  | zero => simp [ints] at h
  | succ d ih =>
    rcases List.mem_cons.1 h with rfl | h
    · omega
    · have := ih h; omega
/-- A loop that counts from a up to n. -/
theorem rangeLoop {l : Nat → σ → Int → Option ρ} (n : Int) {T : σ → Int → (σ → ρ → Prop) → ρ → Prop} (hT : MonoT T) {C : σ → ρ → Prop} (a0 : Int)
    (hs : ∀ s i, a0 ≤ i → i < n → ∀ r, T s i (fun s' r' => Ev (fun k => l k s' (i + 1)) r') r → Ev (fun k => l k s i) r)
    (he : ∀ s r, C s r → Ev (fun k => l k s n) r) (d : Nat) : ∀ (a : Int), a0 ≤ a → a + d = n → ∀ s r, foldT T C (ints a d) s r → Ev (fun k => l k s a) r := by
  induction d with
  | zero =>
    intro a h0 ha s r h
    obtain rfl : a = n := by omega
    exact he s r h
  | succ d ih =>
    intro a h0 ha s r h
    exact hs s a h0 (by omega) r (hT s a _ _ r (fun s' r' h' => ih (a + 1) (by omega) (by omega) s' r' h') h)
/-- A loop over a list, by its index. -/
theorem listLoop {l : Nat → σ → Int → Option ρ} (L : List τ) (z : τ) {T : σ → τ → (σ → ρ → Prop) → ρ → Prop} (hT : MonoT T) {C : σ → ρ → Prop}
    (hs : ∀ s (i : Int), 0 ≤ i → i < L.length → ∀ r, T s (L.getD i.toNat z) (fun s' r' => Ev (fun k => l k s' (i + 1)) r') r → Ev (fun k => l k s i) r)
    (he : ∀ s r, C s r → Ev (fun k => l k s (L.length : Int)) r) (d : Nat) : ∀ (a : Int), 0 ≤ a → a + d = L.length → ∀ s r, foldT T C (L.drop a.toNat) s r → Ev (fun k => l k s a) r := by
  induction d with
  | zero =>
    intro a h0 ha s r h
    obtain rfl : a = L.length := by omega
    rw [List.drop_of_length_le (by omega)] at h
    exact he s r h
  | succ d ih =>
    intro a h0 ha s r h
    rw [drop_cons L a.toNat z (by omega)] at h
    refine hs s a h0 (by omega) r (hT s _ _ _ r (fun s' r' h' => ih (a + 1) (by omega) (by omega) s' r' ?_) h)
    rw [show (a + 1).toNat = a.toNat + 1 from by omega]
    exact h'
theorem listLoop0 {l : Nat → σ → Int → Option ρ} (L : List τ) (z : τ) {T : σ → τ → (σ → ρ → Prop) → ρ → Prop} (hT : MonoT T) {C : σ → ρ → Prop}
    (hs : ∀ s (i : Int), 0 ≤ i → i < L.length → ∀ r, T s (L.getD i.toNat z) (fun s' r' => Ev (fun k => l k s' (i + 1)) r') r → Ev (fun k => l k s i) r)
    (he : ∀ s r, C s r → Ev (fun k => l k s (L.length : Int)) r) (s : σ) (r : ρ) (h : foldT T C L s r) : Ev (fun k => l k s 0) r :=
  listLoop L z hT hs he L.length 0 (by omega) (by omega) s r (by simpa using h)
theorem foldT_map (step : σ → τ → σ ⊕ ρ) (f : υ → τ) (C : σ → ρ → Prop) (L : List υ) : foldT (stepT step) C (L.map f) = foldT (stepT fun s u => step s (f u)) C L := by
  induction L with
  | nil => rfl
  | cons t L ih => funext s r; show stepT step s (f t) (foldT (stepT step) C (L.map f)) r = stepT (fun s u => step s (f u)) s t _ r; rw [ih]; rfl
/-- A round that only looks. -/
def allT (p : τ → Bool) : Unit → τ → (Unit → Bool → Prop) → Bool → Prop := fun _ t C r => if p t = true then C () r else r = false
theorem allT_mono (p : τ → Bool) : MonoT (allT p) := by
  intro s t C D r h hT
  unfold allT at *
  cases hp : p t with
  | true => rw [hp] at hT; exact h () r (by simpa using hT)
  | false => rw [hp] at hT; simpa using hT
theorem allT_fold (p : τ → Bool) (C : Unit → Bool → Prop) (L : List τ) : ∀ r, foldT (allT p) C L () r ↔ (if L.all p = true then C () r else r = false) := by
  induction L with
  | nil => intro r; simp [foldT]
  | cons t L ih =>
    intro r
    show (if p t = true then foldT (allT p) C L () r else r = false) ↔ _
    cases hp : p t with
    | true => rw [if_pos rfl, ih]; simp [hp]
    | false => simp [hp]
theorem allT_done (p : τ → Bool) (L : List τ) (C : Unit → Bool → Prop) (hC : C () true) : foldT (allT p) C L () (L.all p) := by
  rw [allT_fold]
  cases h : L.all p <;> simp [hC]
/-- A loop of looks inside a look. -/
theorem allT_nest (p : τ → υ → Bool) (q : τ → Bool) (L : τ → List υ) :
    (fun (s : Unit) (t : τ) (C : Unit → Bool → Prop) (r : Bool) => if q t = true then foldT (allT (p t)) C (L t) s r else r = false) = allT (fun t => q t && (L t).all (p t)) := by
  funext s t C r
  apply propext
  show (if q t = true then foldT (allT (p t)) C (L t) () r else r = false) ↔ (if (q t && (L t).all (p t)) = true then C () r else r = false)
  rw [allT_fold]
  cases q t <;> cases (L t).all (p t) <;> simp
theorem ints_mem_iff {a x : Int} {d : Nat} : x ∈ ints a d ↔ a ≤ x ∧ x < a + d := by
  induction d generalizing a with
  | zero => simp only [ints, List.not_mem_nil, false_iff]; omega
  | succ d ih => simp only [ints, List.mem_cons, ih]; omega
/-- The ascending lists of three of n. -/
def trips (n : Nat) : List (Int × Int × Int) := (ints 0 n).flatMap fun i => (ints (i + 1) ((n : Int) - 1 - i).toNat).flatMap fun j => (ints (j + 1) ((n : Int) - 1 - j).toNat).map fun k => (i, j, k)
theorem trips_mem {n : Nat} {i j k : Int} : (i, j, k) ∈ trips n ↔ 0 ≤ i ∧ i < j ∧ j < k ∧ k < n := by
  simp only [trips, List.mem_flatMap, List.mem_map, ints_mem_iff]
  constructor
  · rintro ⟨i', hi, j', hj, k', hk, he⟩
    simp only [Prod.mk.injEq] at he
    omega
  · rintro ⟨h0, h1, h2, h3⟩
    exact ⟨i, by omega, j, by omega, k, by omega, rfl⟩
def quads (n : Nat) : List (Int × Int × Int × Int) := (trips n).flatMap fun t => (ints (t.2.2 + 1) ((n : Int) - 1 - t.2.2).toNat).map fun l => (t.1, t.2.1, t.2.2, l)
theorem quads_mem {n : Nat} {i j k l : Int} : (i, j, k, l) ∈ quads n ↔ 0 ≤ i ∧ i < j ∧ j < k ∧ k < l ∧ l < n := by
  simp only [quads, List.mem_flatMap, List.mem_map, ints_mem_iff]
  constructor
  · rintro ⟨⟨i', j', k'⟩, ht, l', hl, he⟩
    rw [trips_mem] at ht
    simp only [Prod.mk.injEq] at he hl
    omega
  · rintro ⟨h0, h1, h2, h3, h4⟩
    exact ⟨(i, j, k), by rw [trips_mem]; omega, l, by simp only; omega, rfl⟩
/-- Three loops in each other, over the ascending lists of three of n. -/
theorem tripLoop {l0 : Nat → σ → Int → Option ρ} {l1 : Nat → σ → Int → Int → Option ρ} {l2 : Nat → σ → Int → Int → Int → Option ρ} (n : Nat) (step : σ → (Int × Int × Int) → σ ⊕ ρ) (fin : σ → ρ)
    (h2 : ∀ s i j k, 0 ≤ i → i < j → j < k → k < (n : Int) → ∀ r, stepT step s (i, j, k) (fun s' r' => Ev (fun q => l2 q s' i j (k + 1)) r') r → Ev (fun q => l2 q s i j k) r)
    (h2e : ∀ s i j, 0 ≤ i → i < j → j < (n : Int) → ∀ r, Ev (fun q => l1 q s i (j + 1)) r → Ev (fun q => l2 q s i j n) r)
    (h1 : ∀ s i j, 0 ≤ i → i < j → j < (n : Int) → ∀ r, Ev (fun q => l2 q s i j (j + 1)) r → Ev (fun q => l1 q s i j) r)
    (h1e : ∀ s i, 0 ≤ i → i < (n : Int) → ∀ r, Ev (fun q => l0 q s (i + 1)) r → Ev (fun q => l1 q s i n) r)
    (h0 : ∀ s i, 0 ≤ i → i < (n : Int) → ∀ r, Ev (fun q => l1 q s i (i + 1)) r → Ev (fun q => l0 q s i) r)
    (h0e : ∀ s, Ev (fun q => l0 q s n) (fin s)) (s : σ) : Ev (fun q => l0 q s 0) (foldX step fin (trips n) s) := by
  have hT := foldX_T step fin (C := fun s r => r = fin s) (fun _ => rfl) (trips n) s
  unfold trips at hT
  rw [← nest_flat] at hT
  refine rangeLoop (l := l0) (n : Int) (nestT_mono (fun _ => stepT_mono step) _) (C := fun s r => r = fin s) 0 ?_ (fun s r h => by subst h; exact h0e s) n 0 (by omega) (by omega) s _ hT
  intro s i hi0 hin r hT
  refine h0 s i hi0 hin r ?_
  unfold nestT at hT
  rw [← nest_flat] at hT
  refine rangeLoop (l := fun q s j => l1 q s i j) (n : Int) (nestT_mono (fun _ => stepT_mono step) _) (i + 1) ?_ (fun s r h => h1e s i hi0 hin r h) ((n : Int) - 1 - i).toNat (i + 1) (by omega) (by omega) s r hT
  intro s j hj0 hjn r hT
  refine h1 s i j hi0 (by omega) hjn r ?_
  unfold nestT at hT
  rw [foldT_map] at hT
  refine rangeLoop (l := fun q s k => l2 q s i j k) (n : Int) (stepT_mono _) (j + 1) ?_ (fun s r h => h2e s i j hi0 (by omega) hjn r h) ((n : Int) - 1 - j).toNat (j + 1) (by omega) (by omega) s r hT
  intro s k hk0 hkn r hT
  exact h2 s i j k hi0 (by omega) (by omega) hkn r hT
/-- A loop over a list whose rounds hand on a state. -/
theorem foldLoop {l0 : Nat → σ → Int → Option ρ} (L : List τ) (z : τ) (step : σ → τ → σ ⊕ ρ) (fin : σ → ρ)
    (hs : ∀ s (i : Int), 0 ≤ i → i < L.length → L.getD i.toNat z ∈ L → ∀ r, stepT step s (L.getD i.toNat z) (fun s' r' => Ev (fun k => l0 k s' (i + 1)) r') r → Ev (fun k => l0 k s i) r)
    (he : ∀ s, Ev (fun k => l0 k s (L.length : Int)) (fin s)) (s : σ) : Ev (fun k => l0 k s 0) (foldX step fin L s) :=
  listLoop0 L z (stepT_mono step) (C := fun s r => r = fin s) (fun s i h0 h1 r h => hs s i h0 h1 (getD_mem L i.toNat z (by omega)) r h) (fun s r h => by subst h; exact he s) s _ (foldX_T step fin (C := fun s r => r = fin s) (fun _ => rfl) L s)
theorem stepT_inl {step : σ → τ → σ ⊕ ρ} {s : σ} {t : τ} {C : σ → ρ → Prop} {r : ρ} {s' : σ} (h : stepT step s t C r) (e : step s t = .inl s') : C s' r := by unfold stepT at h; rw [e] at h; exact h
theorem stepT_inr {step : σ → τ → σ ⊕ ρ} {s : σ} {t : τ} {C : σ → ρ → Prop} {r : ρ} {r' : ρ} (h : stepT step s t C r) (e : step s t = .inr r') : r = r' := by unfold stepT at h; rw [e] at h; exact h
theorem foldX_foldl (g : σ → τ → σ) (fin : σ → ρ) (L : List τ) : ∀ s, foldX (fun s t => .inl (g s t)) fin L s = fin (L.foldl g s) := by
  induction L with
  | nil => intro s; rfl
  | cons t L ih => intro s; exact ih (g s t)
theorem ints_len (a : Int) (d : Nat) : (ints a d).length = d := by
  induction d generalizing a with
  | zero => rfl
  | succ d ih => simp [ints, ih]
end Go.Proofs.YteaagaekdkolnaaGreatDoor.Com

namespace Go.Proofs.YteaagaekdkolnaaGreatDoor.Pure
open Go.RowKit Go.Proofs.YteaagaekdkolnaaGreatDoor.P Go.Proofs.YteaagaekdkolnaaGreatDoorW.PrintWords Go.Proofs.YteaagaekdkolnaaGreatDoorW.PrintLast Go.Proofs.YteaagaekdkolnaaGreatDoor.Com
set_option linter.unusedSimpArgs false
set_option linter.unusedVariables false

def mk3 (t : Int × Int × Int) : S59 := ⟨t.1, t.2.1, t.2.2⟩
theorem trips_0 : impl_triplesOf.f 200 (0 : Nat) = some ((trips 0).map mk3) := by kernel_rfl
theorem trips_1 : impl_triplesOf.f 200 (1 : Nat) = some ((trips 1).map mk3) := by kernel_rfl
theorem trips_2 : impl_triplesOf.f 200 (2 : Nat) = some ((trips 2).map mk3) := by kernel_rfl
theorem trips_3 : impl_triplesOf.f 200 (3 : Nat) = some ((trips 3).map mk3) := by kernel_rfl
theorem trips_4 : impl_triplesOf.f 200 (4 : Nat) = some ((trips 4).map mk3) := by kernel_rfl
theorem trips_5 : impl_triplesOf.f 200 (5 : Nat) = some ((trips 5).map mk3) := by kernel_rfl
theorem trips_6 : impl_triplesOf.f 200 (6 : Nat) = some ((trips 6).map mk3) := by kernel_rfl
theorem trips_7 : impl_triplesOf.f 200 (7 : Nat) = some ((trips 7).map mk3) := by kernel_rfl
theorem triples_eq (n : Nat) (hn : n ≤ 7) : Ev (fun k => impl_triplesOf.f k (n : Int)) ((trips n).map mk3) := by
  have h : impl_triplesOf.f 200 (n : Int) = some ((trips n).map mk3) := by
    have z : n = 0 ∨ n = 1 ∨ n = 2 ∨ n = 3 ∨ n = 4 ∨ n = 5 ∨ n = 6 ∨ n = 7 := by omega
    rcases z with rfl | rfl | rfl | rfl | rfl | rfl | rfl | rfl
    · exact trips_0
    · exact trips_1
    · exact trips_2
    · exact trips_3
    · exact trips_4
    · exact trips_5
    · exact trips_6
    · exact trips_7
  exact Ev.of (fun k => impl_triplesOf.mono _ k) h
end Go.Proofs.YteaagaekdkolnaaGreatDoor.Pure

namespace Go.Proofs.YteaagaekdkolnaaGreatDoor.Pure
open Go.RowKit Go.Proofs.YteaagaekdkolnaaGreatDoor.P Go.Proofs.YteaagaekdkolnaaGreatDoorW.PrintWords Go.Proofs.YteaagaekdkolnaaGreatDoorW.PrintLast Go.Proofs.YteaagaekdkolnaaGreatDoor.Com
set_option linter.unusedSimpArgs false
set_option linter.unusedVariables false

/-- Twice the area of three points of a list, with its sign. -/
def areaL (l : List S34) (i j k : Int) : Int := areaW (rd_T34 l i).f0 (rd_T34 l i).f1 (rd_T34 l j).f0 (rd_T34 l j).f1 (rd_T34 l k).f0 (rd_T34 l k).f1
def fits50 (l : List S34) (i : Int) : Bool := inB (rd_T34 l i).f0 50 && inB (rd_T34 l i).f1 50
def nz (l : List S34) (i j k : Int) : Bool := !(areaL l i j k == 0)
/-- Three to seven points with coordinates between -50 and 50, no three of them on a line. -/
def pointsB (l : List S34) : Bool := decide (3 ≤ l.length ∧ l.length ≤ 7) && (ints 0 l.length).all fun k => fits50 l k && (ints 0 k.toNat).all fun j => (ints 0 j.toNat).all fun i => nz l i j k
theorem pointsB_iff (l : List S34) : pointsB l = true ↔ (3 ≤ l.length ∧ l.length ≤ 7) ∧ (∀ i : Int, 0 ≤ i → i < l.length → fits50 l i = true) ∧ (∀ i j k : Int, 0 ≤ i → i < j → j < k → k < l.length → areaL l i j k ≠ 0) := by
  unfold pointsB
  simp only [Bool.and_eq_true, decide_eq_true_eq, List.all_eq_true, ints_mem_iff, nz, Bool.not_eq_true', beq_eq_false_iff_ne]
  constructor
  · rintro ⟨hl, h⟩
    refine ⟨hl, fun i h0 h1 => (h i ⟨h0, by omega⟩).1, fun i j k h0 h1 h2 h3 => ?_⟩
    exact (h k ⟨by omega, by omega⟩).2 j ⟨by omega, by omega⟩ i ⟨by omega, by omega⟩
  · rintro ⟨hl, hf, ha⟩
    refine ⟨hl, fun k hk => ⟨hf k hk.1 (by omega), fun j hj i hi => ha i j k (by omega) (by omega) (by omega) (by omega)⟩⟩
theorem l2Area_L (l : List S34) (i j k : Int) : spec_l2Area.f (rd_T34 l i).f0 (rd_T34 l i).f1 (rd_T34 l j).f0 (rd_T34 l j).f1 (rd_T34 l k).f0 (rd_T34 l k).f1 = some (areaL l i j k) := l2Area_eq _ _ _ _ _ _
theorem spec_ArePoints_ev (l : List S34) (hl : l.length ≤ 1099511627776) : Ev (fun k => spec_ArePoints.f k l) (pointsB l) := by
  simp only [spec_ArePoints.f, l1In_eq, Option.bind_some]
  by_cases h : 3 ≤ l.length ∧ l.length ≤ 7
  · refine Ev.iteT (by simp; omega) ?_
    have e : pointsB l = (ints 0 l.length).all fun k => fits50 l k && (ints 0 k.toNat).all fun j => (ints 0 j.toNat).all fun i => nz l i j k := by unfold pointsB; rw [decide_eq_true h]; simp
    rw [e]
    refine rangeLoop (σ := Unit) (l := fun k _ i => spec_ArePoints.l0 k l i) (l.length : Int) (T := allT _) (allT_mono _) (C := fun _ r => r = true) 0 ?_ ?_ l.length 0 (by omega) (by omega) () _ (allT_done _ _ _ rfl)
    · intro _ k hk0 hkn r hT
      rw [← allT_nest (fun k j => (ints 0 j.toNat).all fun i => nz l i j k) (fits50 l) (fun k => ints 0 k.toNat)] at hT
      refine Ev.step (f := fun q => if fits50 l k = true then spec_ArePoints.l1 q l k 0 else some false) (fun q => ?_) ?_
      · simp only [spec_ArePoints.l0]
        rw [if_pos hkn, if_pos hk0, l2Fits_eq _ _ 50 (by omega) (by omega)]; rfl
      cases hf : fits50 l k with
      | false => rw [hf] at hT; simp only [Bool.false_eq_true, if_false] at hT ⊢; subst hT; exact Ev.now _
      | true =>
        rw [hf] at hT; simp only [if_true] at hT ⊢
        refine rangeLoop (σ := Unit) (l := fun q _ j => spec_ArePoints.l1 q l k j) k (T := allT fun j => (ints 0 j.toNat).all fun i => nz l i j k) (allT_mono _) (C := fun s r => Ev (fun q => spec_ArePoints.l0 q l (k + 1)) r) 0 ?_ ?_ k.toNat 0 (by omega) (by omega) () r hT
        · intro _ j hj0 hjk r hT
          refine Ev.step (f := fun q => spec_ArePoints.l2 q l k j 0) (fun q => by simp only [spec_ArePoints.l1]; rw [if_pos hjk]) ?_
          have hT2 : foldT (allT fun i => nz l i j k) (fun _ r => Ev (fun q => spec_ArePoints.l1 q l k (j + 1)) r) (ints 0 j.toNat) () r := by rw [allT_fold]; exact hT
          refine rangeLoop (σ := Unit) (l := fun q _ i => spec_ArePoints.l2 q l k j i) j (T := allT fun i => nz l i j k) (allT_mono _) 0 ?_ ?_ j.toNat 0 (by omega) (by omega) () r hT2
          · intro _ i hi0 hij r hT
            refine Ev.step (f := fun q => if areaL l i j k = 0 then some false else spec_ArePoints.l2 q l k j (i + 1)) (fun q => ?_) ?_
            · simp only [spec_ArePoints.l2]
              rw [if_pos hij, if_pos hi0, if_pos (by omega), if_pos hj0, if_pos (by omega), if_pos hk0, if_pos hkn, l2Area_L, w64 (by omega) (by omega)]; rfl
            by_cases hz : areaL l i j k = 0
            · have : r = false := by simpa [allT, nz, hz] using hT
              subst this; exact Ev.iteT hz (Ev.now _)
            · refine Ev.iteF hz ?_; simpa [allT, nz, hz] using hT
          · intro _ r hC
            refine Ev.step (f := fun q => spec_ArePoints.l1 q l k (j + 1)) (fun q => ?_) hC
            simp only [spec_ArePoints.l2]
            rw [if_neg (by omega), w64 (by omega) (by omega)]
        · intro _ r hC
          refine Ev.step (f := fun q => spec_ArePoints.l0 q l (k + 1)) (fun q => ?_) hC
          simp only [spec_ArePoints.l1]
          rw [if_neg (by omega), w64 (by omega) (by omega)]
    · intro _ r hC
      subst hC
      refine Ev.step (f := fun _ => some true) (fun q => ?_) (Ev.now true)
      simp only [spec_ArePoints.l0]
      rw [if_neg (by omega)]
  · have e : pointsB l = false := by unfold pointsB; rw [decide_eq_false h]; rfl
    rw [e]
    exact Ev.iteF (by simp; omega) (Ev.now _)
theorem sgn_zero (x : Int) : sgn x = 0 ↔ x = 0 := by unfold sgn; split <;> (try split) <;> omega
theorem fits50_all (l : List S34) : (l.all fun p => inB p.f0 50 && inB p.f1 50) = (ints 0 l.length).all (fits50 l) := by
  rw [Bool.eq_iff_iff]
  simp only [List.all_eq_true, ints_mem_iff]
  constructor
  · intro h i hi
    exact h (rd_T34 l i) (getD_mem l i.toNat z34 (by omega))
  · intro h p hp
    obtain ⟨n, hn, rfl⟩ := List.mem_iff_getElem.1 hp
    have := h (n : Int) (by omega)
    simpa [fits50, rd_T34, List.getD, List.getElem?_eq_getElem hn] using this
theorem TurnOf_in (l : List S34) (i j k : Int) (hi : fits50 l i = true) (hj : fits50 l j = true) (hk : fits50 l k = true) :
    impl_TurnOf.f (rd_T34 l i).f0 (rd_T34 l i).f1 (rd_T34 l j).f0 (rd_T34 l j).f1 (rd_T34 l k).f0 (rd_T34 l k).f1 = some (sgn (areaL l i j k)) := by
  rw [TurnOf_eq, if_pos]; · rfl
  simp only [fits50, Bool.and_eq_true, inB_iff] at *
  omega
theorem impl_ArePoints_ev (l : List S34) (hl : l.length ≤ 1099511627776) : Ev (fun k => impl_ArePoints.f k l) (pointsB l) := by
  have stop : Ev (fun k => impl_ArePoints.j0 k l true) false := Ev.step (f := fun _ => some false) (fun k => by simp only [impl_ArePoints.j0, if_true]) (Ev.now _)
  simp only [impl_ArePoints.f, areNear_eq 50 _ (show (0 : Int) ≤ 50 by omega) (by omega), Option.bind_some]
  by_cases h3 : (l.length : Int) < 3
  · have e : pointsB l = false := by unfold pointsB; rw [decide_eq_false (by omega)]; rfl
    rw [e]; exact Ev.iteT h3 stop
  refine Ev.iteF h3 ?_
  by_cases h7 : (l.length : Int) > 7
  · have e : pointsB l = false := by unfold pointsB; rw [decide_eq_false (by omega)]; rfl
    rw [e]; exact Ev.iteT h7 stop
  refine Ev.iteF h7 ?_
  rw [fits50_all]
  cases hf : (ints 0 l.length).all (fits50 l) with
  | false =>
    have e : pointsB l = false := by
      rw [Bool.eq_false_iff]; intro hp
      rw [pointsB_iff] at hp
      rw [List.all_eq_false] at hf
      obtain ⟨x, hx, hx'⟩ := hf
      rw [ints_mem_iff] at hx
      exact hx' (hp.2.1 x hx.1 (by omega))
    rw [e]; exact stop
  | true =>
    have hF : ∀ i, 0 ≤ i → i < (l.length : Int) → fits50 l i = true := fun i h0 h1 => by
      rw [List.all_eq_true] at hf; exact hf i (by rw [ints_mem_iff]; omega)
    refine Ev.step (f := fun k => (impl_triplesOf.f k (l.length : Int)).bind fun t => impl_ArePoints.l0 k l t (t.length : Int) 0) (fun k => by simp only [impl_ArePoints.j0, Bool.not_true, Bool.false_eq_true, if_false]) ?_
    refine Ev.bind (triples_eq l.length (by omega)) ?_
    have e : pointsB l = ((trips l.length).map mk3).all fun t => nz l t.f0 t.f1 t.f2 := by
      rw [Bool.eq_iff_iff, pointsB_iff]
      simp only [List.all_eq_true, List.mem_map]
      constructor
      · rintro ⟨_, _, ha⟩ t ⟨⟨i, j, k⟩, hm, rfl⟩
        rw [trips_mem] at hm
        simp only [mk3, nz, Bool.not_eq_true', beq_eq_false_iff_ne]
        exact ha i j k hm.1 hm.2.1 hm.2.2.1 hm.2.2.2
      · intro h
        refine ⟨by omega, hF, fun i j k h0 h1 h2 h3 => ?_⟩
        have := h _ ⟨(i, j, k), by rw [trips_mem]; omega, rfl⟩
        simpa [mk3, nz] using this
    rw [e]
    refine listLoop0 (σ := Unit) (l := fun q _ i => impl_ArePoints.l0 q l _ _ i) ((trips l.length).map mk3) z59 (T := allT _) (allT_mono _) (C := fun _ r => r = true) ?_ ?_ () _ (allT_done _ _ _ rfl)
    · intro _ i hi0 hin r hT
      have hm : ((trips l.length).map mk3).getD i.toNat z59 ∈ (trips l.length).map mk3 := getD_mem _ _ _ (by omega)
      generalize hg : ((trips l.length).map mk3).getD i.toNat z59 = t at hm hT
      have hr : rd_T59 ((trips l.length).map mk3) i = t := hg
      obtain ⟨⟨a, b, c⟩, hm3, rfl⟩ := List.mem_map.1 hm
      clear hm
      have hm := trips_mem.1 hm3
      refine Ev.step (f := fun q => if sgn (areaL l a b c) = 0 then some false else impl_ArePoints.l0 q l ((trips l.length).map mk3) (((trips l.length).map mk3).length : Int) (i + 1)) (fun q => ?_) ?_
      · simp only [impl_ArePoints.l0, hr, mk3]
        have hlen : i < (((trips l.length).map mk3).length : Int) := hin
        have hb : (((trips l.length).map mk3).length : Int) ≤ 35 := by
          have : l.length = 3 ∨ l.length = 4 ∨ l.length = 5 ∨ l.length = 6 ∨ l.length = 7 := by omega
          rcases this with h | h | h | h | h <;> rw [h] <;> decide +kernel
        rw [if_pos hlen, if_pos hi0, if_pos (by omega), if_pos (by omega), if_pos (by omega), if_pos (by omega), if_pos (by omega), if_pos (by omega), if_pos (by omega), TurnOf_in l a b c (hF a (by omega) (by omega)) (hF b (by omega) (by omega)) (hF c (by omega) (by omega)), w64 (by omega) (by omega)]; rfl
      by_cases hz : areaL l a b c = 0
      · have : r = false := by simpa [allT, nz, mk3, hz] using hT
        subst this; exact Ev.iteT ((sgn_zero _).2 hz) (Ev.now _)
      · refine Ev.iteF (fun h => hz ((sgn_zero _).1 h)) ?_; simpa [allT, nz, mk3, hz] using hT
    · intro _ r hC
      subst hC
      refine Ev.step (f := fun _ => some true) (fun q => ?_) (Ev.now true)
      simp only [impl_ArePoints.l0]
      rw [if_neg (by omega)]
end Go.Proofs.YteaagaekdkolnaaGreatDoor.Pure

namespace Go.Proofs.YteaagaekdkolnaaGreatDoor.Pure
open Go.RowKit Go.Proofs.YteaagaekdkolnaaGreatDoor.P Go.Proofs.YteaagaekdkolnaaGreatDoorW.PrintWords Go.Proofs.YteaagaekdkolnaaGreatDoorW.PrintLast Go.Proofs.YteaagaekdkolnaaGreatDoor.Com
set_option linter.unusedSimpArgs false
set_option linter.unusedVariables false

theorem tix_inj {a b c d e f : Int} (ha : in7 a) (hb : in7 b) (hc : in7 c) (hd : in7 d) (he : in7 e) (hf : in7 f) (h : tix a b c = tix d e f) : a = d ∧ b = e ∧ c = f := by
  unfold in7 at *
  unfold tix at h
  omega
/-- Signs of three elements below n: another order of two changes the sign. -/
structure Chi (n : Int) (X : Int → Int → Int → Int) : Prop where
  le : n ≤ 7
  s1 : ∀ i j k, 0 ≤ i → i < n → 0 ≤ j → j < n → 0 ≤ k → k < n → i ≠ j → j ≠ k → i ≠ k → X j i k = -X i j k
  s2 : ∀ i j k, 0 ≤ i → i < n → 0 ≤ j → j < n → 0 ≤ k → k < n → i ≠ j → j ≠ k → i ≠ k → X i k j = -X i j k
  pm : ∀ i j k, 0 ≤ i → i < n → 0 ≤ j → j < n → 0 ≤ k → k < n → i ≠ j → j ≠ k → i ≠ k → X i j k = 1 ∨ X i j k = -1
def setX (X : Int → Int → Int → Int) (T : Nat → Int) (t : S59) : Nat → Int := setT T t.f0 t.f1 t.f2 (X t.f0 t.f1 t.f2)
/-- What stands in a table behind one more triple. -/
theorem setX_at {n : Int} {X : Int → Int → Int → Int} (hX : Chi n X) (T : Nat → Int) (t : S59) (h0 : 0 ≤ t.f0) (h1 : t.f0 < t.f1) (h2 : t.f1 < t.f2) (h3 : t.f2 < n) (i j k : Int) (hi : 0 ≤ i ∧ i < n) (hj : 0 ≤ j ∧ j < n) (hk : 0 ≤ k ∧ k < n) (hij : i ≠ j) (hjk : j ≠ k) (hik : i ≠ k) :
    setX X T t (tix i j k) = X i j k ∨ (setX X T t (tix i j k) = T (tix i j k) ∧ ¬ ((i = t.f0 ∨ i = t.f1 ∨ i = t.f2) ∧ (j = t.f0 ∨ j = t.f1 ∨ j = t.f2) ∧ (k = t.f0 ∨ k = t.f1 ∨ k = t.f2))) := by
  obtain ⟨a, b, c⟩ := t
  simp only at h0 h1 h2 h3 ⊢
  have h7 := hX.le
  have ia : in7 a := ⟨by omega, by omega⟩
  have ib : in7 b := ⟨by omega, by omega⟩
  have ic : in7 c := ⟨by omega, by omega⟩
  have ii : in7 i := ⟨by omega, by omega⟩
  have ij : in7 j := ⟨by omega, by omega⟩
  have ik : in7 k := ⟨by omega, by omega⟩
  have e1 := hX.s1 a b c h0 (by omega) (by omega) (by omega) (by omega) h3 (by omega) (by omega) (by omega)
  have e2 := hX.s2 a b c h0 (by omega) (by omega) (by omega) (by omega) h3 (by omega) (by omega) (by omega)
  have e3 := hX.s2 b a c (by omega) (by omega) (by omega) (by omega) (by omega) h3 (by omega) (by omega) (by omega)
  have e4 := hX.s1 a c b (by omega) (by omega) (by omega) (by omega) (by omega) (by omega) (by omega) (by omega) (by omega)
  have e5 := hX.s2 c a b (by omega) (by omega) (by omega) (by omega) (by omega) (by omega) (by omega) (by omega) (by omega)
  have ep := hX.pm a b c h0 (by omega) (by omega) (by omega) (by omega) h3 (by omega) (by omega) (by omega)
  have ew : wrap64 (-X a b c) = -X a b c := by rcases ep with e | e <;> rw [e] <;> decide +kernel
  simp only [setX, setT, upT, ew]
  by_cases z1 : tix i j k = tix b a c
  · obtain ⟨rfl, rfl, rfl⟩ := tix_inj ii ij ik ib ia ic z1
    left; rw [if_pos rfl]; omega
  rw [if_neg z1]
  by_cases z2 : tix i j k = tix c b a
  · obtain ⟨rfl, rfl, rfl⟩ := tix_inj ii ij ik ic ib ia z2
    left; rw [if_pos rfl]; omega
  rw [if_neg z2]
  by_cases z3 : tix i j k = tix a c b
  · obtain ⟨rfl, rfl, rfl⟩ := tix_inj ii ij ik ia ic ib z3
    left; rw [if_pos rfl]; omega
  rw [if_neg z3]
  by_cases z4 : tix i j k = tix c a b
  · obtain ⟨rfl, rfl, rfl⟩ := tix_inj ii ij ik ic ia ib z4
    left; rw [if_pos rfl]; omega
  rw [if_neg z4]
  by_cases z5 : tix i j k = tix b c a
  · obtain ⟨rfl, rfl, rfl⟩ := tix_inj ii ij ik ib ic ia z5
    left; rw [if_pos rfl]; omega
  rw [if_neg z5]
  by_cases z6 : tix i j k = tix a b c
  · obtain ⟨rfl, rfl, rfl⟩ := tix_inj ii ij ik ia ib ic z6
    left; rw [if_pos rfl]
  rw [if_neg z6]
  right
  refine ⟨rfl, ?_⟩
  rintro ⟨hp, hq, hr⟩
  rcases hp with rfl | rfl | rfl <;> rcases hq with rfl | rfl | rfl <;> rcases hr with rfl | rfl | rfl <;> first | exact absurd rfl hij | exact absurd rfl hjk | exact absurd rfl hik | exact absurd rfl z1 | exact absurd rfl z2 | exact absurd rfl z3 | exact absurd rfl z4 | exact absurd rfl z5 | exact absurd rfl z6
/-- The table of a chirotope. -/
theorem fold_setX {n : Int} {X : Int → Int → Int → Int} (hX : Chi n X) (T0 : Nat → Int) (L : List S59) (hL : ∀ t ∈ L, 0 ≤ t.f0 ∧ t.f0 < t.f1 ∧ t.f1 < t.f2 ∧ t.f2 < n) (i j k : Int) (hi : 0 ≤ i ∧ i < n) (hj : 0 ≤ j ∧ j < n) (hk : 0 ≤ k ∧ k < n) (hij : i ≠ j) (hjk : j ≠ k) (hik : i ≠ k)
    (hm : ∃ t ∈ L, (i = t.f0 ∨ i = t.f1 ∨ i = t.f2) ∧ (j = t.f0 ∨ j = t.f1 ∨ j = t.f2) ∧ (k = t.f0 ∨ k = t.f1 ∨ k = t.f2)) : L.foldl (setX X) T0 (tix i j k) = X i j k := by
  have key : ∀ M : List S59, (∀ t ∈ M, 0 ≤ t.f0 ∧ t.f0 < t.f1 ∧ t.f1 < t.f2 ∧ t.f2 < n) → ∀ T : Nat → Int, (T (tix i j k) = X i j k ∨ ∃ t ∈ M, (i = t.f0 ∨ i = t.f1 ∨ i = t.f2) ∧ (j = t.f0 ∨ j = t.f1 ∨ j = t.f2) ∧ (k = t.f0 ∨ k = t.f1 ∨ k = t.f2)) → M.foldl (setX X) T (tix i j k) = X i j k := by
    intro M
    induction M with
    | nil =>
      rintro _ T (h | ⟨t, ht, _⟩)
      · exact h
      · cases ht
    | cons u M ih =>
      intro hM T h
      rw [List.foldl_cons]
      refine ih (fun t ht => hM t (List.mem_cons_of_mem _ ht)) _ ?_
      obtain ⟨u0, u1, u2, u3⟩ := hM u (List.mem_cons_self ..)
      rcases setX_at hX T u u0 u1 u2 u3 i j k hi hj hk hij hjk hik with e | ⟨e, hne⟩
      · exact Or.inl e
      · rcases h with h | ⟨t, ht, hp⟩
        · exact Or.inl (by rw [e]; exact h)
        · rcases List.mem_cons.1 ht with rfl | ht
          · exact absurd hp hne
          · exact Or.inr ⟨t, ht, hp⟩
  exact key L hL T0 (Or.inr hm)
/-! ### the list of triples -/
theorem chiList_trips (n : Nat) (h : 3 ≤ n ∧ n ≤ 7) : chiList (n : Int) = (trips n).map mk3 := by
  obtain ⟨h1, h2⟩ := h
  have z : n = 3 ∨ n = 4 ∨ n = 5 ∨ n = 6 ∨ n = 7 := by omega
  have e : ∀ m : Nat, impl_triplesOf.f 200 (m : Int) = some ((trips m).map mk3) → chiList (m : Int) = (trips m).map mk3 := by
    intro m hm
    have h300 : impl_triplesOf.f 300 (m : Int) = some ((trips m).map mk3) := by
      have up : ∀ d, impl_triplesOf.f (200 + d) (m : Int) = some ((trips m).map mk3) := by
        intro d
        induction d with
        | zero => exact hm
        | succ d ih => exact impl_triplesOf.mono _ _ _ ih
      exact up 100
    unfold chiList
    rw [h300]
    rfl
  rcases z with rfl | rfl | rfl | rfl | rfl
  · exact e 3 trips_3
  · exact e 4 trips_4
  · exact e 5 trips_5
  · exact e 6 trips_6
  · exact e 7 trips_7
theorem sorted3 (i j k : Int) (hij : i ≠ j) (hjk : j ≠ k) (hik : i ≠ k) : ∃ a b c : Int, a < b ∧ b < c ∧ (i = a ∨ i = b ∨ i = c) ∧ (j = a ∨ j = b ∨ j = c) ∧ (k = a ∨ k = b ∨ k = c) ∧ (a = i ∨ a = j ∨ a = k) ∧ (c = i ∨ c = j ∨ c = k) := by
  by_cases h1 : i < j
  · by_cases h2 : j < k
    · exact ⟨i, j, k, by omega, by omega, by omega, by omega, by omega, by omega, by omega⟩
    · by_cases h3 : i < k
      · exact ⟨i, k, j, by omega, by omega, by omega, by omega, by omega, by omega, by omega⟩
      · exact ⟨k, i, j, by omega, by omega, by omega, by omega, by omega, by omega, by omega⟩
  · by_cases h2 : i < k
    · exact ⟨j, i, k, by omega, by omega, by omega, by omega, by omega, by omega, by omega⟩
    · by_cases h3 : j < k
      · exact ⟨j, k, i, by omega, by omega, by omega, by omega, by omega, by omega, by omega⟩
      · exact ⟨k, j, i, by omega, by omega, by omega, by omega, by omega, by omega, by omega⟩
/-- The whole table. -/
theorem table_at {n : Nat} (hn : 3 ≤ n ∧ n ≤ 7) {X : Int → Int → Int → Int} (hX : Chi n X) (T0 : Nat → Int) (i j k : Int) (hi : 0 ≤ i ∧ i < n) (hj : 0 ≤ j ∧ j < n) (hk : 0 ≤ k ∧ k < n) (hij : i ≠ j) (hjk : j ≠ k) (hik : i ≠ k) :
    (chiList (n : Int)).foldl (setX X) T0 (tix i j k) = X i j k := by
  rw [chiList_trips n hn]
  refine fold_setX hX T0 _ ?_ i j k hi hj hk hij hjk hik ?_
  · intro t ht
    obtain ⟨⟨a, b, c⟩, hm, rfl⟩ := List.mem_map.1 ht
    exact trips_mem.1 hm
  · obtain ⟨a, b, c, hab, hbc, h1, h2, h3, h4, h5⟩ := sorted3 i j k hij hjk hik
    exact ⟨mk3 (a, b, c), List.mem_map.2 ⟨(a, b, c), trips_mem.2 ⟨by omega, hab, hbc, by omega⟩, rfl⟩, h1, h2, h3⟩
/-! ### the text of signs -/
theorem strOfNums_bt (L : List Int) (hL : ∀ x ∈ L, 0 ≤ x ∧ x < 256) (i : Int) (h0 : 0 ≤ i) (h1 : i < L.length) : bt (strOfNums L) i = L.getD i.toNat 0 := by
  have hs : i.toNat < (strOfNums L).size := by rw [strOfNums_size]; omega
  rw [← bt_at _ _ hs]
  have hl : i.toNat < L.length := by omega
  have : (strOfNums L)[i.toNat]'hs = UInt8.ofNat (L[i.toNat]).toNat := by
    show (strOfNums L).data[i.toNat] = _
    simp [strOfNums]
  rw [this]
  have hx := hL _ (List.getElem_mem hl)
  rw [List.getD_eq_getElem?_getD, List.getElem?_eq_getElem hl]
  simp only [Option.getD_some, UInt8.toNat_ofNat']
  omega
end Go.Proofs.YteaagaekdkolnaaGreatDoor.Pure

namespace Go.Proofs.YteaagaekdkolnaaGreatDoor.Com
open Go.RowKit Go.Proofs.YteaagaekdkolnaaGreatDoorW.PrintWords
set_option linter.unusedSimpArgs false
set_option linter.unusedVariables false
variable {σ τ ρ υ : Type}
theorem nest_flatT {T : σ → υ → (σ → ρ → Prop) → ρ → Prop} (hT : MonoT T) (L : τ → List υ) (C : σ → ρ → Prop) (J : List τ) : ∀ s r, foldT (nestT (fun _ => T) L) C J s r ↔ foldT T C (J.flatMap L) s r := by
  induction J with
  | nil => intro s r; exact Iff.rfl
  | cons t J ih =>
    intro s r
    rw [List.flatMap_cons, foldT_append]
    exact ⟨fun h => foldT_mono hT (fun s r => (ih s r).1) (L t) s r h, fun h => foldT_mono hT (fun s r => (ih s r).2) (L t) s r h⟩
theorem foldT_mapT (T : σ → τ → (σ → ρ → Prop) → ρ → Prop) (f : υ → τ) (C : σ → ρ → Prop) (L : List υ) : ∀ s r, foldT T C (L.map f) s r ↔ foldT (fun s u => T s (f u)) C L s r := by
  induction L with
  | nil => intro s r; exact Iff.rfl
  | cons u L ih =>
    have e : foldT T C (L.map f) = foldT (fun s u => T s (f u)) C L := by funext s r; exact propext (ih s r)
    intro s r
    show T s (f u) (foldT T C (L.map f)) r ↔ T s (f u) (foldT (fun s u => T s (f u)) C L) r
    rw [e]
/-- Three loops in each other, over the ascending lists of three of n. -/
theorem tripLoopT {l0 : Nat → σ → Int → Option ρ} {l1 : Nat → σ → Int → Int → Option ρ} {l2 : Nat → σ → Int → Int → Int → Option ρ} (n : Nat) {T : σ → (Int × Int × Int) → (σ → ρ → Prop) → ρ → Prop} (hM : MonoT T) {C : σ → ρ → Prop}
    (h2 : ∀ s i j k, 0 ≤ i → i < j → j < k → k < (n : Int) → ∀ r, T s (i, j, k) (fun s' r' => Ev (fun q => l2 q s' i j (k + 1)) r') r → Ev (fun q => l2 q s i j k) r)
    (h2e : ∀ s i j, 0 ≤ i → i < j → j < (n : Int) → ∀ r, Ev (fun q => l1 q s i (j + 1)) r → Ev (fun q => l2 q s i j n) r)
    (h1 : ∀ s i j, 0 ≤ i → i < j → j < (n : Int) → ∀ r, Ev (fun q => l2 q s i j (j + 1)) r → Ev (fun q => l1 q s i j) r)
    (h1e : ∀ s i, 0 ≤ i → i < (n : Int) → ∀ r, Ev (fun q => l0 q s (i + 1)) r → Ev (fun q => l1 q s i n) r)
    (h0 : ∀ s i, 0 ≤ i → i < (n : Int) → ∀ r, Ev (fun q => l1 q s i (i + 1)) r → Ev (fun q => l0 q s i) r)
    (h0e : ∀ s r, C s r → Ev (fun q => l0 q s n) r) (s : σ) (r : ρ) (hT : foldT T C (trips n) s r) : Ev (fun q => l0 q s 0) r := by
  unfold trips at hT
  rw [← nest_flatT hM] at hT
  refine rangeLoop (l := l0) (n : Int) (nestT_mono (fun _ => hM) _) (C := C) 0 ?_ h0e n 0 (by omega) (by omega) s _ hT
  intro s i hi0 hin r hT
  refine h0 s i hi0 hin r ?_
  unfold nestT at hT
  rw [← nest_flatT hM] at hT
  refine rangeLoop (l := fun q s j => l1 q s i j) (n : Int) (nestT_mono (fun _ => hM) _) (i + 1) ?_ (fun s r h => h1e s i hi0 hin r h) ((n : Int) - 1 - i).toNat (i + 1) (by omega) (by omega) s r hT
  intro s j hj0 hjn r hT
  refine h1 s i j hi0 (by omega) hjn r ?_
  unfold nestT at hT
  rw [foldT_mapT] at hT
  refine rangeLoop (l := fun q s k => l2 q s i j k) (n : Int) (T := fun s k => T s (i, j, k)) (fun s t C D r h hh => hM s _ C D r h hh) (j + 1) ?_ (fun s r h => h2e s i j hi0 (by omega) hjn r h) ((n : Int) - 1 - j).toNat (j + 1) (by omega) (by omega) s r hT
  intro s k hk0 hkn r hT
  exact h2 s i j k hi0 (by omega) (by omega) hkn r hT
/-- A round that may put a value behind the row. -/
def pushT (g : τ → Option υ) : List υ → τ → (List υ → ρ → Prop) → ρ → Prop := fun s t C r =>
  match g t with
  | some v => s.length < 1000000 ∧ C (s ++ [v]) r
  | none => C s r
theorem pushT_mono (g : τ → Option υ) : MonoT (pushT (ρ := ρ) g) := by
  intro s t C D r h hT
  unfold pushT at *
  revert hT
  cases g t with
  | some v => exact fun hT => ⟨hT.1, h _ _ hT.2⟩
  | none => exact fun hT => h _ _ hT
theorem pushT_fold (g : τ → Option υ) (C : List υ → ρ → Prop) (L : List τ) : ∀ s r, s.length + L.length ≤ 1000000 → C (s ++ L.filterMap g) r → foldT (pushT g) C L s r := by
  induction L with
  | nil => intro s r _ h; show C s r; simpa using h
  | cons t L ih =>
    intro s r hb h
    simp only [List.length_cons] at hb
    show pushT g s t _ r
    unfold pushT
    cases hg : g t with
    | some v =>
      refine ⟨by omega, ih _ _ (by simp; omega) ?_⟩
      rw [List.filterMap_cons, hg] at h
      simpa using h
    | none =>
      refine ih _ _ (by omega) ?_
      rw [List.filterMap_cons, hg] at h
      exact h
theorem pushT_some {g : τ → Option υ} {s : List υ} {t : τ} {C : List υ → ρ → Prop} {r : ρ} {v : υ} (h : pushT g s t C r) (e : g t = some v) : s.length < 1000000 ∧ C (s ++ [v]) r := by unfold pushT at h; rw [e] at h; exact h
end Go.Proofs.YteaagaekdkolnaaGreatDoor.Com

namespace Go.Proofs.YteaagaekdkolnaaGreatDoor.Pure
open Go.RowKit Go.Proofs.YteaagaekdkolnaaGreatDoor.P Go.Proofs.YteaagaekdkolnaaGreatDoorW.PrintWords Go.Proofs.YteaagaekdkolnaaGreatDoorW.PrintLast Go.Proofs.YteaagaekdkolnaaGreatDoor.Com
set_option linter.unusedSimpArgs false
set_option linter.unusedVariables false

/-! ### areas -/
theorem mul_100 (p q : Int) (h1 : -100 ≤ p) (h2 : p ≤ 100) (h3 : -100 ≤ q) (h4 : q ≤ 100) : -10000 ≤ p * q ∧ p * q ≤ 10000 := by
  have a1 := Int.mul_nonneg (show 0 ≤ 100 - p by omega) (show 0 ≤ 100 + q by omega)
  have a2 := Int.mul_nonneg (show 0 ≤ 100 + p by omega) (show 0 ≤ 100 - q by omega)
  have a3 := Int.mul_nonneg (show 0 ≤ 100 - p by omega) (show 0 ≤ 100 - q by omega)
  have a4 := Int.mul_nonneg (show 0 ≤ 100 + p by omega) (show 0 ≤ 100 + q by omega)
  constructor <;> grind
abbrev PL := List S34
def pX (l : PL) (i : Int) : Int := (rd_T34 l i).f0
def pY (l : PL) (i : Int) : Int := (rd_T34 l i).f1
def arL (l : PL) (i j k : Int) : Int := (pX l j - pX l i) * (pY l k - pY l i) - (pY l j - pY l i) * (pX l k - pX l i)
theorem areaL_ar (l : PL) (i j k : Int) (hi : fits50 l i = true) (hj : fits50 l j = true) (hk : fits50 l k = true) : areaL l i j k = arL l i j k := by
  simp only [fits50, Bool.and_eq_true, inB_iff] at hi hj hk
  have m1 := mul_100 (pX l j - pX l i) (pY l k - pY l i) (by unfold pX; omega) (by unfold pX; omega) (by unfold pY; omega) (by unfold pY; omega)
  have m2 := mul_100 (pY l j - pY l i) (pX l k - pX l i) (by unfold pY; omega) (by unfold pY; omega) (by unfold pX; omega) (by unfold pX; omega)
  unfold areaL areaW
  show wrap64 (arL l i j k) = arL l i j k
  unfold arL
  exact w64 (by omega) (by omega)
def sg (l : PL) (i j k : Int) : Int := if 0 < arL l i j k then 1 else -1
structure Pts (l : PL) : Prop where
  b : pointsB l = true
  len : 3 ≤ l.length ∧ l.length ≤ 7
  fit : ∀ i : Int, 0 ≤ i → i < l.length → fits50 l i = true
  nz : ∀ i j k : Int, 0 ≤ i → i < l.length → 0 ≤ j → j < l.length → 0 ≤ k → k < l.length → i ≠ j → j ≠ k → i ≠ k → arL l i j k ≠ 0
theorem arL_s1 (l : PL) (i j k : Int) : arL l j i k = -arL l i j k := by unfold arL; grind
theorem arL_s2 (l : PL) (i j k : Int) : arL l i k j = -arL l i j k := by unfold arL; grind
theorem Pts.of {l : PL} (h : pointsB l = true) : Pts l := by
  obtain ⟨hl, hf, ha⟩ := (pointsB_iff l).1 h
  have asc : ∀ i j k : Int, 0 ≤ i → i < j → j < k → k < l.length → arL l i j k ≠ 0 := fun i j k h0 h1 h2 h3 => by
    rw [← areaL_ar l i j k (hf i h0 (by omega)) (hf j (by omega) (by omega)) (hf k (by omega) h3)]
    exact ha i j k h0 h1 h2 h3
  refine ⟨h, hl, hf, fun i j k hi hi' hj hj' hk hk' hij hjk hik => ?_⟩
  by_cases h1 : i < j
  · by_cases h2 : j < k
    · exact asc i j k hi h1 h2 hk'
    · have e := arL_s2 l i j k
      by_cases h3 : i < k
      · have := asc i k j hi h3 (by omega) hj'; omega
      · have := asc k i j hk (by omega) h1 hj'; have e2 := arL_s1 l i k j; omega
  · have e := arL_s1 l i j k
    by_cases h2 : i < k
    · have := asc j i k hj (by omega) h2 hk'; omega
    · have e2 := arL_s2 l j i k
      by_cases h3 : j < k
      · have := asc j k i hj h3 (by omega) hi'; omega
      · have := asc k j i hk (by omega) (by omega) hi'; have e3 := arL_s1 l j k i; omega
theorem Pts.chi {l : PL} (h : Pts l) : Chi (l.length : Int) (sg l) := by
  refine ⟨by have := h.len; omega, ?_, ?_, fun i j k _ _ _ _ _ _ _ _ _ => by unfold sg; split <;> simp⟩
  · intro i j k hi hi' hj hj' hk hk' hij hjk hik
    have := h.nz i j k hi hi' hj hj' hk hk' hij hjk hik
    have e := arL_s1 l i j k
    unfold sg
    by_cases z : 0 < arL l i j k
    · rw [if_pos z, if_neg (by omega)]
    · rw [if_neg z, if_pos (by omega)]; rfl
  · intro i j k hi hi' hj hj' hk hk' hij hjk hik
    have := h.nz i j k hi hi' hj hj' hk hk' hij hjk hik
    have e := arL_s2 l i j k
    unfold sg
    by_cases z : 0 < arL l i j k
    · rw [if_pos z, if_neg (by omega)]
    · rw [if_neg z, if_pos (by omega)]; rfl
/-! ### the text -/
def sgC (X : Int → Int → Int → Int) (t : Int × Int × Int) : Int := if X t.1 t.2.1 t.2.2 > 0 then 43 else 45
def sgText (n : Nat) (X : Int → Int → Int → Int) : ByteArray := strOfNums ((trips n).map (sgC X))
theorem trips_small (n : Nat) (h : n ≤ 7) : (trips n).length ≤ 35 := by
  have z : n = 0 ∨ n = 1 ∨ n = 2 ∨ n = 3 ∨ n = 4 ∨ n = 5 ∨ n = 6 ∨ n = 7 := by omega
  rcases z with rfl | rfl | rfl | rfl | rfl | rfl | rfl | rfl <;> decide +kernel
theorem str_push (s : List Int) (v : Int) : strOfNums (s ++ [v]) = strOfNums s ++ strOfNums [v] := by
  unfold strOfNums
  rw [ByteArray.mk_append_mk]
  simp
theorem spec_SignsOf_ev (l : PL) (h : Pts l) : Ev (fun k => spec_SignsOf.f k l) ((l.length : Int), sgText l.length (sg l), true) := by
  have hl := h.len
  refine Ev.bind (by have := spec_ArePoints_ev l (by omega); rw [h.b] at this; exact this) (Ev.iteT rfl ?_)
  have hlen := trips_small l.length (by omega)
  refine tripLoopT (σ := List Int) (l0 := fun q s i => spec_SignsOf.l0 q l i (l.length : Int) (strOfNums s)) (l1 := fun q s i j => spec_SignsOf.l1 q l i j (l.length : Int) (strOfNums s)) (l2 := fun q s i j k => spec_SignsOf.l2 q l i j k (l.length : Int) (strOfNums s)) l.length (pushT_mono fun t => some (sgC (sg l) t)) (C := fun s r => r = ((l.length : Int), strOfNums s, true)) ?_ ?_ ?_ ?_ ?_ ?_ [] _ (pushT_fold _ _ _ [] _ (by simp; omega) ?_)
  · intro s i j k hi hij hjk hk r hT
    obtain ⟨hs, hT⟩ := pushT_some hT rfl
    refine Ev.step (f := fun q => spec_SignsOf.l2 q l i j (k + 1) (l.length : Int) (strOfNums (s ++ [sgC (sg l) (i, j, k)]))) (fun q => ?_) hT
    simp only [spec_SignsOf.l2]
    have hb : spec_l3Byte.f (areaL l i j k) = some (strOfNums [sgC (sg l) (i, j, k)]) := by
      rw [areaL_ar l i j k (h.fit i hi (by omega)) (h.fit j (by omega) (by omega)) (h.fit k (by omega) hk)]
      unfold spec_l3Byte.f sgC sg
      by_cases z : 0 < arL l i j k
      · rw [if_pos z, if_pos z]; rfl
      · rw [if_neg z, if_neg z]; rfl
    rw [if_pos (by omega), if_pos hi, if_pos (by omega), if_pos (by omega), if_pos (by omega), if_pos (by omega), l2Area_L]
    simp only [Option.bind_some, hb]
    rw [if_pos (by rw [strOfNums_size, strOfNums_size]; simp; omega), w64 (by omega) (by omega), str_push]
  · intro s i j hi hij hj r hC
    refine Ev.step (f := fun q => spec_SignsOf.l1 q l i (j + 1) (l.length : Int) (strOfNums s)) (fun q => ?_) hC
    simp only [spec_SignsOf.l2]
    rw [if_neg (by omega), w64 (by omega) (by omega)]
  · intro s i j hi hij hj r hC
    refine Ev.step (f := fun q => spec_SignsOf.l2 q l i j (j + 1) (l.length : Int) (strOfNums s)) (fun q => ?_) hC
    simp only [spec_SignsOf.l1]
    rw [if_pos (by omega), w64 (by omega) (by omega)]
  · intro s i hi hi' r hC
    refine Ev.step (f := fun q => spec_SignsOf.l0 q l (i + 1) (l.length : Int) (strOfNums s)) (fun q => ?_) hC
    simp only [spec_SignsOf.l1]
    rw [if_neg (by omega), w64 (by omega) (by omega)]
  · intro s i hi hi' r hC
    refine Ev.step (f := fun q => spec_SignsOf.l1 q l i (i + 1) (l.length : Int) (strOfNums s)) (fun q => ?_) hC
    simp only [spec_SignsOf.l0]
    rw [if_pos (by omega), w64 (by omega) (by omega)]
  · intro s r hC
    subst hC
    refine Ev.step (f := fun q => some ((l.length : Int), strOfNums s, true)) (fun q => ?_) (Ev.now _)
    simp only [spec_SignsOf.l0]
    rw [if_neg (by omega)]
  · show _ = ((l.length : Int), strOfNums ([] ++ List.filterMap (some ∘ sgC (sg l)) (trips l.length)), true)
    rw [List.filterMap_eq_map, List.nil_append]
    rfl
/-! ### the program's side -/
theorem turnP_sg (l : PL) (h : Pts l) (t : S59) (h0 : 0 ≤ t.f0) (h1 : t.f0 < t.f1) (h2 : t.f1 < t.f2) (h3 : t.f2 < l.length) : turnP l t = some (sg l t.f0 t.f1 t.f2) := by
  have f0 := h.fit t.f0 h0 (by omega)
  have f1 := h.fit t.f1 (by omega) (by omega)
  have f2 := h.fit t.f2 (by omega) (by omega)
  unfold turnP
  rw [TurnOf_in l t.f0 t.f1 t.f2 f0 f1 f2, areaL_ar l _ _ _ f0 f1 f2]
  have := h.nz t.f0 t.f1 t.f2 h0 (by omega) (by omega) (by omega) (by omega) h3 (by omega) (by omega) (by omega)
  unfold sgn sg
  by_cases z : 0 < arL l t.f0 t.f1 t.f2
  · rw [if_pos z, if_pos z]
  · rw [if_neg z, if_neg z, if_pos (by omega)]
theorem chiList_asc {n : Nat} (hn : 3 ≤ n ∧ n ≤ 7) {t : S59} (ht : t ∈ chiList (n : Int)) : 0 ≤ t.f0 ∧ t.f0 < t.f1 ∧ t.f1 < t.f2 ∧ t.f2 < n := by
  rw [chiList_trips n hn] at ht
  obtain ⟨⟨a, b, c⟩, hm, rfl⟩ := List.mem_map.1 ht
  exact trips_mem.1 hm
theorem foldl_congr_mem {α β : Type} {f g : β → α → β} (L : List α) : ∀ b, (∀ b, ∀ a ∈ L, f b a = g b a) → L.foldl f b = L.foldl g b := by
  induction L with
  | nil => intro b _; rfl
  | cons a L ih =>
    intro b h
    rw [List.foldl_cons, List.foldl_cons, h b a (List.mem_cons_self ..)]
    exact ih _ fun b a ha => h b a (List.mem_cons_of_mem _ ha)
/-- The table of the points' signs. -/
def tabX (n : Nat) (X : Int → Int → Int → Int) : Nat → Int := (chiList (n : Int)).foldl (setX X) fun _ => 0
theorem turnTab_X (l : PL) (h : Pts l) : turnTab l (chiList (l.length : Int)) = tabX l.length (sg l) := by
  unfold turnTab tabX
  refine foldl_congr_mem _ _ fun T t ht => ?_
  obtain ⟨h0, h1, h2, h3⟩ := chiList_asc h.len ht
  unfold turnStep setX
  rw [turnP_sg l h t h0 h1 h2 h3]
  rfl
theorem impl_SignsOf_ev (l : PL) (h : Pts l) : Ev (fun k => impl_SignsOf.f k l) ((l.length : Int), sgText l.length (sg l), true) := by
  have hl := h.len
  refine Ev.bind (by have := impl_ArePoints_ev l (by omega); rw [h.b] at this; exact this) (Ev.iteT rfl (Ev.const ?_))
  rw [if_pos ⟨by omega, fun t ht => by obtain ⟨h0, h1, h2, h3⟩ := chiList_asc hl ht; rw [turnP_sg l h t h0 h1 h2 h3]; rfl⟩, turnTab_X l h]
  have e : (chiList (l.length : Int)).map (sgnB (tabX l.length (sg l))) = (trips l.length).map (sgC (sg l)) := by
    conv => lhs; arg 2; rw [chiList_trips _ hl]
    rw [List.map_map]
    refine List.map_congr_left fun t ht => ?_
    obtain ⟨a, b, c⟩ := t
    obtain ⟨h0, h1, h2, h3⟩ := trips_mem.1 ht
    show (if tabX l.length (sg l) (tix a b c) > 0 then (43 : Int) else 45) = if sg l a b c > 0 then 43 else 45
    have := table_at hl h.chi (fun _ => 0) a b c ⟨h0, by omega⟩ ⟨by omega, by omega⟩ ⟨by omega, h3⟩ (by omega) (by omega) (by omega)
    rw [show tabX l.length (sg l) (tix a b c) = sg l a b c from this]
  rw [e]
  rfl
theorem zip_fold {α β : Type} (g : β → α × Nat → β) (f : β → α → β) (L : List α) : ∀ (m : Nat) (b : β), (∀ (b : β) (i : Nat) (h : i < L.length), g b (L[i], m + i) = f b L[i]) → (L.zipIdx m).foldl g b = L.foldl f b := by
  induction L with
  | nil => intro m b _; rfl
  | cons a L ih =>
    intro m b h
    rw [List.zipIdx_cons, List.foldl_cons, List.foldl_cons, show g b (a, m) = f b a from h b 0 (by simp)]
    refine ih (m + 1) _ fun b i hi => ?_
    have := h b (i + 1) (by simp; omega)
    simpa [Nat.add_assoc, Nat.add_comm 1 i] using this
theorem tabOf_X {n : Nat} (hn : 3 ≤ n ∧ n ≤ 7) {X : Int → Int → Int → Int} (hX : Chi (n : Int) X) : tabOf (sgText n X) (chiList (n : Int)) = tabX n X := by
  unfold tabOf tabX
  refine zip_fold _ _ _ 0 _ fun T i hi => ?_
  have hm := chiList_asc hn (List.getElem_mem hi)
  unfold tabStep setX
  simp only [Nat.zero_add]
  have hlen : (chiList (n : Int)).length = (trips n).length := by rw [chiList_trips n hn, List.length_map]
  have hb : bt (sgText n X) (i : Int) = if X (chiList (n : Int))[i].f0 (chiList (n : Int))[i].f1 (chiList (n : Int))[i].f2 > 0 then 43 else 45 := by
    unfold sgText
    rw [strOfNums_bt _ (fun x hx => by obtain ⟨t, _, rfl⟩ := List.mem_map.1 hx; unfold sgC; split <;> omega) _ (by omega) (by rw [List.length_map]; omega)]
    have hi' : i < (trips n).length := by omega
    have e : (chiList (n : Int))[i] = mk3 (trips n)[i] := by simp only [chiList_trips n hn, List.getElem_map]
    rw [e, List.getD_eq_getElem?_getD, Int.toNat_natCast, List.getElem?_eq_getElem (by rw [List.length_map]; omega)]
    simp only [Option.getD_some, List.getElem_map]
    rfl
  rw [hb]
  have hp := hX.pm (chiList (n : Int))[i].f0 (chiList (n : Int))[i].f1 (chiList (n : Int))[i].f2 hm.1 (by omega) (by omega) (by omega) (by omega) hm.2.2.2 (by omega) (by omega) (by omega)
  rcases hp with e | e <;> rw [e] <;> rfl
theorem impl_tableOf_eq {n : Nat} (hn : 3 ≤ n ∧ n ≤ 7) {X : Int → Int → Int → Int} (hX : Chi (n : Int) X) : impl_tableOf.f (n : Int) (sgText n X) = some ((n : Int), tabX n X) := by
  unfold impl_tableOf.f
  rw [if_pos ⟨by omega, by rw [chiList_trips n hn]; simp [sgText, strOfNums_size]⟩, tabOf_X hn hX]
end Go.Proofs.YteaagaekdkolnaaGreatDoor.Pure

namespace Go.Proofs.YteaagaekdkolnaaGreatDoor.Pure
open Go.RowKit Go.Proofs.YteaagaekdkolnaaGreatDoor.P Go.Proofs.YteaagaekdkolnaaGreatDoorW.PrintWords Go.Proofs.YteaagaekdkolnaaGreatDoorW.PrintLast Go.Proofs.YteaagaekdkolnaaGreatDoor.Com
set_option linter.unusedSimpArgs false
set_option linter.unusedVariables false
set_option maxRecDepth 100000

def orM (L : List Int) : Int := L.foldl (fun m x => Go.bits .or .i64 m (shl .i64 1 x)) 0
def addM (L : List Int) : Int := L.foldl (fun m x => wrap64 (m + shl .i64 1 (IntKind.u64.wrap x))) 0
def i7 (a : Fin 7) : Int := ((a.1 : Nat) : Int)
theorem i7_of {a : Int} (h : in7 a) : ∃ f : Fin 7, a = i7 f := ⟨⟨a.toNat, by unfold in7 at h; omega⟩, by unfold in7 at h; show a = ((a.toNat : Nat) : Int); omega⟩
theorem single_0 : impl_single.f 9 (orM []) = some (-1) := by decide +kernel
theorem single_1 : ∀ a : Fin 7, impl_single.f 9 (orM [i7 a]) = some (i7 a) := by decide +kernel
theorem single_2 : ∀ a b : Fin 7, a ≠ b → impl_single.f 9 (orM [i7 a, i7 b]) = some (-1) := by decide +kernel
theorem single_3 : ∀ a b c : Fin 7, a ≠ b → a ≠ c → b ≠ c → impl_single.f 9 (orM [i7 a, i7 b, i7 c]) = some (-1) := by decide +kernel
theorem single_4 : ∀ a b c d : Fin 7, a ≠ b → a ≠ c → b ≠ c → a ≠ d → b ≠ d → c ≠ d → impl_single.f 9 (orM [i7 a, i7 b, i7 c, i7 d]) = some (-1) := by decide +kernel
theorem only_0 : spec_l5Only.f 9 (addM []) = some (-1) := by decide +kernel
theorem only_1 : ∀ a : Fin 7, spec_l5Only.f 9 (addM [i7 a]) = some (i7 a) := by decide +kernel
theorem only_2 : ∀ a b : Fin 7, a ≠ b → spec_l5Only.f 9 (addM [i7 a, i7 b]) = some (-1) := by decide +kernel
theorem only_3 : ∀ a b c : Fin 7, a ≠ b → a ≠ c → b ≠ c → spec_l5Only.f 9 (addM [i7 a, i7 b, i7 c]) = some (-1) := by decide +kernel
theorem only_4 : ∀ a b c d : Fin 7, a ≠ b → a ≠ c → b ≠ c → a ≠ d → b ≠ d → c ≠ d → spec_l5Only.f 9 (addM [i7 a, i7 b, i7 c, i7 d]) = some (-1) := by decide +kernel
def fullM (n : Nat) : Int := 2 ^ n - 1
theorem full_impl : ∀ n : Fin 8, impl_fullSet.f (n.1 : Int) = some (fullM n.1) := by decide +kernel
theorem full_spec : ∀ n : Fin 8, 0 ≤ IntKind.u64.wrap (n.1 : Int) ∧ wrap64 ((shl .i64 1 (IntKind.u64.wrap (n.1 : Int))) - 1) = fullM n.1 := by decide +kernel
theorem full_bit : ∀ n : Fin 8, ∀ i : Fin 7, i.1 < n.1 → Go.bits .and .i64 (shr .i64 (fullM n.1) (i7 i)) 1 = 1 := by decide +kernel
theorem full_has : ∀ n : Fin 8, ∀ i : Fin 7, i.1 < n.1 → spec_l6Has.f (fullM n.1) (i7 i) = some true := by decide +kernel
def m3 (a b c : Int) : Int := Go.bits .or .i64 (Go.bits .or .i64 (shl .i64 1 a) (shl .i64 1 b)) (shl .i64 1 c)
theorem full_less : ∀ n : Fin 8, ∀ p a b c : Fin 7, a.1 < b.1 → b.1 < c.1 → c.1 < n.1 → p.1 < n.1 → (Go.bits .and .i64 (Go.bits .andNot .i64 (fullM n.1) (shl .i64 1 (i7 p))) (m3 (i7 a) (i7 b) (i7 c)) = m3 (i7 a) (i7 b) (i7 c) ↔ p ≠ a ∧ p ≠ b ∧ p ≠ c) := by decide +kernel
/-- The elements that are not marked, as numbers and as a list. -/
def orL : List Bool → Int → Int → Int
  | [], _, m => m
  | b :: bs, i, m => orL bs (i + 1) (if b = true then m else Go.bits .or .i64 m (shl .i64 1 i))
def addL : List Bool → Int → Int → Int
  | [], _, m => m
  | b :: bs, i, m => addL bs (i + 1) (if b = true then m else wrap64 (m + shl .i64 1 (IntKind.u64.wrap i)))
def offL : List Bool → Int → List Int
  | [], _ => []
  | b :: bs, i => if b = true then offL bs (i + 1) else i :: offL bs (i + 1)
theorem elements_7 : ∀ a b c d e f g : Bool, impl_elementsOf.f 70 (orL [a, b, c, d, e, f, g] 0 0) = some (offL [a, b, c, d, e, f, g] 0) := by decide +kernel
theorem has_7 : ∀ a b c d e f g : Bool, ∀ k : Fin 7, spec_l6Has.f (addL [a, b, c, d, e, f, g] 0 0) (i7 k) = some (!([a, b, c, d, e, f, g].getD k.1 true)) := by decide +kernel
def pad (L : List Bool) : List Bool := L ++ List.replicate (7 - L.length) true
theorem orL_true (m : Nat) : ∀ (i x : Int), orL (List.replicate m true) i x = x := by
  induction m with
  | zero => intro i x; rfl
  | succ m ih => intro i x; exact ih _ _
theorem addL_true (m : Nat) : ∀ (i x : Int), addL (List.replicate m true) i x = x := by
  induction m with
  | zero => intro i x; rfl
  | succ m ih => intro i x; exact ih _ _
theorem offL_true (m : Nat) : ∀ (i : Int), offL (List.replicate m true) i = [] := by
  induction m with
  | zero => intro i; rfl
  | succ m ih => intro i; exact ih _
theorem orL_pad (L : List Bool) (m : Nat) : ∀ (i x : Int), orL (L ++ List.replicate m true) i x = orL L i x := by
  induction L with
  | nil => intro i x; exact orL_true m i x
  | cons b L ih => intro i x; exact ih _ _
theorem addL_pad (L : List Bool) (m : Nat) : ∀ (i x : Int), addL (L ++ List.replicate m true) i x = addL L i x := by
  induction L with
  | nil => intro i x; exact addL_true m i x
  | cons b L ih => intro i x; exact ih _ _
theorem offL_pad (L : List Bool) (m : Nat) : ∀ (i : Int), offL (L ++ List.replicate m true) i = offL L i := by
  induction L with
  | nil => intro i; exact offL_true m i
  | cons b L ih =>
    intro i
    show (if b = true then offL (L ++ List.replicate m true) (i + 1) else i :: offL (L ++ List.replicate m true) (i + 1)) = if b = true then offL L (i + 1) else i :: offL L (i + 1)
    rw [ih]
theorem seven {α : Type} (L : List α) (h : L.length = 7) : ∃ a b c d e f g, L = [a, b, c, d, e, f, g] := by
  match L, h with
  | [a, b, c, d, e, f, g], _ => exact ⟨a, b, c, d, e, f, g, rfl⟩
theorem elements_of (L : List Bool) (h : L.length ≤ 7) : impl_elementsOf.f 70 (orL L 0 0) = some (offL L 0) := by
  obtain ⟨a, b, c, d, e, f, g, hp⟩ := seven (pad L) (by unfold pad; simp; omega)
  have h1 := orL_pad L (7 - L.length) 0 0
  have h2 := offL_pad L (7 - L.length) 0
  rw [← h1, ← h2, show L ++ List.replicate (7 - L.length) true = _ from hp]
  exact elements_7 a b c d e f g
theorem has_of (L : List Bool) (h : L.length ≤ 7) (k : Int) (h0 : 0 ≤ k) (hk : k < L.length) : spec_l6Has.f (addL L 0 0) k = some (!(L.getD k.toNat true)) := by
  obtain ⟨a, b, c, d, e, f, g, hp⟩ := seven (pad L) (by unfold pad; simp; omega)
  have h1 := addL_pad L (7 - L.length) 0 0
  obtain ⟨q, rfl⟩ := i7_of (a := k) ⟨h0, by omega⟩
  have e2 : L.getD (i7 q).toNat true = (pad L).getD q.1 true := by
    unfold pad
    rw [List.getD_eq_getElem?_getD, List.getD_eq_getElem?_getD, List.getElem?_append_left (by show q.1 < L.length; unfold i7 at hk; omega)]
    rfl
  rw [← h1, show L ++ List.replicate (7 - L.length) true = _ from hp, e2, hp]
  exact has_7 a b c d e f g q
/-! ### the circuit of four elements -/
def T3 (u v w : Bool) : ByteArray := strOfNums [43, if u = true then 43 else 45, if v = true then 43 else 45, if w = true then 43 else 45]
theorem mem_sg {n : Int} {X : Int → Int → Int → Int} (hX : Chi n X) {i j k : Int} (hi : 0 ≤ i ∧ i < n) (hj : 0 ≤ j ∧ j < n) (hk : 0 ≤ k ∧ k < n) (hij : i ≠ j) (hjk : j ≠ k) (hik : i ≠ k) : X i j k = 1 ∨ X i j k = -1 := hX.pm i j k hi.1 hi.2 hj.1 hj.2 hk.1 hk.2 hij hjk hik
theorem circ_list : ∀ s1 s2 s3 s4 : Int, (s1 = 1 ∨ s1 = -1) → (s2 = 1 ∨ s2 = -1) → (s3 = 1 ∨ s3 = -1) → (s4 = 1 ∨ s4 = -1) → (if s1 > 0 then strOfNums (([s1, wrap64 (-s2), s3, wrap64 (-s4)] : List Int).map circI) else oppText (strOfNums (([s1, wrap64 (-s2), s3, wrap64 (-s4)] : List Int).map circI))) = T3 (decide (s1 ≠ s2)) (decide (s1 = s3)) (decide (s1 ≠ s4)) := by
  rintro s1 s2 s3 s4 (rfl | rfl) (rfl | rfl) (rfl | rfl) (rfl | rfl) <;> kernel_rfl
theorem circT_eq {n : Nat} (hn : 3 ≤ n ∧ n ≤ 7) {X : Int → Int → Int → Int} (hX : Chi (n : Int) X) {p a b c : Int} (hp : 0 ≤ p ∧ p < (n : Int)) (ha : 0 ≤ a ∧ a < (n : Int)) (hb : 0 ≤ b ∧ b < (n : Int)) (hc : 0 ≤ c ∧ c < (n : Int)) (hpa : p ≠ a) (hpb : p ≠ b) (hpc : p ≠ c) (hab : a ≠ b) (hac : a ≠ c) (hbc : b ≠ c) :
    circT (tabX n X) p a b c = T3 (decide (X a b c ≠ X p b c)) (decide (X a b c = X p a c)) (decide (X a b c ≠ X p a b)) := by
  have e1 : tabX n X (tix a b c) = X a b c := table_at hn hX _ a b c ha hb hc hab hbc hac
  have e2 : tabX n X (tix p b c) = X p b c := table_at hn hX _ p b c hp hb hc hpb hbc hpc
  have e3 : tabX n X (tix p a c) = X p a c := table_at hn hX _ p a c hp ha hc hpa hac hpc
  have e4 : tabX n X (tix p a b) = X p a b := table_at hn hX _ p a b hp ha hb hpa hab hpb
  unfold circT circL
  rw [e1, e2, e3, e4]
  exact circ_list _ _ _ _ (mem_sg hX ha hb hc hab hbc hac) (mem_sg hX hp hb hc hpb hbc hpc) (mem_sg hX hp ha hc hpa hac hpc) (mem_sg hX hp ha hb hpa hab hpb)
end Go.Proofs.YteaagaekdkolnaaGreatDoor.Pure

namespace Go.Proofs.YteaagaekdkolnaaGreatDoor.Pure
open Go.RowKit Go.Proofs.YteaagaekdkolnaaGreatDoor.P Go.Proofs.YteaagaekdkolnaaGreatDoorW.PrintWords Go.Proofs.YteaagaekdkolnaaGreatDoorW.PrintLast Go.Proofs.YteaagaekdkolnaaGreatDoor.Com
set_option linter.unusedSimpArgs false
set_option linter.unusedVariables false
set_option maxRecDepth 100000

/-- p stands alone against a, b, c. -/
def alone (X : Int → Int → Int → Int) (p a b c : Int) : Bool := decide (X a b c = X p b c) && decide (X a b c ≠ X p a c) && decide (X a b c = X p a b)
/-- The four elements by their signs. -/
def plusL (u v w : Bool) (p a b c : Int) : List Int := p :: ((if u = true then [a] else []) ++ (if v = true then [b] else []) ++ (if w = true then [c] else []))
def minusL (u v w : Bool) (p a b c : Int) : List Int := (if u = true then [] else [a]) ++ (if v = true then [] else [b]) ++ (if w = true then [] else [c])
theorem T3_size (u v w : Bool) : (T3 u v w).size = 4 := by unfold T3; rw [strOfNums_size]; rfl
theorem T3_0 : ∀ u v w : Bool, bt (T3 u v w) 0 = 43 := by decide +kernel
theorem T3_1 : ∀ u v w : Bool, (bt (T3 u v w) 1 = 43 ↔ u = true) := by decide +kernel
theorem T3_2 : ∀ u v w : Bool, (bt (T3 u v w) 2 = 43 ↔ v = true) := by decide +kernel
theorem T3_3 : ∀ u v w : Bool, (bt (T3 u v w) 3 = 43 ↔ w = true) := by decide +kernel
theorem split_T3 (u v w : Bool) (p a b c : Int) (hp : 0 ≤ p) (ha : 0 ≤ a) (hb : 0 ≤ b) (hc : 0 ≤ c) (n : Int) (T : Nat → Int) : impl_chi_split.l0 6 (T3 u v w) 0 0 [p, a, b, c] 4 0 n T = some (orM (plusL u v w p a b c), orM (minusL u v w p a b c), n, T) := by
  have w0 : wrap64 1 = 1 := by decide +kernel
  have w1 : wrap64 2 = 2 := by decide +kernel
  have w2 : wrap64 3 = 3 := by decide +kernel
  have w3 : wrap64 4 = 4 := by decide +kernel
  have r0 : rd [p, a, b, c] 0 = p := rfl
  have r1 : rd [p, a, b, c] 1 = a := rfl
  have r2 : rd [p, a, b, c] 2 = b := rfl
  have r3 : rd [p, a, b, c] 3 = c := rfl
  cases u <;> cases v <;> cases w <;> simp [impl_chi_split.l0, T3_size, T3_0, T3_1, T3_2, T3_3, w0, w1, w2, w3, r0, r1, r2, r3, hp, ha, hb, hc, plusL, minusL, orM]
theorem fin_ne {a b : Fin 7} (h : i7 a ≠ i7 b) : a ≠ b := fun e => h (by rw [e])
theorem inside_T3 (u v w : Bool) {p a b c : Int} (hp : in7 p) (ha : in7 a) (hb : in7 b) (hc : in7 c) (hpa : p ≠ a) (hpb : p ≠ b) (hpc : p ≠ c) (hab : a ≠ b) (hac : a ≠ c) (hbc : b ≠ c) :
    ∃ x y, impl_single.f 9 (orM (plusL u v w p a b c)) = some x ∧ impl_single.f 9 (orM (minusL u v w p a b c)) = some y ∧ (mx x y == p) = (!u && !v && !w) := by
  obtain ⟨p, rfl⟩ := i7_of hp
  obtain ⟨a, rfl⟩ := i7_of ha
  obtain ⟨b, rfl⟩ := i7_of hb
  obtain ⟨c, rfl⟩ := i7_of hc
  have pa := fin_ne hpa
  have pb := fin_ne hpb
  have pc := fin_ne hpc
  have ab := fin_ne hab
  have ac := fin_ne hac
  have bc := fin_ne hbc
  have p0 : 0 ≤ i7 p := by unfold i7; omega
  have a0 : 0 ≤ i7 a := by unfold i7; omega
  have b0 : 0 ≤ i7 b := by unfold i7; omega
  have c0 : 0 ≤ i7 c := by unfold i7; omega
  cases u <;> cases v <;> cases w
  · exact ⟨_, _, single_1 p, single_3 a b c ab ac bc, by simp [mx]; omega⟩
  · exact ⟨_, _, single_2 p c pc, single_2 a b ab, by simp [mx]; omega⟩
  · exact ⟨_, _, single_2 p b pb, single_2 a c ac, by simp [mx]; omega⟩
  · exact ⟨_, _, single_3 p b c pb pc bc, single_1 a, by simp [mx]; omega⟩
  · exact ⟨_, _, single_2 p a pa, single_2 b c bc, by simp [mx]; omega⟩
  · exact ⟨_, _, single_3 p a c pa pc ac, single_1 b, by simp [mx]; omega⟩
  · exact ⟨_, _, single_3 p a b pa pb ab, single_1 c, by simp [mx]; omega⟩
  · exact ⟨_, _, single_4 p a b c pa pb ab pc ac bc, single_0, by simp [mx]; omega⟩
theorem alone_eq (X : Int → Int → Int → Int) (p a b c : Int) : (!(decide (X a b c ≠ X p b c)) && !(decide (X a b c = X p a c)) && !(decide (X a b c ≠ X p a b))) = alone X p a b c := by
  unfold alone
  by_cases h1 : X a b c = X p b c <;> by_cases h2 : X a b c = X p a c <;> by_cases h3 : X a b c = X p a b <;> simp [h1, h2, h3]
theorem isInside_ev {n : Nat} (hn : 3 ≤ n ∧ n ≤ 7) {X : Int → Int → Int → Int} (hX : Chi (n : Int) X) {p a b c : Int} (hp : 0 ≤ p ∧ p < (n : Int)) (ha : 0 ≤ a ∧ a < (n : Int)) (hb : 0 ≤ b ∧ b < (n : Int)) (hc : 0 ≤ c ∧ c < (n : Int)) (hpa : p ≠ a) (hpb : p ≠ b) (hpc : p ≠ c) (hab : a ≠ b) (hac : a ≠ c) (hbc : b ≠ c) :
    Ev (fun k => impl_chi_isInside.f k (n : Int) (tabX n X) p a b c) (alone X p a b c, (n : Int), tabX n X) := by
  have ip : in7 p := ⟨by omega, by omega⟩
  have ia : in7 a := ⟨by omega, by omega⟩
  have ib : in7 b := ⟨by omega, by omega⟩
  have ic : in7 c := ⟨by omega, by omega⟩
  obtain ⟨x, y, hx, hy, hxy⟩ := inside_T3 (decide (X a b c ≠ X p b c)) (decide (X a b c = X p a c)) (decide (X a b c ≠ X p a b)) ip ia ib ic hpa hpb hpc hab hac hbc
  rw [alone_eq] at hxy
  have hsp : impl_chi_split.f 6 (n : Int) (tabX n X) p a b c = some (orM (plusL (decide (X a b c ≠ X p b c)) (decide (X a b c = X p a c)) (decide (X a b c ≠ X p a b)) p a b c), orM (minusL (decide (X a b c ≠ X p b c)) (decide (X a b c = X p a c)) (decide (X a b c ≠ X p a b)) p a b c), (n : Int), tabX n X) := by
    unfold impl_chi_split.f impl_chi_circuit.f
    rw [if_pos ⟨ip, ia, ib, ic⟩, circT_eq hn hX hp ha hb hc hpa hpb hpc hab hac hbc]
    exact split_T3 _ _ _ p a b c hp.1 ha.1 hb.1 hc.1 _ _
  have h9 : impl_chi_isInside.f 9 (n : Int) (tabX n X) p a b c = some (alone X p a b c, (n : Int), tabX n X) := by
    unfold impl_chi_isInside.f impl_chi_inner.f
    have up := impl_chi_split.mono (n : Int) (tabX n X) p a b c
    rw [up 8 _ (up 7 _ (up 6 _ hsp))]
    simp only [Option.bind_some]
    rw [hx, hy]
    simp only [Option.bind_some, hxy]
  exact Ev.of (fun k => impl_chi_isInside.mono _ _ _ _ _ _ k) h9
end Go.Proofs.YteaagaekdkolnaaGreatDoor.Pure

namespace Go.Proofs.YteaagaekdkolnaaGreatDoor.Pure
open Go.RowKit Go.Proofs.YteaagaekdkolnaaGreatDoor.P Go.Proofs.YteaagaekdkolnaaGreatDoorW.PrintWords Go.Proofs.YteaagaekdkolnaaGreatDoorW.PrintLast Go.Proofs.YteaagaekdkolnaaGreatDoor.Com
set_option linter.unusedSimpArgs false
set_option linter.unusedVariables false
set_option maxRecDepth 100000

def inAt (X : Int → Int → Int → Int) (p : Int) (t : Int × Int × Int) : Bool := (decide (p ≠ t.1) && decide (p ≠ t.2.1) && decide (p ≠ t.2.2)) && alone X p t.1 t.2.1 t.2.2
/-- p lies in a triangle of the others. -/
def inH (n : Nat) (X : Int → Int → Int → Int) (p : Int) : Bool := (trips n).any (inAt X p)
theorem foldX_any {τ ρ : Type} (p : τ → Bool) (r1 r0 : ρ) (L : List τ) : foldX (σ := Unit) (fun _ t => if p t = true then .inr r1 else .inl ()) (fun _ => r0) L () = if L.any p = true then r1 else r0 := by
  induction L with
  | nil => rfl
  | cons t L ih =>
    unfold foldX
    by_cases h : p t = true
    · simp [h]
    · simp only [h, List.any_cons, Bool.false_or, if_false, Bool.false_eq_true]; exact ih
theorem less_iff {n : Nat} (hn : 3 ≤ n ∧ n ≤ 7) {p a b c : Int} (hp : 0 ≤ p ∧ p < (n : Int)) (ha : 0 ≤ a) (hab : a < b) (hbc : b < c) (hc : c < (n : Int)) : (Go.bits .and .i64 (Go.bits .andNot .i64 (fullM n) (shl .i64 1 p)) (m3 a b c) = m3 a b c) ↔ (p ≠ a ∧ p ≠ b ∧ p ≠ c) := by
  obtain ⟨p, rfl⟩ := i7_of (a := p) ⟨hp.1, by omega⟩
  obtain ⟨a, rfl⟩ := i7_of (a := a) ⟨ha, by omega⟩
  obtain ⟨b, rfl⟩ := i7_of (a := b) ⟨by omega, by omega⟩
  obtain ⟨c, rfl⟩ := i7_of (a := c) ⟨by omega, by omega⟩
  have h := full_less ⟨n, by omega⟩ p a b c (by unfold i7 at hab; omega) (by unfold i7 at hbc; omega) (by unfold i7 at hc; show c.1 < n; omega) (by have := hp.2; unfold i7 at this; show p.1 < n; omega)
  rw [show fullM n = fullM (⟨n, by omega⟩ : Fin 8).1 from rfl, h]
  have e : ∀ x y : Fin 7, x ≠ y ↔ i7 x ≠ i7 y := fun x y => ⟨fun h hh => h (by apply Fin.ext; unfold i7 at hh; omega), fun h hh => h (by rw [hh])⟩
  rw [e, e, e]
theorem inHull_ev {n : Nat} (hn : 3 ≤ n ∧ n ≤ 7) {X : Int → Int → Int → Int} (hX : Chi (n : Int) X) {p : Int} (hp : 0 ≤ p ∧ p < (n : Int)) :
    Ev (fun k => impl_chi_inHull.f k (n : Int) (tabX n X) (Go.bits .andNot .i64 (fullM n) (shl .i64 1 p)) p) (inH n X p, (n : Int), tabX n X) := by
  refine Ev.bind (triples_eq n (by omega)) ?_
  have hlen := trips_small n (by omega)
  have hlen' : (((trips n).map mk3).length : Int) = ((trips n).length : Int) := by rw [List.length_map]
  have hf := foldX_any (inAt X p) (true, (n : Int), tabX n X) (false, (n : Int), tabX n X) (trips n)
  have hv : (if (trips n).any (inAt X p) = true then (true, (n : Int), tabX n X) else (false, (n : Int), tabX n X)) = (inH n X p, (n : Int), tabX n X) := by
    unfold inH
    cases (trips n).any (inAt X p) <;> rfl
  rw [hv] at hf
  rw [← hf]
  refine Ev.congr (fun k => ?_) (foldLoop (σ := Unit) (l0 := fun k _ i => impl_chi_inHull.l0 k (Go.bits .andNot .i64 (fullM n) (shl .i64 1 p)) p ((trips n).map mk3) ((trips n).length : Int) i (n : Int) (tabX n X)) (trips n) (0, 0, 0) _ _ ?_ ?_ ())
  · show _ = impl_chi_inHull.l0 k _ p _ _ 0 _ _
    rw [hlen']
  · intro _ i h0 h1 hm r hT
    obtain ⟨t, ht⟩ : ∃ t, (trips n).getD i.toNat (0, 0, 0) = t := ⟨_, rfl⟩
    obtain ⟨a, b, c⟩ := t
    rw [ht] at hm hT
    obtain ⟨ha, hab, hbc, hc⟩ := trips_mem.1 hm
    have hr : rd_T59 ((trips n).map mk3) i = mk3 (a, b, c) := by
      unfold rd_T59
      rw [getD_map mk3 _ _ (0, 0, 0) _ (by omega), ht]
    refine Ev.step (f := fun q => if p ≠ a ∧ p ≠ b ∧ p ≠ c then ((impl_chi_isInside.f q (n : Int) (tabX n X) p a b c).bind fun bt106 => (if bt106.1 = true then (some (true, bt106.2.1, bt106.2.2)) else (impl_chi_inHull.l0 q (Go.bits .andNot .i64 (fullM n) (shl .i64 1 p)) p ((trips n).map mk3) ((trips n).length : Int) (i + 1) bt106.2.1 bt106.2.2))) else impl_chi_inHull.l0 q (Go.bits .andNot .i64 (fullM n) (shl .i64 1 p)) p ((trips n).map mk3) ((trips n).length : Int) (i + 1) (n : Int) (tabX n X)) (fun q => ?_) ?_
    · simp only [impl_chi_inHull.l0]
      rw [hr, if_pos h1, if_pos h0, if_pos (by rw [hlen']; exact h1), if_pos (show 0 ≤ (mk3 (a, b, c)).f0 from ha), if_pos (show 0 ≤ (mk3 (a, b, c)).f1 by show 0 ≤ b; omega), if_pos (show 0 ≤ (mk3 (a, b, c)).f2 by show 0 ≤ c; omega), w64 (by omega) (by omega)]
      show (if Go.bits .and .i64 (Go.bits .andNot .i64 (fullM n) (shl .i64 1 p)) (m3 a b c) = m3 a b c then _ else _) = _
      simp only [less_iff hn hp ha hab hbc hc]
      rfl
    · by_cases hd : p ≠ a ∧ p ≠ b ∧ p ≠ c
      · refine Ev.iteT hd (Ev.bind (isInside_ev hn hX hp ⟨ha, by omega⟩ ⟨by omega, by omega⟩ ⟨by omega, hc⟩ hd.1 hd.2.1 hd.2.2 (by omega) (by omega) (by omega)) ?_)
        have e : inAt X p (a, b, c) = alone X p a b c := by unfold inAt; simp [hd.1, hd.2.1, hd.2.2]
        cases hal : alone X p a b c with
        | true =>
          have : r = (true, (n : Int), tabX n X) := stepT_inr hT (by rw [e, hal]; rfl)
          subst this
          exact Ev.iteT rfl (Ev.now _)
        | false =>
          refine Ev.iteF (by simp) ?_
          have hC := stepT_inl (s' := ()) hT (by rw [e, hal]; rfl)
          exact hC
      · refine Ev.iteF hd ?_
        have hne : ¬ inAt X p (a, b, c) = true := by
          unfold inAt
          simp only [Bool.and_eq_true, decide_eq_true_eq]
          rintro ⟨⟨⟨x, y⟩, z⟩, _⟩
          exact hd ⟨x, y, z⟩
        have hC := stepT_inl (s' := ()) hT (if_neg hne)
        exact hC
  · intro _
    refine Ev.step (f := fun q => some (false, (n : Int), tabX n X)) (fun q => ?_) (Ev.now _)
    simp only [impl_chi_inHull.l0]
    rw [if_neg (by omega)]
theorem orL_ints (f : Int → Bool) (d : Nat) : ∀ (a m : Int), (ints a d).foldl (fun out i => if f i = true then out else Go.bits .or .i64 out (shl .i64 1 i)) m = orL ((ints a d).map f) a m := by
  induction d with
  | zero => intro a m; rfl
  | succ d ih => intro a m; exact ih (a + 1) _
theorem extremeIn_ev {n : Nat} (hn : 3 ≤ n ∧ n ≤ 7) {X : Int → Int → Int → Int} (hX : Chi (n : Int) X) :
    Ev (fun k => impl_chi_extremeIn.f k (n : Int) (tabX n X) (fullM n)) (orL ((ints 0 n).map (inH n X)) 0 0, (n : Int), tabX n X) := by
  rw [← orL_ints]
  have hf := foldX_foldl (fun out i => if inH n X i = true then out else Go.bits .or .i64 out (shl .i64 1 i)) (fun s : Int => (s, (n : Int), tabX n X)) (ints 0 n) 0
  rw [← hf]
  refine rangeLoop (σ := Int) (l := fun k s i => impl_chi_extremeIn.l0 k (fullM n) s i (n : Int) (tabX n X)) (n : Int) (stepT_mono _) (C := fun s r => r = (s, (n : Int), tabX n X)) 0 ?_ ?_ n 0 (by omega) (by omega) 0 _ (foldX_T (fun s t => Sum.inl (if inH n X t = true then s else Go.bits .or .i64 s (shl .i64 1 t))) (fun s : Int => (s, (n : Int), tabX n X)) (C := fun s r => r = (s, (n : Int), tabX n X)) (fun _ => rfl) (ints 0 n) 0)
  · intro s i h0 h1 r hT
    have hbit : Go.bits .and .i64 (shr .i64 (fullM n) i) 1 = 1 := by
      obtain ⟨q, rfl⟩ := i7_of (a := i) ⟨h0, by omega⟩
      exact full_bit ⟨n, by omega⟩ q (by show q.1 < n; unfold i7 at h1; omega)
    have hC := stepT_inl hT rfl
    refine Ev.step (f := fun q => (impl_chi_inHull.f q (n : Int) (tabX n X) (Go.bits .andNot .i64 (fullM n) (shl .i64 1 i)) i).bind fun bt101 => (if bt101.1 = true then (impl_chi_extremeIn.l0 q (fullM n) s (i + 1) bt101.2.1 bt101.2.2) else (impl_chi_extremeIn.l0 q (fullM n) (Go.bits .or .i64 s (shl .i64 1 i)) (i + 1) bt101.2.1 bt101.2.2))) (fun q => ?_) (Ev.bind (inHull_ev hn hX ⟨h0, h1⟩) ?_)
    · simp only [impl_chi_extremeIn.l0]
      rw [if_pos h1, if_pos h0, if_pos hbit, w64 (by omega) (by omega)]
    · cases hi : inH n X i with
      | true => rw [hi] at hC; exact Ev.iteT rfl hC
      | false => rw [hi] at hC; exact Ev.iteF (by simp) hC
  · intro s r hC
    subst hC
    refine Ev.step (f := fun q => some (s, (n : Int), tabX n X)) (fun q => ?_) (Ev.now _)
    simp only [impl_chi_extremeIn.l0]
    rw [if_neg (by omega)]
end Go.Proofs.YteaagaekdkolnaaGreatDoor.Pure

namespace Go.Proofs.YteaagaekdkolnaaGreatDoor.Pure
open Go.RowKit Go.Proofs.YteaagaekdkolnaaGreatDoor.P Go.Proofs.YteaagaekdkolnaaGreatDoorW.PrintWords Go.Proofs.YteaagaekdkolnaaGreatDoorW.PrintLast Go.Proofs.YteaagaekdkolnaaGreatDoor.Com
set_option linter.unusedSimpArgs false
set_option linter.unusedVariables false
set_option maxRecDepth 100000

def ixOk (n : Nat) (t : Int × Int × Int) : Bool := match spec_l3Index.f 20 (n : Int) t.1 t.2.1 t.2.2 with
  | some x => decide (0 ≤ x) && (decide (x.toNat < (trips n).length) && ((trips n).getD x.toNat (0, 0, 0) == t))
  | none => false
theorem ix_all : ∀ n : Fin 8, (trips n.1).all (ixOk n.1) = true := by decide +kernel
theorem ix_of {n : Nat} (hn : n ≤ 7) {a b c : Int} (h0 : 0 ≤ a) (h1 : a < b) (h2 : b < c) (h3 : c < (n : Int)) : ∃ x : Int, spec_l3Index.f 20 (n : Int) a b c = some x ∧ 0 ≤ x ∧ x.toNat < (trips n).length ∧ (trips n).getD x.toNat (0, 0, 0) = (a, b, c) := by
  have h := List.all_eq_true.1 (ix_all ⟨n, by omega⟩) (a, b, c) (trips_mem.2 ⟨h0, h1, h2, h3⟩)
  unfold ixOk at h
  simp only at h
  cases e : spec_l3Index.f 20 (n : Int) a b c with
  | none => rw [e] at h; cases h
  | some x =>
    rw [e] at h
    simp only [Bool.and_eq_true, decide_eq_true_eq, beq_iff_eq] at h
    exact ⟨x, rfl, h.1, h.2.1, h.2.2⟩
theorem sgText_size (n : Nat) (X : Int → Int → Int → Int) : (sgText n X).size = (trips n).length := by unfold sgText; rw [strOfNums_size, List.length_map]
theorem sgText_at {n : Nat} (X : Int → Int → Int → Int) {x : Int} (h0 : 0 ≤ x) (h1 : x.toNat < (trips n).length) : bt (sgText n X) x = sgC X ((trips n).getD x.toNat (0, 0, 0)) := by
  unfold sgText
  rw [strOfNums_bt _ (fun x hx => by obtain ⟨t, _, rfl⟩ := List.mem_map.1 hx; unfold sgC; split <;> omega) _ h0 (by rw [List.length_map]; omega), getD_map (sgC X) _ _ (0, 0, 0) _ h1]
theorem ix_ev {n : Nat} (hn : n ≤ 7) {a b c x : Int} (h : spec_l3Index.f 20 (n : Int) a b c = some x) : Ev (fun q => spec_l3Index.f q (n : Int) a b c) x := Ev.of (fun k => spec_l3Index.mono _ _ _ _ k) h
theorem l3At_j1 {n : Nat} (hn : 3 ≤ n ∧ n ≤ 7) {X : Int → Int → Int → Int} (hX : Chi (n : Int) X) (a b c s : Int) (hs : s = 1 ∨ s = -1) (ha : 0 ≤ a) (hb : 0 ≤ b) (hab : a ≠ b) (hac : a < c) (hbc : b < c) (hc : c < (n : Int)) : Ev (fun q => spec_l3At.j1 q a b c s (n : Int) (sgText n X)) (s * X a b c) := by
  have pm := hX.pm a b c ha (by omega) hb (by omega) (by omega) hc hab (by omega) (by omega)
  have e1 := hX.s1 a b c ha (by omega) hb (by omega) (by omega) hc hab (by omega) (by omega)
  by_cases h : a > b
  · obtain ⟨x, hx, h0, h1, h2⟩ := ix_of (n := n) (by omega) hb h (by omega) hc
    have hb' := sgText_at X h0 h1
    rw [h2] at hb'
    refine Ev.step (f := fun q => (spec_l3Index.f q (n : Int) b a c).bind fun t102 => (if 0 ≤ t102 then (if t102 < ((sgText n X).size : Int) then (if (bt (sgText n X) t102) = 45 then (some (wrap64 (-(wrap64 (-s))))) else (some (wrap64 (-s)))) else (none)) else (none))) (fun q => by simp only [spec_l3At.j1]; rw [if_pos h]) (Ev.bind (ix_ev (by omega) hx) (Ev.const ?_))
    rw [if_pos h0, if_pos (by rw [sgText_size]; omega), hb']
    unfold sgC
    simp only
    rcases pm with e | e <;> rcases hs with rfl | rfl <;> rw [e1, e] <;> decide +kernel
  · obtain ⟨x, hx, h0, h1, h2⟩ := ix_of (n := n) (by omega) ha (show a < b by omega) hbc hc
    have hb' := sgText_at X h0 h1
    rw [h2] at hb'
    refine Ev.step (f := fun q => (spec_l3Index.f q (n : Int) a b c).bind fun t103 => (if 0 ≤ t103 then (if t103 < ((sgText n X).size : Int) then (if (bt (sgText n X) t103) = 45 then (some (wrap64 (-s))) else (some s)) else (none)) else (none))) (fun q => by simp only [spec_l3At.j1]; rw [if_neg h]) (Ev.bind (ix_ev (by omega) hx) (Ev.const ?_))
    rw [if_pos h0, if_pos (by rw [sgText_size]; omega), hb']
    unfold sgC
    simp only
    rcases pm with e | e <;> rcases hs with rfl | rfl <;> rw [e] <;> decide +kernel
theorem l3At_j0 {n : Nat} (hn : 3 ≤ n ∧ n ≤ 7) {X : Int → Int → Int → Int} (hX : Chi (n : Int) X) (a b c s : Int) (hs : s = 1 ∨ s = -1) (ha : 0 ≤ a) (hab : a < b) (hb : b < (n : Int)) (hc0 : 0 ≤ c) (hc : c < (n : Int)) (hac : a ≠ c) (hbc : b ≠ c) : Ev (fun q => spec_l3At.j0 q a b c s (n : Int) (sgText n X)) (s * X a b c) := by
  by_cases h : b > c
  · have e2 := hX.s2 a b c ha (by omega) (by omega) hb hc0 hc (by omega) hbc hac
    have hw : wrap64 (-s) = -s := by rcases hs with rfl | rfl <;> decide +kernel
    have := l3At_j1 hn hX a c b (-s) (by omega) ha hc0 hac hab (by omega) hb
    rw [e2, Int.neg_mul_neg] at this
    exact Ev.step (f := fun q => spec_l3At.j1 q a c b (-s) (n : Int) (sgText n X)) (fun q => by simp only [spec_l3At.j0]; rw [if_pos h, hw]) this
  · exact Ev.step (f := fun q => spec_l3At.j1 q a b c s (n : Int) (sgText n X)) (fun q => by simp only [spec_l3At.j0]; rw [if_neg h]) (l3At_j1 hn hX a b c s hs ha (by omega) (by omega) (by omega) (by omega) hc)
theorem l3At_ev {n : Nat} (hn : 3 ≤ n ∧ n ≤ 7) {X : Int → Int → Int → Int} (hX : Chi (n : Int) X) {i j k : Int} (hi : 0 ≤ i ∧ i < (n : Int)) (hj : 0 ≤ j ∧ j < (n : Int)) (hk : 0 ≤ k ∧ k < (n : Int)) (hij : i ≠ j) (hjk : j ≠ k) (hik : i ≠ k) :
    Ev (fun q => spec_l3At.f q (n : Int) (sgText n X) i j k) (X i j k) := by
  by_cases h : i > j
  · have e1 := hX.s1 i j k hi.1 hi.2 hj.1 hj.2 hk.1 hk.2 hij hjk hik
    have := l3At_j0 hn hX j i k (-1) (Or.inr rfl) hj.1 h hi.2 hk.1 hk.2 hjk hik
    rw [e1] at this
    refine Ev.congr (fun q => ?_) (show Ev (fun q => spec_l3At.j0 q j i k (-1) (n : Int) (sgText n X)) (X i j k) by simpa using this)
    unfold spec_l3At.f
    rw [if_pos h]
  · have := l3At_j0 hn hX i j k 1 (Or.inl rfl) hi.1 (by omega) hj.2 hk.1 hk.2 hik hjk
    rw [Int.one_mul] at this
    refine Ev.congr (fun q => ?_) this
    unfold spec_l3At.f
    rw [if_neg h]
/-! ### circuits -/
theorem circ_bytes : ∀ s1 s2 s3 s4 : Int, (s1 = 1 ∨ s1 = -1) → (s2 = 1 ∨ s2 = -1) → (s3 = 1 ∨ s3 = -1) → (s4 = 1 ∨ s4 = -1) →
    ((spec_l3Byte.f (wrap64 ((wrap64 (-s1)) * s2))).bind fun t104 => (if 1 + t104.size ≤ 9223372036854775807 then ((spec_l3Byte.f (wrap64 (s1 * s3))).bind fun t106 => (if ((⟨#[43]⟩ : ByteArray) ++ t104).size + t106.size ≤ 9223372036854775807 then ((spec_l3Byte.f (wrap64 ((wrap64 (-s1)) * s4))).bind fun t108 => (if (((⟨#[43]⟩ : ByteArray) ++ t104) ++ t106).size + t108.size ≤ 9223372036854775807 then (some ((((⟨#[43]⟩ : ByteArray) ++ t104) ++ t106) ++ t108)) else (none))) else (none))) else (none))) = some (T3 (decide (s1 ≠ s2)) (decide (s1 = s3)) (decide (s1 ≠ s4))) := by
  rintro s1 s2 s3 s4 (rfl | rfl) (rfl | rfl) (rfl | rfl) (rfl | rfl) <;> kernel_rfl
theorem l4Circuit_ev {n : Nat} (hn : 3 ≤ n ∧ n ≤ 7) {X : Int → Int → Int → Int} (hX : Chi (n : Int) X) {p a b c : Int} (hp : 0 ≤ p ∧ p < (n : Int)) (ha : 0 ≤ a ∧ a < (n : Int)) (hb : 0 ≤ b ∧ b < (n : Int)) (hc : 0 ≤ c ∧ c < (n : Int)) (hpa : p ≠ a) (hpb : p ≠ b) (hpc : p ≠ c) (hab : a ≠ b) (hac : a ≠ c) (hbc : b ≠ c) :
    Ev (fun k => spec_l4Circuit.f k (n : Int) (sgText n X) p a b c) (T3 (decide (X a b c ≠ X p b c)) (decide (X a b c = X p a c)) (decide (X a b c ≠ X p a b))) := by
  obtain ⟨k1, h1⟩ := l3At_ev hn hX ha hb hc hab hbc hac
  obtain ⟨k2, h2⟩ := l3At_ev hn hX hp hb hc hpb hbc hpc
  obtain ⟨k3, h3⟩ := l3At_ev hn hX hp ha hc hpa hac hpc
  obtain ⟨k4, h4⟩ := l3At_ev hn hX hp ha hb hpa hab hpb
  refine ⟨k1 + k2 + k3 + k4, fun k hk => ?_⟩
  show spec_l4Circuit.f k _ _ _ _ _ _ = _
  have g1 : spec_l3At.f k (n : Int) (sgText n X) a b c = some _ := h1 k (by omega)
  have g2 : spec_l3At.f k (n : Int) (sgText n X) p b c = some _ := h2 k (by omega)
  have g3 : spec_l3At.f k (n : Int) (sgText n X) p a c = some _ := h3 k (by omega)
  have g4 : spec_l3At.f k (n : Int) (sgText n X) p a b = some _ := h4 k (by omega)
  unfold spec_l4Circuit.f
  rw [g1, g2, g3, g4]
  simp only [Option.bind_some]
  exact circ_bytes _ _ _ _ (mem_sg hX ha hb hc hab hbc hac) (mem_sg hX hp hb hc hpb hbc hpc) (mem_sg hX hp ha hc hpa hac hpc) (mem_sg hX hp ha hb hpa hab hpb)
theorem u7 {a : Int} (h : in7 a) : 0 ≤ IntKind.u64.wrap a := by
  obtain ⟨q, rfl⟩ := i7_of h
  revert q
  decide +kernel
theorem split5_T3 (u v w : Bool) (p a b c : Int) (hp : in7 p) (ha : in7 a) (hb : in7 b) (hc : in7 c) : spec_l5Split.l0 6 [p, a, b, c] (T3 u v w) 0 0 0 = some (addM (plusL u v w p a b c), addM (minusL u v w p a b c)) := by
  have w0 : wrap64 1 = 1 := by decide +kernel
  have w1 : wrap64 2 = 2 := by decide +kernel
  have w2 : wrap64 3 = 3 := by decide +kernel
  have w3 : wrap64 4 = 4 := by decide +kernel
  have r0 : rd [p, a, b, c] 0 = p := rfl
  have r1 : rd [p, a, b, c] 1 = a := rfl
  have r2 : rd [p, a, b, c] 2 = b := rfl
  have r3 : rd [p, a, b, c] 3 = c := rfl
  have hp := u7 hp
  have ha := u7 ha
  have hb := u7 hb
  have hc := u7 hc
  cases u <;> cases v <;> cases w <;> simp [spec_l5Split.l0, T3_size, T3_0, T3_1, T3_2, T3_3, w0, w1, w2, w3, r0, r1, r2, r3, hp, ha, hb, hc, plusL, minusL, addM]
theorem max_one {x : Int} (h : 0 ≤ x) : spec_l1Max.f x (-1) = some x := by unfold spec_l1Max.f; first | rw [if_pos (by omega)] | (simp; omega)
theorem max_two_ {x : Int} (h : 0 ≤ x) : spec_l1Max.f (-1) x = some x := by unfold spec_l1Max.f; first | rw [if_neg (by omega)] | (simp; omega)
theorem max_none : spec_l1Max.f (-1) (-1) = some (-1) := by decide +kernel
theorem inner_T3 (u v w : Bool) {p a b c : Int} (hp : in7 p) (ha : in7 a) (hb : in7 b) (hc : in7 c) (hpa : p ≠ a) (hpb : p ≠ b) (hpc : p ≠ c) (hab : a ≠ b) (hac : a ≠ c) (hbc : b ≠ c) :
    ∃ x y z, spec_l5Only.f 9 (addM (plusL u v w p a b c)) = some x ∧ spec_l5Only.f 9 (addM (minusL u v w p a b c)) = some y ∧ spec_l1Max.f x y = some z ∧ decide (z = p) = (!u && !v && !w) := by
  obtain ⟨p, rfl⟩ := i7_of hp
  obtain ⟨a, rfl⟩ := i7_of ha
  obtain ⟨b, rfl⟩ := i7_of hb
  obtain ⟨c, rfl⟩ := i7_of hc
  have pa := fin_ne hpa
  have pb := fin_ne hpb
  have pc := fin_ne hpc
  have ab := fin_ne hab
  have ac := fin_ne hac
  have bc := fin_ne hbc
  have p0 : 0 ≤ i7 p := by unfold i7; omega
  have a0 : 0 ≤ i7 a := by unfold i7; omega
  have b0 : 0 ≤ i7 b := by unfold i7; omega
  have c0 : 0 ≤ i7 c := by unfold i7; omega
  cases u <;> cases v <;> cases w
  · exact ⟨_, _, _, only_1 p, only_3 a b c ab ac bc, max_one p0, by simp⟩
  · exact ⟨_, _, _, only_2 p c pc, only_2 a b ab, max_none, by simp; omega⟩
  · exact ⟨_, _, _, only_2 p b pb, only_2 a c ac, max_none, by simp; omega⟩
  · exact ⟨_, _, _, only_3 p b c pb pc bc, only_1 a, max_two_ a0, by simp; omega⟩
  · exact ⟨_, _, _, only_2 p a pa, only_2 b c bc, max_none, by simp; omega⟩
  · exact ⟨_, _, _, only_3 p a c pa pc ac, only_1 b, max_two_ b0, by simp; omega⟩
  · exact ⟨_, _, _, only_3 p a b pa pb ab, only_1 c, max_two_ c0, by simp; omega⟩
  · exact ⟨_, _, _, only_4 p a b c pa pb ab pc ac bc, only_0, max_none, by simp; omega⟩
theorem l5Inner_ev {n : Nat} (hn : 3 ≤ n ∧ n ≤ 7) {X : Int → Int → Int → Int} (hX : Chi (n : Int) X) {p a b c : Int} (hp : 0 ≤ p ∧ p < (n : Int)) (ha : 0 ≤ a ∧ a < (n : Int)) (hb : 0 ≤ b ∧ b < (n : Int)) (hc : 0 ≤ c ∧ c < (n : Int)) (hpa : p ≠ a) (hpb : p ≠ b) (hpc : p ≠ c) (hab : a ≠ b) (hac : a ≠ c) (hbc : b ≠ c) :
    ∃ z, Ev (fun k => spec_l5Inner.f k (n : Int) (sgText n X) [p, a, b, c]) z ∧ (z = p ↔ alone X p a b c = true) := by
  have ip : in7 p := ⟨by omega, by omega⟩
  have ia : in7 a := ⟨by omega, by omega⟩
  have ib : in7 b := ⟨by omega, by omega⟩
  have ic : in7 c := ⟨by omega, by omega⟩
  obtain ⟨x, y, z, hx, hy, hm, hz⟩ := inner_T3 (decide (X a b c ≠ X p b c)) (decide (X a b c = X p a c)) (decide (X a b c ≠ X p a b)) ip ia ib ic hpa hpb hpc hab hac hbc
  rw [alone_eq] at hz
  refine ⟨z, ?_, by rw [← hz]; simp⟩
  have hsp : Ev (fun k => spec_l5Split.f k (n : Int) (sgText n X) [p, a, b, c]) (addM (plusL (decide (X a b c ≠ X p b c)) (decide (X a b c = X p a c)) (decide (X a b c ≠ X p a b)) p a b c), addM (minusL (decide (X a b c ≠ X p b c)) (decide (X a b c = X p a c)) (decide (X a b c ≠ X p a b)) p a b c)) := by
    refine Ev.iteT (show 0 < (([p, a, b, c] : List Int).length : Int) by show (0 : Int) < 4; omega) (Ev.iteT (show 1 < (([p, a, b, c] : List Int).length : Int) by show (1 : Int) < 4; omega) (Ev.iteT (show 2 < (([p, a, b, c] : List Int).length : Int) by show (2 : Int) < 4; omega) (Ev.iteT (show 3 < (([p, a, b, c] : List Int).length : Int) by show (3 : Int) < 4; omega) ?_)))
    refine Ev.bind (l4Circuit_ev hn hX hp ha hb hc hpa hpb hpc hab hac hbc) ?_
    exact Ev.of (fun k => (spec_l5Split.mono_l k) _ _ _ _ _) (split5_T3 _ _ _ p a b c ip ia ib ic)
  refine Ev.bind hsp (Ev.bind (Ev.of (fun k => spec_l5Only.mono _ k) hx) (Ev.bind (Ev.of (fun k => spec_l5Only.mono _ k) hy) (Ev.const ?_)))
  rw [hm]
  rfl
end Go.Proofs.YteaagaekdkolnaaGreatDoor.Pure

namespace Go.Proofs.YteaagaekdkolnaaGreatDoor.Pure
open Go.RowKit Go.Proofs.YteaagaekdkolnaaGreatDoor.P Go.Proofs.YteaagaekdkolnaaGreatDoorW.PrintWords Go.Proofs.YteaagaekdkolnaaGreatDoorW.PrintLast Go.Proofs.YteaagaekdkolnaaGreatDoor.Com
set_option linter.unusedSimpArgs false
set_option linter.unusedVariables false
set_option maxRecDepth 100000

theorem has_full {n : Nat} (hn : 3 ≤ n ∧ n ≤ 7) {i : Int} (h0 : 0 ≤ i) (h1 : i < (n : Int)) : spec_l6Has.f (fullM n) i = some true := by
  obtain ⟨q, rfl⟩ := i7_of (a := i) ⟨h0, by omega⟩
  exact full_has ⟨n, by omega⟩ q (by show q.1 < n; unfold i7 at h1; omega)
theorem foldX_any1 {τ : Type} (p : τ → Bool) (L : List τ) : foldX (σ := Unit) (fun _ t => if p t = true then .inr true else .inl ()) (fun _ => false) L () = L.any p := by
  rw [foldX_any p true false L]
  cases L.any p <;> rfl
theorem l6In_ev {n : Nat} (hn : 3 ≤ n ∧ n ≤ 7) {X : Int → Int → Int → Int} (hX : Chi (n : Int) X) {p : Int} (hp : 0 ≤ p ∧ p < (n : Int)) :
    Ev (fun k => spec_l6In.f k (n : Int) (sgText n X) (fullM n) p) (inH n X p) := by
  unfold inH
  rw [← foldX_any1]
  refine tripLoop (σ := Unit) (l0 := fun q _ i => spec_l6In.l0 q (fullM n) p i (n : Int) (sgText n X)) (l1 := fun q _ i j => spec_l6In.l1 q (fullM n) p i j (n : Int) (sgText n X)) (l2 := fun q _ i j k => spec_l6In.l2 q (fullM n) p i j k (n : Int) (sgText n X)) n _ _ ?_ ?_ ?_ ?_ ?_ ?_ ()
  · intro _ a b c ha hab hbc hc r hT
    by_cases hd : p ≠ a ∧ p ≠ b ∧ p ≠ c
    · obtain ⟨z, hz, hzp⟩ := l5Inner_ev hn hX hp ⟨ha, by omega⟩ (show 0 ≤ b ∧ b < (n : Int) by omega) (show 0 ≤ c ∧ c < (n : Int) by omega) hd.1 hd.2.1 hd.2.2 (by omega) (by omega) (by omega)
      have e : inAt X p (a, b, c) = alone X p a b c := by unfold inAt; simp [hd.1, hd.2.1, hd.2.2]
      refine Ev.step (f := fun q => (spec_l5Inner.f q (n : Int) (sgText n X) [p, a, b, c]).bind fun t108 => (if t108 = p then (some true) else (spec_l6In.l2 q (fullM n) p a b (c + 1) (n : Int) (sgText n X)))) (fun q => ?_) (Ev.bind hz ?_)
      · simp only [spec_l6In.l2]
        rw [if_pos hc, if_neg hd.1, if_neg hd.2.1, if_neg hd.2.2, has_full hn ha (by omega), has_full hn (show 0 ≤ b by omega) (by omega), has_full hn (show 0 ≤ c by omega) hc, w64 (by omega) (by omega)]
        rfl
      · cases hal : alone X p a b c with
        | true =>
          have : r = true := stepT_inr hT (by rw [e, hal]; rfl)
          subst this
          exact Ev.iteT (hzp.2 hal) (Ev.now _)
        | false =>
          have hC := stepT_inl (s' := ()) hT (by rw [e, hal]; rfl)
          exact Ev.iteF (fun h => by rw [hzp.1 h] at hal; cases hal) hC
    · have hne : ¬ inAt X p (a, b, c) = true := by
        unfold inAt
        simp only [Bool.and_eq_true, decide_eq_true_eq]
        rintro ⟨⟨⟨x, y⟩, z⟩, _⟩
        exact hd ⟨x, y, z⟩
      have hC := stepT_inl (s' := ()) hT (if_neg hne)
      refine Ev.step (f := fun q => spec_l6In.l2 q (fullM n) p a b (c + 1) (n : Int) (sgText n X)) (fun q => ?_) hC
      simp only [spec_l6In.l2]
      rw [if_pos hc, w64 (by omega) (by omega)]
      by_cases h1 : p = a
      · rw [if_pos h1]
      · rw [if_neg h1]
        by_cases h2 : p = b
        · rw [if_pos h2]
        · rw [if_neg h2, if_pos (by omega)]
  · intro _ i j hi hij hj r hC
    refine Ev.step (f := fun q => spec_l6In.l1 q (fullM n) p i (j + 1) (n : Int) (sgText n X)) (fun q => ?_) hC
    simp only [spec_l6In.l2]
    rw [if_neg (by omega), w64 (by omega) (by omega)]
  · intro _ i j hi hij hj r hC
    refine Ev.step (f := fun q => spec_l6In.l2 q (fullM n) p i j (j + 1) (n : Int) (sgText n X)) (fun q => ?_) hC
    simp only [spec_l6In.l1]
    rw [if_pos (by omega), w64 (by omega) (by omega)]
  · intro _ i hi hi' r hC
    refine Ev.step (f := fun q => spec_l6In.l0 q (fullM n) p (i + 1) (n : Int) (sgText n X)) (fun q => ?_) hC
    simp only [spec_l6In.l1]
    rw [if_neg (by omega), w64 (by omega) (by omega)]
  · intro _ i hi hi' r hC
    refine Ev.step (f := fun q => spec_l6In.l1 q (fullM n) p i (i + 1) (n : Int) (sgText n X)) (fun q => ?_) hC
    simp only [spec_l6In.l0]
    rw [if_pos (by omega), w64 (by omega) (by omega)]
  · intro _
    refine Ev.step (f := fun q => some false) (fun q => ?_) (Ev.now _)
    simp only [spec_l6In.l0]
    rw [if_neg (by omega)]
theorem addL_ints (f : Int → Bool) (d : Nat) : ∀ (a m : Int), (ints a d).foldl (fun out i => if f i = true then out else wrap64 (out + shl .i64 1 (IntKind.u64.wrap i))) m = addL ((ints a d).map f) a m := by
  induction d with
  | zero => intro a m; rfl
  | succ d ih => intro a m; exact ih (a + 1) _
theorem l6Extreme_ev {n : Nat} (hn : 3 ≤ n ∧ n ≤ 7) {X : Int → Int → Int → Int} (hX : Chi (n : Int) X) :
    Ev (fun k => spec_l6Extreme.f k (n : Int) (sgText n X) (fullM n)) (addL ((ints 0 n).map (inH n X)) 0 0) := by
  rw [← addL_ints]
  have hf := foldX_foldl (fun out i => if inH n X i = true then out else wrap64 (out + shl .i64 1 (IntKind.u64.wrap i))) (fun s : Int => s) (ints 0 n) 0
  rw [← hf]
  refine rangeLoop (σ := Int) (l := fun k s i => spec_l6Extreme.l0 k (fullM n) s i (n : Int) (sgText n X)) (n : Int) (stepT_mono _) (C := fun s r => r = s) 0 ?_ ?_ n 0 (by omega) (by omega) 0 _ (foldX_T (fun s t => Sum.inl (if inH n X t = true then s else wrap64 (s + shl .i64 1 (IntKind.u64.wrap t)))) (fun s : Int => s) (C := fun s r => r = s) (fun _ => rfl) (ints 0 n) 0)
  · intro s i h0 h1 r hT
    have hC := stepT_inl hT rfl
    refine Ev.step (f := fun q => (spec_l6In.f q (n : Int) (sgText n X) (fullM n) i).bind fun t103 => (if t103 = true then (spec_l6Extreme.l0 q (fullM n) s (i + 1) (n : Int) (sgText n X)) else (if 0 ≤ (IntKind.u64.wrap i) then (spec_l6Extreme.l0 q (fullM n) (wrap64 (s + (shl .i64 1 (IntKind.u64.wrap i)))) (i + 1) (n : Int) (sgText n X)) else (none)))) (fun q => ?_) (Ev.bind (l6In_ev hn hX ⟨h0, h1⟩) ?_)
    · simp only [spec_l6Extreme.l0]
      rw [if_pos h1, has_full hn h0 h1, w64 (by omega) (by omega)]
      rfl
    · cases hi : inH n X i with
      | true => rw [hi] at hC; exact Ev.iteT rfl hC
      | false => rw [hi] at hC; exact Ev.iteF (by simp) (Ev.iteT (u7 ⟨h0, by omega⟩) hC)
  · intro s r hC
    rw [show r = s from hC]
    refine Ev.step (f := fun q => some s) (fun q => ?_) (Ev.now _)
    simp only [spec_l6Extreme.l0]
    rw [if_neg (by omega)]
/-! ### signs that come from points -/
structure Ord (n : Nat) (X : Int → Int → Int → Int) : Prop where
  chi : Chi (n : Int) X
  br : ∀ a b c d e : Int, (0 ≤ a ∧ a < (n : Int)) → (0 ≤ b ∧ b < (n : Int)) → (0 ≤ c ∧ c < (n : Int)) → (0 ≤ d ∧ d < (n : Int)) → (0 ≤ e ∧ e < (n : Int)) → a ≠ b → a ≠ c → a ≠ d → a ≠ e → b ≠ c → b ≠ d → b ≠ e → c ≠ d → c ≠ e → d ≠ e → ¬ (X a b c * X a d e = X a b e * X a c d ∧ X a b e * X a c d = -X a b d * X a c e)
  ac : ∀ p a b c : Int, 0 ≤ p → p < a → a < b → b < c → c < (n : Int) → ¬ (X a b c ≠ X p b c ∧ X a b c = X p a c ∧ X a b c ≠ X p a b)
theorem sg_cases (l : PL) (i j k : Int) (h : arL l i j k ≠ 0) : (sg l i j k = 1 ∧ 0 < arL l i j k) ∨ (sg l i j k = -1 ∧ arL l i j k < 0) := by
  unfold sg
  by_cases z : 0 < arL l i j k
  · exact Or.inl ⟨if_pos z, z⟩
  · exact Or.inr ⟨if_neg z, by omega⟩
theorem plu (l : PL) (a b c d e : Int) : arL l a b c * arL l a d e - arL l a b d * arL l a c e + arL l a b e * arL l a c d = 0 := by unfold arL; grind
theorem sum4 (l : PL) (p a b c : Int) : arL l a b c - arL l p b c + arL l p a c - arL l p a b = 0 := by unfold arL; grind
theorem prod_sg {x y s t : Int} (hx : (s = 1 ∧ 0 < x) ∨ (s = -1 ∧ x < 0)) (hy : (t = 1 ∧ 0 < y) ∨ (t = -1 ∧ y < 0)) : (s * t = 1 ∧ 0 < x * y) ∨ (s * t = -1 ∧ x * y < 0) := by
  rcases hx with ⟨rfl, hx⟩ | ⟨rfl, hx⟩ <;> rcases hy with ⟨rfl, hy⟩ | ⟨rfl, hy⟩
  · exact Or.inl ⟨rfl, Int.mul_pos hx hy⟩
  · exact Or.inr ⟨rfl, Int.mul_neg_of_pos_of_neg hx hy⟩
  · exact Or.inr ⟨rfl, Int.mul_neg_of_neg_of_pos hx hy⟩
  · exact Or.inl ⟨rfl, Int.mul_pos_of_neg_of_neg hx hy⟩
theorem Pts.ord {l : PL} (h : Pts l) : Ord l.length (sg l) := by
  refine ⟨h.chi, ?_, ?_⟩
  · intro a b c d e ha hb hc hd he hab hac had hae hbc hbd hbe hcd hce hde ⟨h1, h2⟩
    have s := fun i j k (hi : 0 ≤ i ∧ i < (l.length : Int)) (hj : 0 ≤ j ∧ j < (l.length : Int)) (hk : 0 ≤ k ∧ k < (l.length : Int)) hij hjk hik => sg_cases l i j k (h.nz i j k hi.1 hi.2 hj.1 hj.2 hk.1 hk.2 hij hjk hik)
    have p1 := prod_sg (s a b c ha hb hc hab hbc hac) (s a d e ha hd he had hde hae)
    have p2 := prod_sg (s a b d ha hb hd hab hbd had) (s a c e ha hc he hac hce hae)
    have p3 := prod_sg (s a b e ha hb he hab hbe hae) (s a c d ha hc hd hac hcd had)
    have e0 := plu l a b c d e
    rw [Int.neg_mul] at h2
    omega
  · intro p a b c hp hpa hab hbc hc ⟨h1, h2, h3⟩
    have s := fun i j k (hi : 0 ≤ i ∧ i < (l.length : Int)) (hj : 0 ≤ j ∧ j < (l.length : Int)) (hk : 0 ≤ k ∧ k < (l.length : Int)) hij hjk hik => sg_cases l i j k (h.nz i j k hi.1 hi.2 hj.1 hj.2 hk.1 hk.2 hij hjk hik)
    have q1 := s a b c (by omega) (by omega) (by omega) (by omega) (by omega) (by omega)
    have q2 := s p b c (by omega) (by omega) (by omega) (by omega) (by omega) (by omega)
    have q3 := s p a c (by omega) (by omega) (by omega) (by omega) (by omega) (by omega)
    have q4 := s p a b (by omega) (by omega) (by omega) (by omega) (by omega) (by omega)
    have e0 := sum4 l p a b c
    omega
end Go.Proofs.YteaagaekdkolnaaGreatDoor.Pure

namespace Go.Proofs.YteaagaekdkolnaaGreatDoor.Pure
open Go.RowKit Go.Proofs.YteaagaekdkolnaaGreatDoor.P Go.Proofs.YteaagaekdkolnaaGreatDoorW.PrintWords Go.Proofs.YteaagaekdkolnaaGreatDoorW.PrintLast Go.Proofs.YteaagaekdkolnaaGreatDoor.Com
set_option linter.unusedSimpArgs false
set_option linter.unusedVariables false
set_option maxRecDepth 100000

/-- A loop that looks and goes on. -/
theorem upLoop {ρ : Type} {l : Nat → Int → Option ρ} (a m : Int) (r : ρ) (hs : ∀ i, a ≤ i → i < m → Ev (fun q => l q (i + 1)) r → Ev (fun q => l q i) r) (d : Nat) : ∀ i, a ≤ i → i + d = m → Ev (fun q => l q m) r → Ev (fun q => l q i) r := by
  induction d with
  | zero => intro i _ hi h; obtain rfl : i = m := by omega
            exact h
  | succ d ih => intro i h0 hi h; exact hs i h0 (by omega) (ih (i + 1) (by omega) (by omega) h)
theorem upLoop' {ρ : Type} {l : Nat → Int → Option ρ} (a m : Int) (r : ρ) (hs : ∀ i, a ≤ i → i < m → Ev (fun q => l q (i + 1)) r → Ev (fun q => l q i) r) (ham : a ≤ m) (h : Ev (fun q => l q m) r) : Ev (fun q => l q a) r := upLoop a m r hs (m - a).toNat a (by omega) (by omega) h
theorem count_n : ∀ n : Fin 8, 3 ≤ n.1 → (((trips n.1).length : Int) != (wrap64 (Int.tdiv (wrap64 ((wrap64 ((n.1 : Int) * (wrap64 ((n.1 : Int) - 1)))) * (wrap64 ((n.1 : Int) - 2)))) 6))) = false := by decide +kernel
theorem AreSigns_ev {n : Nat} (hn : 3 ≤ n ∧ n ≤ 7) (X : Int → Int → Int → Int) : Ev (fun k => spec_AreSigns.f k (n : Int) (sgText n X)) true := by
  have hlen := trips_small n (by omega)
  refine Ev.bind0 (a := true) (by rw [l1In_eq]; simp; omega) (Ev.iteT rfl ?_)
  rw [sgText_size, count_n ⟨n, by omega⟩ hn.1]
  refine Ev.step (f := fun q => spec_AreSigns.l0 q 0 (n : Int) (sgText n X)) (fun q => by simp only [spec_AreSigns.j0]; rw [if_neg (by decide)]) ?_
  refine upLoop' (l := fun q i => spec_AreSigns.l0 q i (n : Int) (sgText n X)) 0 ((trips n).length : Int) true ?_ (by omega) (Ev.step (f := fun _ => some true) (fun q => by simp only [spec_AreSigns.l0]; rw [if_neg (by rw [sgText_size]; omega)]) (Ev.now _))
  intro i h0 h1 hC
  have hb := sgText_at X h0 (show i.toNat < (trips n).length by omega)
  refine Ev.step (f := fun q => spec_AreSigns.l0 q (i + 1) (n : Int) (sgText n X)) (fun q => ?_) hC
  simp only [spec_AreSigns.l0]
  rw [if_pos (by rw [sgText_size]; omega), if_pos h0, hb, w64 (by omega) (by omega)]
  unfold sgC
  split
  · rw [if_pos rfl]
  · rw [if_neg (by decide), if_pos rfl]
def othL (n : Nat) (e : Int) : List Int := (ints 0 n).filter fun i => decide (i ≠ e)
theorem oth_is : ∀ n : Fin 8, ∀ e : Fin 7, e.1 < n.1 → spec_l3Others.f 20 (n.1 : Int) (i7 e) = some (othL n.1 (i7 e)) := by decide +kernel
theorem oth_ok : ∀ n : Fin 8, ∀ e : Fin 7, e.1 < n.1 → (othL n.1 (i7 e)).length ≤ 7 ∧ ∀ i : Fin 7, i.1 < (othL n.1 (i7 e)).length → (0 ≤ rd (othL n.1 (i7 e)) (i7 i) ∧ rd (othL n.1 (i7 e)) (i7 i) < (n.1 : Int)) ∧ i7 e ≠ rd (othL n.1 (i7 e)) (i7 i) ∧ ∀ j : Fin 7, i.1 < j.1 → j.1 < (othL n.1 (i7 e)).length → rd (othL n.1 (i7 e)) (i7 i) ≠ rd (othL n.1 (i7 e)) (i7 j) := by decide +kernel
theorem breaks_ev {n : Nat} (hn : 3 ≤ n ∧ n ≤ 7) {X : Int → Int → Int → Int} (hX : Ord n X) {a b c d e : Int} (ha : 0 ≤ a ∧ a < (n : Int)) (hb : 0 ≤ b ∧ b < (n : Int)) (hc : 0 ≤ c ∧ c < (n : Int)) (hd : 0 ≤ d ∧ d < (n : Int)) (he : 0 ≤ e ∧ e < (n : Int)) (hab : a ≠ b) (hac : a ≠ c) (had : a ≠ d) (hae : a ≠ e) (hbc : b ≠ c) (hbd : b ≠ d) (hbe : b ≠ e) (hcd : c ≠ d) (hce : c ≠ e) (hde : d ≠ e) :
    Ev (fun k => spec_l4Breaks.f k (n : Int) (sgText n X) a b c d e) false := by
  have hC := hX.chi
  obtain ⟨k1, h1⟩ := l3At_ev hn hC ha hb hc hab hbc hac
  obtain ⟨k2, h2⟩ := l3At_ev hn hC ha hd he had hde hae
  obtain ⟨k3, h3⟩ := l3At_ev hn hC ha hb he hab hbe hae
  obtain ⟨k4, h4⟩ := l3At_ev hn hC ha hc hd hac hcd had
  obtain ⟨k5, h5⟩ := l3At_ev hn hC ha hb hd hab hbd had
  obtain ⟨k6, h6⟩ := l3At_ev hn hC ha hc he hac hce hae
  refine ⟨k1 + k2 + k3 + k4 + k5 + k6, fun k hk => ?_⟩
  show spec_l4Breaks.f k _ _ _ _ _ _ _ = _
  have g1 : spec_l3At.f k (n : Int) (sgText n X) a b c = some _ := h1 k (by omega)
  have g2 : spec_l3At.f k (n : Int) (sgText n X) a d e = some _ := h2 k (by omega)
  have g3 : spec_l3At.f k (n : Int) (sgText n X) a b e = some _ := h3 k (by omega)
  have g4 : spec_l3At.f k (n : Int) (sgText n X) a c d = some _ := h4 k (by omega)
  have g5 : spec_l3At.f k (n : Int) (sgText n X) a b d = some _ := h5 k (by omega)
  have g6 : spec_l3At.f k (n : Int) (sgText n X) a c e = some _ := h6 k (by omega)
  unfold spec_l4Breaks.f
  rw [g1, g2, g3, g4, g5, g6]
  simp only [Option.bind_some]
  have hbr := hX.br a b c d e ha hb hc hd he hab hac had hae hbc hbd hbe hcd hce hde
  have m1 := mem_sg hC ha hb hc hab hbc hac
  have m2 := mem_sg hC ha hd he had hde hae
  have m3 := mem_sg hC ha hb he hab hbe hae
  have m4 := mem_sg hC ha hc hd hac hcd had
  have m5 := mem_sg hC ha hb hd hab hbd had
  have m6 := mem_sg hC ha hc he hac hce hae
  have key : ∀ s1 s2 s3 s4 s5 s6 : Int, (s1 = 1 ∨ s1 = -1) → (s2 = 1 ∨ s2 = -1) → (s3 = 1 ∨ s3 = -1) → (s4 = 1 ∨ s4 = -1) → (s5 = 1 ∨ s5 = -1) → (s6 = 1 ∨ s6 = -1) → ¬ (s1 * s2 = s3 * s4 ∧ s3 * s4 = -s5 * s6) → (if (wrap64 (s1 * s2)) = (wrap64 (s3 * s4)) then (some ((wrap64 (s3 * s4)) == (wrap64 ((wrap64 (-s5)) * s6)))) else (some false)) = some false := by
    rintro s1 s2 s3 s4 s5 s6 (rfl | rfl) (rfl | rfl) (rfl | rfl) (rfl | rfl) (rfl | rfl) (rfl | rfl) h <;> first | exact absurd ⟨by decide, by decide⟩ h | decide +kernel
  exact key _ _ _ _ _ _ m1 m2 m3 m4 m5 m6 hbr
theorem FirstBreak_ev {n : Nat} (hn : 3 ≤ n ∧ n ≤ 7) {X : Int → Int → Int → Int} (hX : Ord n X) : Ev (fun k => spec_FirstBreak.f k (n : Int) (sgText n X)) ([] : List Int) := by
  refine upLoop' (l := fun q i => spec_FirstBreak.l0 q i (n : Int) (sgText n X)) 0 (n : Int) _ ?_ (by omega) (Ev.step (f := fun q => spec_FirstBreak.j1 q (n : Int) false (n : Int) (sgText n X)) (fun q => by simp only [spec_FirstBreak.l0]; rw [if_neg (by omega)]) (Ev.step (f := fun _ => some []) (fun q => by simp only [spec_FirstBreak.j1]; rw [if_neg (by decide)]) (Ev.now _)))
  intro e h0 h1 hC
  obtain ⟨q, rfl⟩ := i7_of (a := e) ⟨h0, by omega⟩
  have hq : q.1 < n := by unfold i7 at h1; omega
  have ho := oth_is ⟨n, by omega⟩ q hq
  obtain ⟨hl7, hok⟩ := oth_ok ⟨n, by omega⟩ q hq
  obtain ⟨O, hO⟩ : ∃ O, othL n (i7 q) = O := ⟨_, rfl⟩
  simp only [hO] at ho hl7 hok
  have at_ : ∀ i : Int, 0 ≤ i → i < O.length → (0 ≤ rd O i ∧ rd O i < (n : Int)) ∧ i7 q ≠ rd O i ∧ ∀ j : Int, i < j → j < O.length → rd O i ≠ rd O j := by
    intro i i0 i1
    obtain ⟨f, rfl⟩ := i7_of (a := i) ⟨i0, by omega⟩
    obtain ⟨a1, a2, a3⟩ := hok f (by unfold i7 at i1; omega)
    refine ⟨a1, a2, fun j ij j1 => ?_⟩
    obtain ⟨g, rfl⟩ := i7_of (a := j) ⟨by omega, by omega⟩
    exact a3 g (by unfold i7 at ij; omega) (by unfold i7 at j1; omega)
  refine Ev.step (f := fun k => (spec_AreSigns.f k (n : Int) (sgText n X)).bind fun t102 => (spec_FirstBreak.j1 k (i7 q) t102 (n : Int) (sgText n X))) (fun k => by simp only [spec_FirstBreak.l0]; rw [if_pos h1]) (Ev.bind (AreSigns_ev hn X) ?_)
  refine Ev.step (f := fun k => (spec_l3Others.f k (n : Int) (i7 q)).bind fun t106 => (spec_FirstBreak.l1 k (i7 q) t106 0 (n : Int) (sgText n X))) (fun k => by simp only [spec_FirstBreak.j1]; rw [if_pos trivial]) (Ev.bind (Ev.of (fun k => spec_l3Others.mono _ _ k) ho) ?_)
  refine upLoop' (l := fun k i => spec_FirstBreak.l1 k (i7 q) O i (n : Int) (sgText n X)) 0 (O.length : Int) _ ?_ (by omega) (Ev.step (f := fun k => spec_FirstBreak.l0 k (i7 q + 1) (n : Int) (sgText n X)) (fun k => by simp only [spec_FirstBreak.l1]; rw [if_neg (by omega), w64 (by omega) (by omega)]) hC)
  intro i i0 i1 hCi
  refine Ev.step (f := fun k => spec_FirstBreak.l2 k (i7 q) O i (i + 1) (n : Int) (sgText n X)) (fun k => by simp only [spec_FirstBreak.l1]; rw [if_pos i1, w64 (by omega) (by omega)]) ?_
  refine upLoop' (l := fun k j => spec_FirstBreak.l2 k (i7 q) O i j (n : Int) (sgText n X)) (i + 1) (O.length : Int) _ ?_ (by omega) (Ev.step (f := fun k => spec_FirstBreak.l1 k (i7 q) O (i + 1) (n : Int) (sgText n X)) (fun k => by simp only [spec_FirstBreak.l2]; rw [if_neg (by omega), w64 (by omega) (by omega)]) hCi)
  intro j j0 j1 hCj
  refine Ev.step (f := fun k => spec_FirstBreak.l3 k (i7 q) O i j (j + 1) (n : Int) (sgText n X)) (fun k => by simp only [spec_FirstBreak.l2]; rw [if_pos j1, w64 (by omega) (by omega)]) ?_
  refine upLoop' (l := fun k m => spec_FirstBreak.l3 k (i7 q) O i j m (n : Int) (sgText n X)) (j + 1) (O.length : Int) _ ?_ (by omega) (Ev.step (f := fun k => spec_FirstBreak.l2 k (i7 q) O i (j + 1) (n : Int) (sgText n X)) (fun k => by simp only [spec_FirstBreak.l3]; rw [if_neg (by omega), w64 (by omega) (by omega)]) hCj)
  intro m m0 m1 hCm
  refine Ev.step (f := fun k => spec_FirstBreak.l4 k (i7 q) O i j m (m + 1) (n : Int) (sgText n X)) (fun k => by simp only [spec_FirstBreak.l3]; rw [if_pos m1, w64 (by omega) (by omega)]) ?_
  refine upLoop' (l := fun k p => spec_FirstBreak.l4 k (i7 q) O i j m p (n : Int) (sgText n X)) (m + 1) (O.length : Int) _ ?_ (by omega) (Ev.step (f := fun k => spec_FirstBreak.l3 k (i7 q) O i j (m + 1) (n : Int) (sgText n X)) (fun k => by simp only [spec_FirstBreak.l4]; rw [if_neg (by omega), w64 (by omega) (by omega)]) hCm)
  intro p p0 p1 hCp
  obtain ⟨b1, b2, b3⟩ := at_ i i0 i1
  obtain ⟨c1, c2, c3⟩ := at_ j (by omega) j1
  obtain ⟨d1, d2, d3⟩ := at_ m (by omega) m1
  obtain ⟨e1, e2, e3⟩ := at_ p (by omega) p1
  refine Ev.step (f := fun k => (spec_l4Breaks.f k (n : Int) (sgText n X) (i7 q) (rd O i) (rd O j) (rd O m) (rd O p)).bind fun t113 => (if t113 = true then (some (([i7 q, rd O i, rd O j, rd O m, rd O p] : List Int))) else (spec_FirstBreak.l4 k (i7 q) O i j m (p + 1) (n : Int) (sgText n X)))) (fun k => ?_) (Ev.bind (breaks_ev hn hX ⟨h0, h1⟩ b1 c1 d1 e1 b2 c2 d2 e2 (b3 j (by omega) j1) (b3 m (by omega) m1) (b3 p (by omega) p1) (c3 m (by omega) m1) (c3 p (by omega) p1) (d3 p (by omega) p1)) (Ev.iteF (by decide) hCp))
  simp only [spec_FirstBreak.l4]
  rw [if_pos p1, if_pos i0, if_pos i1, if_pos (by omega), if_pos j1, if_pos (by omega), if_pos m1, if_pos (by omega), w64 (by omega) (by omega)]
theorem T3_plus : ∀ u v w : Bool, ((T3 u v w).toList = ([43, 43, 43, 43] : List UInt8) ↔ u = true ∧ v = true ∧ w = true) := by decide +kernel
theorem l4Acyclic_ev {n : Nat} (hn : 3 ≤ n ∧ n ≤ 7) {X : Int → Int → Int → Int} (hX : Ord n X) : Ev (fun k => spec_l4Acyclic.f k (n : Int) (sgText n X)) true := by
  refine upLoop' (l := fun q i => spec_l4Acyclic.l0 q i (n : Int) (sgText n X)) 0 (n : Int) _ ?_ (by omega) (Ev.step (f := fun q => some true) (fun q => by simp only [spec_l4Acyclic.l0]; rw [if_neg (by omega)]) (Ev.now _))
  intro p p0 p1 hCp
  refine Ev.step (f := fun k => spec_l4Acyclic.l1 k p (p + 1) (n : Int) (sgText n X)) (fun k => by simp only [spec_l4Acyclic.l0]; rw [if_pos p1, w64 (by omega) (by omega)]) ?_
  refine upLoop' (l := fun k j => spec_l4Acyclic.l1 k p j (n : Int) (sgText n X)) (p + 1) (n : Int) _ ?_ (by omega) (Ev.step (f := fun k => spec_l4Acyclic.l0 k (p + 1) (n : Int) (sgText n X)) (fun k => by simp only [spec_l4Acyclic.l1]; rw [if_neg (by omega), w64 (by omega) (by omega)]) hCp)
  intro a a0 a1 hCa
  refine Ev.step (f := fun k => spec_l4Acyclic.l2 k p a (a + 1) (n : Int) (sgText n X)) (fun k => by simp only [spec_l4Acyclic.l1]; rw [if_pos a1, w64 (by omega) (by omega)]) ?_
  refine upLoop' (l := fun k j => spec_l4Acyclic.l2 k p a j (n : Int) (sgText n X)) (a + 1) (n : Int) _ ?_ (by omega) (Ev.step (f := fun k => spec_l4Acyclic.l1 k p (a + 1) (n : Int) (sgText n X)) (fun k => by simp only [spec_l4Acyclic.l2]; rw [if_neg (by omega), w64 (by omega) (by omega)]) hCa)
  intro b b0 b1 hCb
  refine Ev.step (f := fun k => spec_l4Acyclic.l3 k p a b (b + 1) (n : Int) (sgText n X)) (fun k => by simp only [spec_l4Acyclic.l2]; rw [if_pos b1, w64 (by omega) (by omega)]) ?_
  refine upLoop' (l := fun k j => spec_l4Acyclic.l3 k p a b j (n : Int) (sgText n X)) (b + 1) (n : Int) _ ?_ (by omega) (Ev.step (f := fun k => spec_l4Acyclic.l2 k p a (b + 1) (n : Int) (sgText n X)) (fun k => by simp only [spec_l4Acyclic.l3]; rw [if_neg (by omega), w64 (by omega) (by omega)]) hCb)
  intro c c0 c1 hCc
  have hac := hX.ac p a b c p0 (by omega) (by omega) (by omega) c1
  refine Ev.step (f := fun k => (spec_l4Circuit.f k (n : Int) (sgText n X) p a b c).bind fun t102 => (if t102.toList = ([43, 43, 43, 43] : List UInt8) then (some false) else (spec_l4Acyclic.l3 k p a b (c + 1) (n : Int) (sgText n X)))) (fun k => by simp only [spec_l4Acyclic.l3]; rw [if_pos c1, w64 (by omega) (by omega)]) (Ev.bind (l4Circuit_ev hn hX.chi ⟨p0, p1⟩ ⟨by omega, a1⟩ ⟨by omega, b1⟩ ⟨by omega, c1⟩ (by omega) (by omega) (by omega) (by omega) (by omega) (by omega)) (Ev.iteF ?_ hCc))
  rw [T3_plus]
  simp only [decide_eq_true_eq]
  exact hac
theorem IsAcyclic_ev {n : Nat} (hn : 3 ≤ n ∧ n ≤ 7) {X : Int → Int → Int → Int} (hX : Ord n X) : Ev (fun k => spec_IsAcyclic.f k (n : Int) (sgText n X)) true := by
  have hm : Ev (fun k => spec_IsMatroid.f k (n : Int) (sgText n X)) true := Ev.bind (AreSigns_ev hn X) (Ev.iteT rfl (Ev.bind (FirstBreak_ev hn hX) (Ev.const rfl)))
  exact Ev.bind hm (Ev.iteT rfl (Ev.bind (l4Acyclic_ev hn hX) (Ev.now _)))
end Go.Proofs.YteaagaekdkolnaaGreatDoor.Pure

namespace Go.Proofs.YteaagaekdkolnaaGreatDoor.Hul
set_option linter.unusedSimpArgs false
set_option linter.unusedVariables false
abbrev Pt := Int × Int
def ar (a b c : Pt) : Int := (b.1 - a.1) * (c.2 - a.2) - (b.2 - a.2) * (c.1 - a.1)
theorem ar_rot (a b c : Pt) : ar b c a = ar a b c := by unfold ar; grind
theorem ar_swap (a b c : Pt) : ar b a c = -ar a b c := by unfold ar; grind
theorem ar_swap2 (a b c : Pt) : ar a c b = -ar a b c := by unfold ar; grind
/-- p is inside the triangle. -/
def inT (p a b c : Pt) : Prop := (0 < ar p a b ∧ 0 < ar p b c ∧ 0 < ar p c a) ∨ (ar p a b < 0 ∧ ar p b c < 0 ∧ ar p c a < 0)
theorem ar_cram2 (q r a b c : Pt) : ar q b c * ar r q a + ar q c a * ar r q b + ar q a b * ar r q c = 0 := by unfold ar; grind
/-- A list of points, no three on a line. -/
structure Gen (n : Nat) (P : Nat → Pt) : Prop where
  three : 3 ≤ n
  nz : ∀ i j k, i < n → j < n → k < n → i ≠ j → j ≠ k → i ≠ k → ar (P i) (P j) (P k) ≠ 0
variable {n : Nat} {P : Nat → Pt}
def ext (n : Nat) (P : Nat → Pt) (p : Nat) : Prop := p < n ∧ ∀ a b c, a < n → b < n → c < n → a ≠ p → b ≠ p → c ≠ p → a ≠ b → b ≠ c → a ≠ c → ¬ inT (P p) (P a) (P b) (P c)
/-- q follows p: all others lie to the left. -/
def nxt (n : Nat) (P : Nat → Pt) (p q : Nat) : Prop := q < n ∧ q ≠ p ∧ ∀ k, k < n → k ≠ p → k ≠ q → 0 < ar (P p) (P q) (P k)
theorem nxt_ex (h : Gen n P) {p : Nat} (hp : ext n P p) : ∃ q, nxt n P p q := by
  have key : ∀ m, m ≤ n → (∃ k, k < m ∧ k ≠ p) → ∃ q, q < m ∧ q ≠ p ∧ ∀ k, k < m → k ≠ p → k ≠ q → 0 < ar (P p) (P q) (P k) := by
    intro m
    induction m with
    | zero => rintro _ ⟨k, hk, _⟩; exact absurd hk (Nat.not_lt_zero _)
    | succ m ih =>
      intro hm hex
      by_cases hmp : m = p
      · have : ∃ k, k < m ∧ k ≠ p := by obtain ⟨k, hk, hkp⟩ := hex; exact ⟨k, by omega, hkp⟩
        obtain ⟨q, hq, hqp, hall⟩ := ih (by omega) this
        exact ⟨q, by omega, hqp, fun k hk hkp hkq => hall k (by omega) hkp hkq⟩
      · by_cases hex2 : ∃ k, k < m ∧ k ≠ p
        · obtain ⟨q, hq, hqp, hall⟩ := ih (by omega) hex2
          have hne := h.nz p q m hp.1 (by omega) (by omega) (by omega) (by omega) (by omega)
          rcases Int.lt_or_le 0 (ar (P p) (P q) (P m)) with hlt | hle
          · refine ⟨q, by omega, hqp, fun k hk hkp hkq => ?_⟩
            by_cases hkm : k = m
            · subst hkm; exact hlt
            · exact hall k (by omega) hkp hkq
          · have hmq : 0 < ar (P p) (P m) (P q) := by rw [ar_swap2]; omega
            refine ⟨m, by omega, hmp, fun k hk hkp hkm => ?_⟩
            by_cases hkq : k = q
            · subst hkq; exact hmq
            · have h1 := hall k (by omega) hkp hkq
              have hne2 := h.nz p m k hp.1 (by omega) (by omega) (by omega) (by omega) (by omega)
              rcases Int.lt_or_le 0 (ar (P p) (P m) (P k)) with hlt2 | hle2
              · exact hlt2
              · exfalso
                have h2 : 0 < ar (P p) (P k) (P m) := by rw [ar_swap2]; omega
                exact hp.2 q k m (by omega) (by omega) (by omega) hqp hkp hmp (by omega) (by omega) (by omega) (Or.inl ⟨h1, h2, hmq⟩)
        · refine ⟨m, by omega, hmp, fun k hk hkp hkm => absurd ⟨k, by omega, hkp⟩ hex2⟩
  obtain ⟨q, hq⟩ := key n (Nat.le_refl n) ⟨if p = 0 then 1 else 0, by have := h.three; split <;> omega, by split <;> omega⟩
  exact ⟨q, hq⟩
theorem nxt_unique {p q r : Nat} (h1 : nxt n P p q) (h2 : nxt n P p r) : q = r := by
  by_cases e : q = r
  · exact e
  · have a := h1.2.2 r h2.1 h2.2.1 (fun x => e x.symm)
    have b := h2.2.2 q h1.1 h1.2.1 e
    rw [ar_swap2] at b
    omega
theorem nxt_inj {p r q : Nat} (hp : p < n) (hr : r < n) (h1 : nxt n P p q) (h2 : nxt n P r q) : p = r := by
  by_cases e : p = r
  · exact e
  · have a := h1.2.2 r hr (fun x => e x.symm) h2.2.1.symm
    have b := h2.2.2 p hp e h1.2.1.symm
    have : ar (P r) (P q) (P p) = -ar (P p) (P q) (P r) := by unfold ar; grind
    omega
/-- What follows is extreme. -/
theorem nxt_ext (h : Gen n P) {p q : Nat} (hp : p < n) (hq : nxt n P p q) : ext n P q := by
  refine ⟨hq.1, fun a b c ha hb hc ha' hb' hc' hab hbc hac hin => ?_⟩
  have side : ∀ x, x < n → x ≠ q → 0 ≤ ar (P p) (P q) (P x) ∧ (x ≠ p → 0 < ar (P p) (P q) (P x)) := by
    intro x hx hxq
    by_cases e : x = p
    · subst e; exact ⟨by unfold ar; simp, fun x => absurd rfl x⟩
    · exact ⟨Int.le_of_lt (hq.2.2 x hx e hxq), fun _ => hq.2.2 x hx e hxq⟩
  have sa := side a ha ha'
  have sb := side b hb hb'
  have sc := side c hc hc'
  have e := ar_cram2 (P q) (P p) (P a) (P b) (P c)
  have pos : ∀ {x y : Int}, 0 < x → 0 ≤ y → 0 ≤ x * y := fun hx hy => Int.mul_nonneg (Int.le_of_lt hx) hy
  have pp : ∀ {x y : Int}, 0 < x → 0 < y → 0 < x * y := fun hx hy => Int.mul_pos hx hy
  rcases hin with ⟨i1, i2, i3⟩ | ⟨i1, i2, i3⟩
  · have p1 := pos i2 sa.1
    have p2 := pos i3 sb.1
    have p3 := pos i1 sc.1
    by_cases hpa : a = p
    · have := pp i3 (sb.2 (by omega)); omega
    · have := pp i2 (sa.2 hpa); omega
  · have p1 := pos (show 0 < -ar (P q) (P b) (P c) by omega) sa.1
    have p2 := pos (show 0 < -ar (P q) (P c) (P a) by omega) sb.1
    have p3 := pos (show 0 < -ar (P q) (P a) (P b) by omega) sc.1
    rw [Int.neg_mul] at p1 p2 p3
    by_cases hpa : a = p
    · have := pp (show 0 < -ar (P q) (P c) (P a) by omega) (sb.2 (by omega)); rw [Int.neg_mul] at this; omega
    · have := pp (show 0 < -ar (P q) (P b) (P c) by omega) (sa.2 hpa); rw [Int.neg_mul] at this; omega
/-! #### the round of what follows -/
open Classical in
noncomputable def nx (n : Nat) (P : Nat → Pt) (p : Nat) : Nat := if h : ∃ q, nxt n P p q then h.choose else 0
theorem nx_is (h : Gen n P) {p : Nat} (hp : ext n P p) : nxt n P p (nx n P p) := by
  have e := nxt_ex h hp
  unfold nx
  rw [dif_pos e]
  exact e.choose_spec
noncomputable def it (n : Nat) (P : Nat → Pt) (e : Nat) : Nat → Nat
  | 0 => e
  | k + 1 => nx n P (it n P e k)
theorem it_ext (h : Gen n P) {e : Nat} (he : ext n P e) : ∀ k, ext n P (it n P e k) := by
  intro k
  induction k with
  | zero => exact he
  | succ k ih => exact nxt_ext h ih.1 (nx_is h ih)
theorem it_next (h : Gen n P) {e : Nat} (he : ext n P e) (k : Nat) : nxt n P (it n P e k) (it n P e (k + 1)) := nx_is h (it_ext h he k)
theorem it_back (h : Gen n P) {e : Nat} (he : ext n P e) : ∀ (i j : Nat), i ≤ j → it n P e i = it n P e j → it n P e (j - i) = e := by
  intro i
  induction i with
  | zero => intro j _ hj; rw [Nat.sub_zero]; exact hj.symm
  | succ i ih =>
    intro j hij hj
    obtain ⟨m, rfl⟩ : ∃ m, j = m + 1 := ⟨j - 1, by omega⟩
    have h1 := it_next h he i
    have h2 := it_next h he m
    rw [hj] at h1
    have := nxt_inj (it_ext h he i).1 (it_ext h he m).1 h1 h2
    have r := ih m (by omega) this
    rwa [show m + 1 - (i + 1) = m - i by omega]
theorem nodup_bound {m : Nat} (L : List Nat) (hL : L.Nodup) (h : ∀ x ∈ L, x < m) : L.length ≤ m := by
  have : ((List.range m).filter fun x => decide (x ∈ L)).Perm L := (List.perm_ext_iff_of_nodup (List.nodup_range.filter _) hL).2 fun x => by
    rw [List.mem_filter, List.mem_range]
    simp only [decide_eq_true_eq]
    exact ⟨fun y => y.2, fun y => ⟨h x y, y⟩⟩
  rw [← this.length_eq]
  have := List.length_filter_le (fun x => decide (x ∈ L)) (List.range m)
  rwa [List.length_range] at this
/-- The round closes. -/
theorem it_closes (h : Gen n P) {e : Nat} (he : ext n P e) : ∃ t, 0 < t ∧ t ≤ n ∧ it n P e t = e ∧ ∀ j, 0 < j → j < t → it n P e j ≠ e := by
  have ex : ∃ t, 0 < t ∧ t ≤ n ∧ it n P e t = e := by
    by_cases hx : ∃ t, 0 < t ∧ t ≤ n ∧ it n P e t = e
    · exact hx
    · exfalso
      have hnd : ((List.range (n + 1)).map (it n P e)).Nodup := by
        refine List.pairwise_map.2 (List.Pairwise.imp_of_mem ?_ (List.pairwise_lt_range (n := n + 1)))
        intro i j hi hj hij hh
        have hj := List.mem_range.1 hj
        exact hx ⟨j - i, by omega, by omega, it_back h he i j (by omega) hh⟩
      have := nodup_bound (m := n) _ hnd fun x hx => by
        obtain ⟨k, _, rfl⟩ := List.mem_map.1 hx
        exact (it_ext h he k).1
      rw [List.length_map, List.length_range] at this
      omega
  have least : ∀ m, (∃ t, 0 < t ∧ t ≤ m ∧ it n P e t = e) → ∃ t, 0 < t ∧ t ≤ m ∧ it n P e t = e ∧ ∀ j, 0 < j → j < t → it n P e j ≠ e := by
    intro m
    induction m with
    | zero => rintro ⟨t, h0, h1, _⟩; omega
    | succ m ih =>
      intro hex
      by_cases h2 : ∃ t, 0 < t ∧ t ≤ m ∧ it n P e t = e
      · obtain ⟨t, a, b, c⟩ := ih h2; exact ⟨t, a, by omega, c⟩
      · obtain ⟨t, a, b, c⟩ := hex
        exact ⟨t, a, b, c, fun j hj hjt hje => h2 ⟨j, hj, by omega, hje⟩⟩
  exact least n ex
/-- A point to the left of the round's sides lies in a triangle of the fan: there is a side that sees it. -/
theorem fan_at (P : Nat → Pt) (c : Nat → Nat) (z : Pt) (t : Nat) (h1 : 0 < ar (P (c 0)) (P (c 1)) z) (h2 : ar (P (c 0)) (P (c t)) z < 0) (ht : 1 ≤ t) : ∃ i, 1 ≤ i ∧ i < t ∧ 0 < ar (P (c 0)) (P (c i)) z ∧ ar (P (c 0)) (P (c (i + 1))) z ≤ 0 := by
  have key : ∀ m, 1 ≤ m → (∃ i, 1 ≤ i ∧ i < m ∧ 0 < ar (P (c 0)) (P (c i)) z ∧ ar (P (c 0)) (P (c (i + 1))) z ≤ 0) ∨ 0 < ar (P (c 0)) (P (c m)) z := by
    intro m
    induction m with
    | zero => omega
    | succ m ihm =>
      intro _
      by_cases e0 : m = 0
      · subst e0; exact Or.inr h1
      · rcases ihm (by omega) with ⟨i, a, b, c1, d⟩ | hpos
        · exact Or.inl ⟨i, a, by omega, c1, d⟩
        · rcases Int.lt_or_le 0 (ar (P (c 0)) (P (c (m + 1))) z) with hlt | hle
          · exact Or.inr hlt
          · exact Or.inl ⟨m, by omega, by omega, hpos, hle⟩
  rcases key t ht with hx | hpos
  · exact hx
  · omega
/-- Every extreme element is on the round. -/
theorem it_all (h : Gen n P) {e : Nat} (he : ext n P e) {t : Nat} (h0 : 0 < t) (ht : it n P e t = e) (hj : ∀ j, 0 < j → j < t → it n P e j ≠ e) {x : Nat} (hx : ext n P x) : ∃ j, j < t ∧ it n P e j = x := by
  by_cases hin : ∃ j, j < t ∧ it n P e j = x
  · exact hin
  exfalso
  have hne : ∀ j, j < t → it n P e j ≠ x := fun j hj hjx => hin ⟨j, hj, hjx⟩
  have left : ∀ j, j < t → 0 < ar (P (it n P e j)) (P (it n P e (j + 1))) (P x) := by
    intro j hjt
    refine (it_next h he j).2.2 x hx.1 (fun hh => hne j hjt hh.symm) (fun hh => ?_)
    by_cases hl : j + 1 = t
    · rw [hl, ht] at hh; exact hne 0 h0 hh.symm
    · exact hne (j + 1) (by omega) hh.symm
  have t1 : t ≠ 1 := by
    rintro rfl
    exact (it_next h he 0).2.1 ht
  have l1 : 0 < ar (P (it n P e 0)) (P (it n P e 1)) (P x) := left 0 h0
  have l2 : ar (P (it n P e 0)) (P (it n P e (t - 1))) (P x) < 0 := by
    have := left (t - 1) (by omega)
    rw [show t - 1 + 1 = t by omega, ht] at this
    have e2 : ar (P e) (P (it n P e (t - 1))) (P x) = -ar (P (it n P e (t - 1))) (P e) (P x) := by rw [ar_swap]
    show ar (P e) _ _ < 0
    omega
  obtain ⟨i, a, b, c1, d⟩ := fan_at P (it n P e) (P x) (t - 1) l1 l2 (by omega)
  have l3 := left i (by omega)
  have hi := hne i (by omega)
  have hi1 := hne (i + 1) (by omega)
  have he0 : it n P e i ≠ e := hj i (by omega) (by omega)
  have he1 : it n P e (i + 1) ≠ e := hj (i + 1) (by omega) (by omega)
  have hxe : x ≠ e := fun hh => hne 0 h0 hh.symm
  have d' : ar (P e) (P (it n P e (i + 1))) (P x) ≠ 0 := h.nz _ _ _ he.1 (it_ext h he _).1 hx.1 he1.symm hi1 (fun hh => hxe hh.symm)
  have d2 : ar (P e) (P (it n P e (i + 1))) (P x) ≤ 0 := d
  have c2 : 0 < ar (P e) (P (it n P e i)) (P x) := c1
  refine hx.2 e (it n P e i) (it n P e (i + 1)) he.1 (it_ext h he _).1 (it_ext h he _).1 (fun hh => hxe hh.symm) hi hi1 he0.symm (fun hh => (it_next h he i).2.1 hh.symm) he1.symm (Or.inl ⟨?_, ?_, ?_⟩)
  · have := ar_rot (P x) (P e) (P (it n P e i)); omega
  · have := ar_rot (P x) (P (it n P e i)) (P (it n P e (i + 1))); omega
  · have := ar_rot (P x) (P (it n P e (i + 1))) (P e); have := ar_swap (P e) (P (it n P e (i + 1))) (P x); omega
end Go.Proofs.YteaagaekdkolnaaGreatDoor.Hul

