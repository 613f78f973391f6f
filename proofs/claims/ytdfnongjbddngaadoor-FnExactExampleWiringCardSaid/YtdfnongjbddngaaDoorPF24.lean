-- Written by a program of this session (wip/tools/pmore.py) for this claim; Lean checks it.
import Derived.Test.YtdfnongjbddngaaDoorP0
import Derived.Test.YtdfnongjbddngaaDoorPF47
import Derived.Test.YtdfnongjbddngaaDoorPF43
namespace Go.Proofs.YtdfnongjbddngaaDoor.P
open Go.RowKit Go.Proofs.YtdfnongjbddngaaDoorW.PrintWords Go.Proofs.YtdfnongjbddngaaDoorW.PrintLast Go.Proofs.YtdfnongjbddngaaDoorW.PrintMore
attribute [local go_sem] max2_int min2_int max_two min_two max_three min_three max_four min_four   -- for this text's walks alone
set_option linter.unusedVariables false
set_option linter.unusedSimpArgs false

/-! ### impl_ExampleWiring: function 24 -/
def impl_ExampleWiring.f (k : Nat) (a0 : Int) : Option (Int × List Int × Bool) := if a0 < 1 then (some (0, ([] : List Int), false)) else (if a0 > 5 then (some (0, ([] : List Int), false)) else ((some (([(⟨#[51, 58, 48, 49, 48]⟩ : ByteArray), (⟨#[52, 58, 48, 49, 48, 50, 49, 48]⟩ : ByteArray), (⟨#[52, 58, 48, 50, 49, 48, 50, 49]⟩ : ByteArray), (⟨#[53, 58, 48, 49, 48, 50, 49, 48, 51, 50, 49, 48]⟩ : ByteArray), (⟨#[53, 58, 48, 50, 49, 51, 48, 50, 49, 51, 48, 50]⟩ : ByteArray)] : List ByteArray) : List ByteArray)).bind fun y101 => (if 0 ≤ (wrap64 (a0 - 1)) then (if (wrap64 (a0 - 1)) < (y101.length : Int) then ((impl_ParseWiring.f k (rdOf ByteArray.empty y101 (wrap64 (a0 - 1)))).bind fun bt105 => (some (bt105.1, bt105.2.1, bt105.2.2))) else (none)) else (none))))
theorem impl_ExampleWiring.mono : ∀ a0 k, LeO (impl_ExampleWiring.f k a0) (impl_ExampleWiring.f (k + 1) a0) := by
  intro a0 k
  unfold impl_ExampleWiring.f
  repeat' first
      | (with_reducible exact impl_ParseWiring.mono _ _)
      | (with_reducible exact LeO.refl _)
      | (with_reducible exact LeO.none _)
      | (with_reducible refine LeO.ite ?_ ?_)
      | (with_reducible refine LeO.bind ?_ (fun _ => ?_))
      | exact impl_ParseWiring.mono _ _
      | exact LeO.none _
      | refine LeO.ite ?_ ?_
      | refine LeO.bind ?_ (fun _ => ?_)
set_option maxHeartbeats 8000000 in
set_option maxRecDepth 100000 in
theorem impl_ExampleWiring.calls (k : Nat) (a0 : Int) (r1 : Int) (r2 : List Int) (r3 : Bool) (w : World) (h : impl_ExampleWiring.f k a0 = some (r1, r2, r3)) (htab_ : Tab w) :
    Calls Tryd.prog 24 #[.int .i64 a0] w fun e w' => ∃ v1_ : Value, e = .returned (.tuple #[.int .i64 r1, v1_, .bool r3]) ∧ Kd.R (Kd.int .i64) 3 w' w.heap.size (fun _ => True) v1_ r2 ∧ Below w.heap.size w w' := by
  have HTAB := Aside0.mk htab_
  clear htab_
  have HB := Aside0.mk (Below.refl w.heap.size w)
  have H : (if a0 < 1 then (some (0, ([] : List Int), false)) else (if a0 > 5 then (some (0, ([] : List Int), false)) else ((some (([(⟨#[51, 58, 48, 49, 48]⟩ : ByteArray), (⟨#[52, 58, 48, 49, 48, 50, 49, 48]⟩ : ByteArray), (⟨#[52, 58, 48, 50, 49, 48, 50, 49]⟩ : ByteArray), (⟨#[53, 58, 48, 49, 48, 50, 49, 48, 51, 50, 49, 48]⟩ : ByteArray), (⟨#[53, 58, 48, 50, 49, 51, 48, 50, 49, 51, 48, 50]⟩ : ByteArray)] : List ByteArray) : List ByteArray)).bind fun y101 => (if 0 ≤ (wrap64 (a0 - 1)) then (if (wrap64 (a0 - 1)) < (y101.length : Int) then ((impl_ParseWiring.f k (rdOf ByteArray.empty y101 (wrap64 (a0 - 1)))).bind fun bt105 => (some (bt105.1, bt105.2.1, bt105.2.2))) else (none)) else (none))))) = some (r1, r2, r3) := h
  clear h
  by_cases c2 : a0 < 1
  · rw [if_pos c2] at H
    have c2b0 : decide (a0 < 1) = true := decide_eq_true c2
    clear c2
    simp only [Option.some.injEq, Prod.mk.injEq] at H
    obtain ⟨rfl, rfl, rfl⟩ := H
    go_enter Tryd.func24, Tryd.ntmps24
    go_wp2
    go_ret3
    exact ⟨_, by first | rfl | (simp [errW_none, errW_some] <;> rfl) | (simp [*, errW_none, errW_some] <;> rfl), by first | exact Kd.R_nil _ _ _ _ _ | exact Kd.N_nil _ _ _ _ _ | exact Kd.V_nil _ _ _ _ _ | exact Kd.Q_nil _ _ _ _ _ | exact Kd.S_nil _ _ _ _ _, by repeat (first | (with_reducible first | exact HB.out | apply below_alloc | apply pw_below_drewN | apply below_drew1) | exact HB.out)⟩
  · rw [if_neg c2] at H
    have c2b0 : decide (a0 < 1) = false := decide_eq_false c2
    clear c2
    by_cases c3 : a0 > 5
    · rw [if_pos c3] at H
      have c3b0 : decide (5 < a0) = true := decide_eq_true c3
      clear c3
      simp only [Option.some.injEq, Prod.mk.injEq] at H
      obtain ⟨rfl, rfl, rfl⟩ := H
      go_enter Tryd.func24, Tryd.ntmps24
      go_wp2
      go_ret3
      exact ⟨_, by first | rfl | (simp [errW_none, errW_some] <;> rfl) | (simp [*, errW_none, errW_some] <;> rfl), by first | exact Kd.R_nil _ _ _ _ _ | exact Kd.N_nil _ _ _ _ _ | exact Kd.V_nil _ _ _ _ _ | exact Kd.Q_nil _ _ _ _ _ | exact Kd.S_nil _ _ _ _ _, by repeat (first | (with_reducible first | exact HB.out | apply below_alloc | apply pw_below_drewN | apply below_drew1) | exact HB.out)⟩
    · rw [if_neg c3] at H
      have c3b0 : decide (5 < a0) = false := decide_eq_false c3
      clear c3
      obtain ⟨y101, hy101⟩ : ∃ y_ : List ByteArray, y_ = (([(⟨#[51, 58, 48, 49, 48]⟩ : ByteArray), (⟨#[52, 58, 48, 49, 48, 50, 49, 48]⟩ : ByteArray), (⟨#[52, 58, 48, 50, 49, 48, 50, 49]⟩ : ByteArray), (⟨#[53, 58, 48, 49, 48, 50, 49, 48, 51, 50, 49, 48]⟩ : ByteArray), (⟨#[53, 58, 48, 50, 49, 51, 48, 50, 49, 51, 48, 50]⟩ : ByteArray)] : List ByteArray)) := ⟨_, rfl⟩
      replace H : (if 0 ≤ (wrap64 (a0 - 1)) then (if (wrap64 (a0 - 1)) < (y101.length : Int) then ((impl_ParseWiring.f k (rdOf ByteArray.empty y101 (wrap64 (a0 - 1)))).bind fun bt105 => (some (bt105.1, bt105.2.1, bt105.2.2))) else (none)) else (none)) = some (r1, r2, r3) := by first | (rw [hy101]; with_reducible exact H) | (have H2_ := (Option.bind_some _ _).symm.trans H; rw [hy101]; with_reducible exact H2_) | (have H2_ := (Option.bind_some _ _).symm.trans H; with_reducible exact H2_) | with_reducible exact H | (rw [hy101]; exact H) | exact H
      have Ny101 := Aside0.mk hy101
      clear hy101
      obtain ⟨ji4, hji4⟩ : ∃ j_ : Int, (wrap64 (a0 - 1)) = j_ := ⟨_, rfl⟩
      replace H : (if 0 ≤ (ji4) then (if (ji4) < (y101.length : Int) then ((impl_ParseWiring.f k (rdOf ByteArray.empty y101 (ji4))).bind fun bt105 => (some (bt105.1, bt105.2.1, bt105.2.2))) else (none)) else (none)) = some (r1, r2, r3) := by first | (rw [hji4] at H; exact H) | (simp only [hji4] at H ⊢; exact H)
      have hji4w : (IntKind.i64.wrap (a0 - 1)) = ji4 := (i64_w _).trans hji4
      by_cases c5 : 0 ≤ (ji4)
      · rw [if_pos c5] at H
        have c5b0 : decide (0 ≤ (ji4)) = true := decide_eq_true c5
        clear c5
        by_cases c6 : (ji4) < (y101.length : Int)
        · rw [if_pos c6] at H
          have c6b0 : decide ((ji4) < (y101.length : Int)) = true := decide_eq_true c6
          clear c6
          replace H := Option.bind_eq_some_iff.mp H
          obtain ⟨⟨t105, t106, t107⟩, A70, H⟩ := H
          replace H : (some (t105, t106, t107)) = some (r1, r2, r3) := H
          have A7 := Aside0.mk A70
          clear A70
          simp only [Option.some.injEq, Prod.mk.injEq] at H
          obtain ⟨rfl, rfl, rfl⟩ := H
          go_enter Tryd.func24, Tryd.ntmps24
          go_wp2_with (first | ((with_reducible refine gate_dst (N := 11) rfl ?_); refine Kd.R_lit Kd.string _ 9 ?hg (N := 11) ?hd (xs := ([(⟨#[51, 58, 48, 49, 48]⟩ : ByteArray), (⟨#[52, 58, 48, 49, 48, 50, 49, 48]⟩ : ByteArray), (⟨#[52, 58, 48, 50, 49, 48, 50, 49]⟩ : ByteArray), (⟨#[53, 58, 48, 49, 48, 50, 49, 48, 51, 50, 49, 48]⟩ : ByteArray), (⟨#[53, 58, 48, 50, 49, 51, 48, 50, 49, 51, 48, 50]⟩ : ByteArray)] : List ByteArray)) (inner := [.string (⟨#[51, 58, 48, 49, 48]⟩ : ByteArray), .string (⟨#[52, 58, 48, 49, 48, 50, 49, 48]⟩ : ByteArray), .string (⟨#[52, 58, 48, 50, 49, 48, 50, 49]⟩ : ByteArray), .string (⟨#[53, 58, 48, 49, 48, 50, 49, 48, 51, 50, 49, 48]⟩ : ByteArray), .string (⟨#[53, 58, 48, 50, 49, 51, 48, 50, 49, 51, 48, 50]⟩ : ByteArray)]) (ok := fun _ => True) (okp := fun _ => True) ?hr ?hp (fun _ hk => hk) trivial (Below.refl _ _) (Nat.le_refl _) (by simp) ?_; (case hd => rfl); (case hg => rfl); (case hr => first | (go_simp; done) | (go_simp; rfl)); (case hp => exact (Reps.one (show Kd.M Kd.string _ _ _ (⟨#[51, 58, 48, 49, 48]⟩ : ByteArray) [.string (⟨#[51, 58, 48, 49, 48]⟩ : ByteArray)] from rfl) (Reps.one (show Kd.M Kd.string _ _ _ (⟨#[52, 58, 48, 49, 48, 50, 49, 48]⟩ : ByteArray) [.string (⟨#[52, 58, 48, 49, 48, 50, 49, 48]⟩ : ByteArray)] from rfl) (Reps.one (show Kd.M Kd.string _ _ _ (⟨#[52, 58, 48, 50, 49, 48, 50, 49]⟩ : ByteArray) [.string (⟨#[52, 58, 48, 50, 49, 48, 50, 49]⟩ : ByteArray)] from rfl) (Reps.one (show Kd.M Kd.string _ _ _ (⟨#[53, 58, 48, 49, 48, 50, 49, 48, 51, 50, 49, 48]⟩ : ByteArray) [.string (⟨#[53, 58, 48, 49, 48, 50, 49, 48, 51, 50, 49, 48]⟩ : ByteArray)] from rfl) (Reps.one (show Kd.M Kd.string _ _ _ (⟨#[53, 58, 48, 50, 49, 51, 48, 50, 49, 51, 48, 50]⟩ : ByteArray) [.string (⟨#[53, 58, 48, 50, 49, 51, 48, 50, 49, 51, 48, 50]⟩ : ByteArray)] from rfl) (Reps.none _ _))))))); intro v102 w8 ho9 hb hg_ hnew_; clear hg_ hnew_; (first | rw [← Ny101.out] at ho9 | (simp only [Int.reduceToNat] at ho9; rw [← Ny101.out] at ho9)); have n0_ := Aside0.mk (Kd.R_lower ho9 (below_size (by repeat (first | (with_reducible first | exact HB.out | apply below_alloc | apply pw_below_drewN | apply below_drew1) | exact HB.out)))); have n1_ := Aside0.mk (below_step (by repeat (first | (with_reducible first | exact HB.out | apply below_alloc | apply pw_below_drewN | apply below_drew1) | exact HB.out)) hb); clear HB; have HO103 := n0_; have HB := n1_; clear n0_ n1_; clear hb ho9; obtain ⟨Ao10, co10, eo10⟩ := Kd.R_slice HO103.out; subst eo10; have p104 : 0 ≤ ((ji4) : Int) := of_decide_eq_true (by first | (with_reducible assumption) | assumption); have q104 : (ji4) < (y101.length : Int) := of_decide_eq_true (by first | (with_reducible assumption) | assumption); obtain ⟨ad104, e104, hx104_0⟩ := Kd.at_string (Kd.R_reads' HO103.out).2.2 (ji4) p104 q104; cases e104; replace p104 := eq_true p104; replace q104 := eq_true q104) | ((with_reducible refine gate_callee (f := 43) rfl ?_); refine goesL_ (some 16) rfl rfl Tryd.func43 (by kernel_rfl) rfl #[.string (rdOf ByteArray.empty y101 (ji4))] rfl (by (try simp only [List.map_toArray, List.map_cons, List.map_nil]); first | done | (simp only [hji4]; rfl) | rfl | (simp only [List.length_drop, List.length_take]; rfl)) ?_; (with_reducible refine (impl_ParseWiring.calls k (rdOf ByteArray.empty y101 (ji4)) t105 t106 t107 _ A7.out (Tab.on HTAB.out (by repeat (first | (with_reducible first | exact HB.out | apply below_alloc | apply pw_below_drewN | apply below_drew1) | exact HB.out)))).mono ?_); rintro e w11 ⟨v108, rfl, ho0, hb⟩; refine ⟨_, rfl, ?_⟩; have n0_ := Aside0.mk (Kd.R_below (by (with_reducible repeat (first | apply Kd.R_alloc | apply Kd.R_drewN | apply Kd.R_drew)); exact HO103.out) hb); have n1_ := Aside0.mk (Kd.R_lower ho0 (below_size (by repeat (first | (with_reducible first | exact HB.out | apply below_alloc | apply pw_below_drewN | apply below_drew1) | exact HB.out)))); have n2_ := Aside0.mk (below_step (by repeat (first | (with_reducible first | exact HB.out | apply below_alloc | apply pw_below_drewN | apply below_drew1) | exact HB.out)) hb); clear HO103; clear HB; have HO103 := n0_; have HO109 := n1_; have HB := n2_; clear n0_ n1_ n2_; (try clear hb); (try clear hb2); (try clear hk); (try clear hi); (try clear ho0)))
          go_ret3
          exact ⟨_, by first | rfl | (simp [errW_none, errW_some] <;> rfl) | (simp only [← hji4]; first | rfl | (simp [errW_none, errW_some] <;> rfl)) | (simp [*, errW_none, errW_some] <;> rfl), by (with_reducible repeat (first | apply Kd.R_alloc | apply Kd.R_drewN | apply Kd.R_drew)); exact HO109.out, by repeat (first | (with_reducible first | exact HB.out | apply below_alloc | apply pw_below_drewN | apply below_drew1) | exact HB.out)⟩
        · rw [if_neg c6] at H
          exact absurd H (by simp)
      · rw [if_neg c5] at H
        exact absurd H (by simp)

end Go.Proofs.YtdfnongjbddngaaDoor.P
