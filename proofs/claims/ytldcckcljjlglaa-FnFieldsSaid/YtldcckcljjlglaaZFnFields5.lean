/- A part of the proof of FnFields: printed contracts and plain laws, joined by a program of this session. -/
import Derived.Test.YtldcckcljjlglaaZFnFields4
import Derived.Lib.SliceRun
namespace Go.Proofs.Ytldcckcljjlglaa.P
open Go.RowKit Go.Proofs.YtldcckcljjlglaaW.PrintWords Go.Proofs.YtldcckcljjlglaaW.PrintLast Go.Proofs.YtldcckcljjlglaaW.PrintMore
attribute [local go_sem] max2_int min2_int max_two min_two max_three min_three max_four min_four   -- for this text's walks alone
set_option linter.unusedVariables false
set_option linter.unusedSimpArgs false
/-! ### spec_l25One: function 119 -/
def spec_l25One.f (k : Nat) (l0 : List Int) : Option ((List (S40)) × Int) := (spec_l1New.f k l0).bind fun bt101 => ((spec_l24Draw.f k bt101.1 bt101.2.1 bt101.2.2).bind fun bt105 => ((spec_l1Below.f bt101.1 bt105.2.1 bt105.2.2 (bt105.1.length : Int)).bind fun bt110 => ((spec_l1Once.f bt101.1 bt110.2.1 bt110.2.2 14).bind fun bt113 => ((spec_l1Bit.f bt113.1).bind fun t116 => (some (bt105.1, wrap64 (bt110.1 - t116)))))))
set_option maxHeartbeats 8000000 in
set_option maxRecDepth 100000 in
theorem spec_l25One.calls (k : Nat) (A0 : Option Addr) (c0 : Nat) (l0 : List Int) (r1 : List (S40)) (r2 : Int) (w : World) (hr0 : Kd.C (Kd.int .u8) w A0 l0.length l0) (hc0 : l0.length ≤ c0) (h : spec_l25One.f k l0 = some (r1, r2)) :
  Calls Try.prog 119 #[.slice A0 l0.length c0] w fun e w' => ∃ v0_ : Value, e = .returned (.tuple #[v0_, .int .i64 r2]) ∧ Kd.R k40 40 w' w.heap.size (fun _ => True) v0_ r1 ∧ Below w.heap.size w w' := by
 have HR0 := Aside0.mk hr0
 have HC0 := Aside0.mk hc0
 clear hr0 hc0
 have HB := Aside0.mk (Below.refl w.heap.size w)
 have H : ((spec_l1New.f k l0).bind fun bt101 => ((spec_l24Draw.f k bt101.1 bt101.2.1 bt101.2.2).bind fun bt105 => ((spec_l1Below.f bt101.1 bt105.2.1 bt105.2.2 (bt105.1.length : Int)).bind fun bt110 => ((spec_l1Once.f bt101.1 bt110.2.1 bt110.2.2 14).bind fun bt113 => ((spec_l1Bit.f bt113.1).bind fun t116 => (some (bt105.1, wrap64 (bt110.1 - t116)))))))) = some (r1, r2) := h
 clear h
 replace H := Option.bind_eq_some_iff.mp H
 obtain ⟨⟨t101, t102, t103⟩, A20, H⟩ := H
 replace H : ((spec_l24Draw.f k t101 t102 t103).bind fun bt105 => ((spec_l1Below.f t101 bt105.2.1 bt105.2.2 (bt105.1.length : Int)).bind fun bt110 => ((spec_l1Once.f t101 bt110.2.1 bt110.2.2 14).bind fun bt113 => ((spec_l1Bit.f bt113.1).bind fun t116 => (some (bt105.1, wrap64 (bt110.1 - t116))))))) = some (r1, r2) := H
 have A2 := Aside0.mk A20
 clear A20
 replace H := Option.bind_eq_some_iff.mp H
 obtain ⟨⟨t105, t108, t109⟩, A30, H⟩ := H
 replace H : ((spec_l1Below.f t101 t108 t109 (t105.length : Int)).bind fun bt110 => ((spec_l1Once.f t101 bt110.2.1 bt110.2.2 14).bind fun bt113 => ((spec_l1Bit.f bt113.1).bind fun t116 => (some (t105, wrap64 (bt110.1 - t116)))))) = some (r1, r2) := H
 have A3 := Aside0.mk A30
 clear A30
 replace H := Option.bind_eq_some_iff.mp H
 obtain ⟨⟨t110, t111, t112⟩, A40, H⟩ := H
 replace H : ((spec_l1Once.f t101 t111 t112 14).bind fun bt113 => ((spec_l1Bit.f bt113.1).bind fun t116 => (some (t105, wrap64 (t110 - t116))))) = some (r1, r2) := H
 have A4 := Aside0.mk A40
 clear A40
 replace H := Option.bind_eq_some_iff.mp H
 obtain ⟨⟨t113, t114, t115⟩, A50, H⟩ := H
 replace H : ((spec_l1Bit.f t113).bind fun t116 => (some (t105, wrap64 (t110 - t116)))) = some (r1, r2) := H
 have A5 := Aside0.mk A50
 clear A50
 replace H := Option.bind_eq_some_iff.mp H
 obtain ⟨t116, A60, H⟩ := H
 replace H : (some (t105, wrap64 (t110 - t116))) = some (r1, r2) := H
 have A6 := Aside0.mk A60
 clear A60
 simp only [Option.some.injEq, Prod.mk.injEq] at H
 obtain ⟨rfl, rfl⟩ := H
 go_enter Try.func119, Try.ntmps119
 go_wp2_with (first | ((with_reducible refine gate_callee (f := 99) rfl ?_); refine goesL_ (some 7) rfl rfl Try.func99 (by kernel_rfl) rfl #[.slice A0 l0.length c0] rfl (by (try simp only [List.map_toArray, List.map_cons, List.map_nil]); first | done | rfl | (simp only [List.length_drop, List.length_take]; rfl)) ?_; (with_reducible refine (spec_l1New.calls k _ _ l0 t101 t102 t103 w _ ?side1 ?side2 ?side3 A2.out).mono ?_); (case side1 => repeat (first | (with_reducible first | exact HB.out | apply below_alloc | apply pw_below_drewN | apply below_drew1) | exact HB.out)); (case side2 => exact HR0.out); (case side3 => exact HC0.out); rintro e w7 ⟨g104, rfl, hi, hb, hb2⟩; refine ⟨_, rfl, ?_⟩; have n0_ := Aside0.mk (hb); have n1_ := Aside0.mk (hi); clear HB; have HB := n0_; have HI104 := n1_; clear n0_ n1_; (try clear hb); (try clear hb2); (try clear hk); (try clear hi)) | ((with_reducible refine gate_callee (f := 98) rfl ?_); refine goesL_ (some 9) rfl rfl Try.func98 (by kernel_rfl) rfl #[.pointer (some ⟨g104, 0, none⟩)] rfl (by (try simp only [List.map_toArray, List.map_cons, List.map_nil]); first | done | rfl | (simp only [List.length_drop, List.length_take]; rfl)) ?_; (with_reducible refine (spec_l24Draw.calls k g104 t101 t102 t103 t105 t108 t109 w _ ?side1 ?side2 A3.out).mono ?_); (case side1 => repeat (first | (with_reducible first | exact HI104.out | apply IsS133.alloc | apply IsS133.drewN | apply IsS133.drew | apply IsS133.set_1 | apply IsS133.set_2) | exact HI104.out)); (case side2 => repeat (first | (with_reducible first | exact HB.out | apply below_alloc | apply pw_below_drewN | apply below_drew1 | refine below_set ?_ (IsS133.ge HI104.out)) | exact HB.out)); rintro e w8 ⟨v106, rfl, ho0, hi, hb, hk⟩; refine ⟨_, rfl, ?_⟩; have n0_ := Aside0.mk (Kd.R_lower ho0 (below_size (by repeat (first | (with_reducible first | exact HB.out | apply below_alloc | apply pw_below_drewN | apply below_drew1 | refine below_set ?_ (IsS133.ge HI104.out)) | exact HB.out)))); have n1_ := Aside0.mk (hb); have n2_ := Aside0.mk (hi); clear HB; clear HI104; have HO107 := n0_; have HB := n1_; have HI104 := n2_; clear n0_ n1_ n2_; (try clear hb); (try clear hb2); (try clear hk); (try clear hi); (try clear ho0); obtain ⟨Ao9, co9, eo9⟩ := Kd.R_slice HO107.out; subst eo9) | ((with_reducible refine gate_callee (f := 109) rfl ?_); refine goesL_ (some 14) rfl rfl Try.func109 (by kernel_rfl) rfl #[.pointer (some ⟨g104, 0, none⟩), .int .i64 (t105.length : Int)] rfl (by (try simp only [List.map_toArray, List.map_cons, List.map_nil]); first | done | rfl | (simp only [List.length_drop, List.length_take]; rfl)) ?_; (with_reducible refine (spec_l1Below.calls g104 t101 t108 t109 (t105.length : Int) t110 t111 t112 w _ ?side1 ?side2 A4.out).mono ?_); (case side1 => repeat (first | (with_reducible first | exact HI104.out | apply IsS133.alloc | apply IsS133.drewN | apply IsS133.drew | apply IsS133.set_1 | apply IsS133.set_2) | exact HI104.out)); (case side2 => repeat (first | (with_reducible first | exact HB.out | apply below_alloc | apply pw_below_drewN | apply below_drew1 | refine below_set ?_ (IsS133.ge HI104.out)) | exact HB.out)); rintro e w10 ⟨rfl, hi, hb, hk⟩; refine ⟨_, rfl, ?_⟩; have n0_ := Aside0.mk (Kd.R_mono (Kd.R_keep (IsS133.apart (show IsS133 w _ g104 t101 t108 t109 from by repeat (first | (with_reducible first | exact HI104.out | apply IsS133.alloc | apply IsS133.drewN | apply IsS133.drew | apply IsS133.set_1 | apply IsS133.set_2) | exact HI104.out)) (by (with_reducible repeat (first | apply Kd.R_alloc | apply Kd.R_drewN | apply Kd.R_drew)); exact HO107.out) (by decide)) hk (fun _ h => h.2)) (fun _ h => h.1)); have n1_ := Aside0.mk (hb); have n2_ := Aside0.mk (hi); clear HO107; clear HB; clear HI104; have HO107 := n0_; have HB := n1_; have HI104 := n2_; clear n0_ n1_ n2_; (try clear hb); (try clear hb2); (try clear hk); (try clear hi)) | ((with_reducible refine gate_callee (f := 107) rfl ?_); refine goesL_ (some 16) rfl rfl Try.func107 (by kernel_rfl) rfl #[.pointer (some ⟨g104, 0, none⟩), .int .i64 14] rfl (by (try simp only [List.map_toArray, List.map_cons, List.map_nil]); first | done | rfl | (simp only [List.length_drop, List.length_take]; rfl)) ?_; (with_reducible refine (spec_l1Once.calls g104 t101 t111 t112 14 t113 t114 t115 w _ ?side1 ?side2 A5.out).mono ?_); (case side1 => repeat (first | (with_reducible first | exact HI104.out | apply IsS133.alloc | apply IsS133.drewN | apply IsS133.drew | apply IsS133.set_1 | apply IsS133.set_2) | exact HI104.out)); (case side2 => repeat (first | (with_reducible first | exact HB.out | apply below_alloc | apply pw_below_drewN | apply below_drew1 | refine below_set ?_ (IsS133.ge HI104.out)) | exact HB.out)); rintro e w11 ⟨rfl, hi, hb, hk⟩; refine ⟨_, rfl, ?_⟩; have n0_ := Aside0.mk (Kd.R_mono (Kd.R_keep (IsS133.apart (show IsS133 w _ g104 t101 t111 t112 from by repeat (first | (with_reducible first | exact HI104.out | apply IsS133.alloc | apply IsS133.drewN | apply IsS133.drew | apply IsS133.set_1 | apply IsS133.set_2) | exact HI104.out)) (by (with_reducible repeat (first | apply Kd.R_alloc | apply Kd.R_drewN | apply Kd.R_drew)); exact HO107.out) (by decide)) hk (fun _ h => h.2)) (fun _ h => h.1)); have n1_ := Aside0.mk (hb); have n2_ := Aside0.mk (hi); clear HO107; clear HB; clear HI104; have HO107 := n0_; have HB := n1_; have HI104 := n2_; clear n0_ n1_ n2_; (try clear hb); (try clear hb2); (try clear hk); (try clear hi)) | ((with_reducible refine gate_callee (f := 90) rfl ?_); refine goesL_ (some 17) rfl rfl Try.func90 (by kernel_rfl) rfl #[.bool t113] rfl (by (try simp only [List.map_toArray, List.map_cons, List.map_nil]); first | done | rfl | (simp only [List.length_drop, List.length_take]; rfl)) ?_; (with_reducible refine (spec_l1Bit.calls t113 t116 _ A6.out).mono ?_); rintro e w' ⟨rfl, ⟨nd, rfl⟩⟩; refine ⟨_, rfl, ?_⟩))
 go_ret2
 exact ⟨_, by first | rfl | (simp [errW_none, errW_some] <;> rfl) | (simp [*, errW_none, errW_some] <;> rfl), by (with_reducible repeat (first | apply Kd.R_alloc | apply Kd.R_drewN | apply Kd.R_drew)); exact HO107.out, by repeat (first | (with_reducible first | exact HB.out | apply below_alloc | apply pw_below_drewN | apply below_drew1 | refine below_set ?_ (IsS133.ge HI104.out)) | exact HB.out)⟩
end Go.Proofs.Ytldcckcljjlglaa.P

namespace Go.Proofs.Ytldcckcljjlglaa.P
open Go.RowKit Go.Proofs.YtldcckcljjlglaaW.PrintWords Go.Proofs.YtldcckcljjlglaaW.PrintLast Go.Proofs.YtldcckcljjlglaaW.PrintMore
attribute [local go_sem] max2_int min2_int max_two min_two max_three min_three max_four min_four   -- for this text's walks alone
set_option linter.unusedVariables false
set_option linter.unusedSimpArgs false
/-! ### spec_DrawWithoutLine: function 56 -/
def spec_DrawWithoutLine.f (k : Nat) (l0 : List Int) : Option ((List (S40)) × Int) := (spec_l25One.f k l0).bind fun bt101 => (some (bt101.1, bt101.2))
set_option maxHeartbeats 8000000 in
set_option maxRecDepth 100000 in
theorem spec_DrawWithoutLine.calls (k : Nat) (A0 : Option Addr) (c0 : Nat) (l0 : List Int) (r1 : List (S40)) (r2 : Int) (w : World) (hr0 : Kd.C (Kd.int .u8) w A0 l0.length l0) (hc0 : l0.length ≤ c0) (h : spec_DrawWithoutLine.f k l0 = some (r1, r2)) :
  Calls Try.prog 56 #[.slice A0 l0.length c0] w fun e w' => ∃ v0_ : Value, e = .returned (.tuple #[v0_, .int .i64 r2]) ∧ Kd.R k40 40 w' w.heap.size (fun _ => True) v0_ r1 ∧ Below w.heap.size w w' := by
 have HR0 := Aside0.mk hr0
 have HC0 := Aside0.mk hc0
 clear hr0 hc0
 have HB := Aside0.mk (Below.refl w.heap.size w)
 have H : ((spec_l25One.f k l0).bind fun bt101 => (some (bt101.1, bt101.2))) = some (r1, r2) := h
 clear h
 replace H := Option.bind_eq_some_iff.mp H
 obtain ⟨⟨t101, t102⟩, A20, H⟩ := H
 replace H : (some (t101, t102)) = some (r1, r2) := H
 have A2 := Aside0.mk A20
 clear A20
 simp only [Option.some.injEq, Prod.mk.injEq] at H
 obtain ⟨rfl, rfl⟩ := H
 go_enter Try.func56, Try.ntmps56
 go_wp2_with (first | ((with_reducible refine gate_callee (f := 119) rfl ?_); refine goesL_ (some 8) rfl rfl Try.func119 (by kernel_rfl) rfl #[.slice A0 l0.length c0] rfl (by (try simp only [List.map_toArray, List.map_cons, List.map_nil]); first | done | rfl | (simp only [List.length_drop, List.length_take]; rfl)) ?_; (with_reducible refine (spec_l25One.calls k _ _ l0 t101 t102 _ ?side1 ?side2 A2.out).mono ?_); (case side1 => repeat (first | exact HR0.out | (with_reducible refine Kd.C_alloc ?_ _) | (with_reducible refine Kd.C_drewN ?_ _) | (with_reducible refine Kd.C_drew ?_))); (case side2 => exact HC0.out); rintro e w3 ⟨v103, rfl, ho0, hb⟩; refine ⟨_, rfl, ?_⟩; have n0_ := Aside0.mk (Kd.R_lower ho0 (below_size (by repeat (first | (with_reducible first | exact HB.out | apply below_alloc | apply pw_below_drewN | apply below_drew1) | exact HB.out)))); have n1_ := Aside0.mk (below_step (by repeat (first | (with_reducible first | exact HB.out | apply below_alloc | apply pw_below_drewN | apply below_drew1) | exact HB.out)) hb); clear HB; have HO104 := n0_; have HB := n1_; clear n0_ n1_; (try clear hb); (try clear hb2); (try clear hk); (try clear hi); (try clear ho0)))
 go_ret2
 exact ⟨_, by first | rfl | (simp [errW_none, errW_some] <;> rfl) | (simp [*, errW_none, errW_some] <;> rfl), by (with_reducible repeat (first | apply Kd.R_alloc | apply Kd.R_drewN | apply Kd.R_drew)); exact HO104.out, by repeat (first | (with_reducible first | exact HB.out | apply below_alloc | apply pw_below_drewN | apply below_drew1) | exact HB.out)⟩
end Go.Proofs.Ytldcckcljjlglaa.P

namespace Go.Proofs.Ytldcckcljjlglaa.P
open Go.RowKit Go.Proofs.YtldcckcljjlglaaW.PrintWords Go.Proofs.YtldcckcljjlglaaW.PrintLast Go.Proofs.YtldcckcljjlglaaW.PrintMore
attribute [local go_sem] max2_int min2_int max_two min_two max_three min_three max_four min_four   -- for this text's walks alone
set_option linter.unusedVariables false
set_option linter.unusedSimpArgs false
/-! ### impl_Line_120: function 120 -/
def impl_Line_120.f (l0 : List S40) (a1 a2 : Int) : Option (List S40) := if 0 ≤ a1 ∧ a2 = a1 + 1 ∧ a2 ≤ l0.length then some (l0.eraseIdx a1.toNat) else none
theorem pw_R_tail {α : Type} {d : Kd α} {e base g n c j : Nat} {w : World} {ok : Nat → Prop} {xs : List α} (h : d.R e w base ok (.slice (some ⟨g, 0, none⟩) n c) xs) (hj : n * d.sz ≤ j) (u : Value) : d.R e (w.setCell ⟨g, j, none⟩ u) base ok (.slice (some ⟨g, 0, none⟩) n c) xs := by
 obtain ⟨hn, _, _⟩ := Kd.R_reads' h
 subst hn
 obtain ⟨hok, inner, ho, hr⟩ := h
 refine ⟨hok, inner, ?_, hr.imp_ (fun x cs hp => Kd.M_far (p := ⟨g, j, none⟩) hp (fun k hk he => hk.2 (by rw [he]; rfl)) u)⟩
 rcases ho with ⟨h1, ⟨hv, _⟩ | ⟨g', cap, cur, hv, hb, hh, h2, h3, h4, h5⟩⟩
 ·cases hv
 ·obtain ⟨rfl, rfl⟩ : g = g' ∧ c = cap := by
   injection hv with ha _ hc
   injection ha with ha
   injection ha with ha
   exact ⟨ha, hc⟩
  refine ⟨h1, .inr ⟨g, c, _, rfl, hb, blk_set hh j u, h2, h3, by rw [Array.size_setIfInBounds]; exact h4, ?_⟩⟩
  rw [Array.toList_setIfInBounds, List.take_set_of_le hj]
  exact h5
theorem pw_run_clear_one {P : Program} (w : World) (t e ty : TypeId) (z : Value) (cs : List Value) (ht : P.underlying t = some (.slice e)) (hv : ∀ w, (zeroValue e).run P w = .ok z w) (hz : z.cells.toList = cs) (h1 : ∀ v ∈ cs, v.oneCell' = true) (b o c : Nat)
  (hc : ∀ j, j < cs.length → (w.cell? ⟨b, o + j, none⟩).isSome = true) (hf : ∀ j, j < cs.length → w.frozen? ⟨b, o + j, none⟩ = false) :
  (Builtin.clear_ #[t] ty #[.slice (some ⟨b, o, none⟩) 1 c]).run P w = .ok (.tuple #[]) (w.setCells b o cs) := by
 have hzc : (Builtin.zeroCells z.cells 1).toList = cs := by
  rw [← hz]
  apply List.ext_getElem
  ·simp [Builtin.zeroCells]
  ·intro i h1 h2
   simp at h2
   simp [Builtin.zeroCells, Nat.mod_eq_of_lt h2, getElem!_pos, h2]
 have hst := run_storeCells_cells (P := P) b o cs 0 w (by simpa using hc) (by simpa using hf) h1
 simp only [Nat.add_zero] at hst
 simp [Builtin.clear_, run_underlying ht, hv, hzc, hst]
def impl_Line_120.T5 : Bool × List (List Nat × List Nat) := (true, [([], []), ([], []), ([0, 1], [0, 1]), ([], []), ([], []), ([3, 4], [3, 4]), ([2, 5], [2, 5]), ([6, 6, 0, 1, 2, 3, 4, 5, 6], [0, 3, 6])])
theorem impl_Line_120.tab5 : rtab .any (opsOf Try.f120 5) = impl_Line_120.T5 := by kernel_rfl
set_option maxHeartbeats 4000000 in
set_option maxRecDepth 100000 in
theorem impl_Line_120.calls (P0_ : Nat → Prop) (u9000_ : Value) (l0 : List S40) (a1 a2 : Int) (r : List S40) (w0 w : World) (hB : Below w0.heap.size w0 w) (ho0 : Kd.R k40 40 w w0.heap.size P0_ u9000_ l0) (h : impl_Line_120.f l0 a1 a2 = some r) :
  Calls Try.prog 120 #[u9000_, .int .i64 a1, .int .i64 a2] w fun e w' => ∃ v0_ : Value, e = .returned (v0_) ∧ Kd.R k40 40 w' w0.heap.size (fun k_ => (P0_ k_ ∨ w.heap.size ≤ k_)) v0_ r ∧ Below w0.heap.size w0 w' ∧ Kept w w' (fun k_ => P0_ k_) := by
 unfold impl_Line_120.f at h
 by_cases hlim : 0 ≤ a1 ∧ a2 = a1 + 1 ∧ a2 ≤ l0.length
 case neg => rw [if_neg hlim] at h; cases h
 rw [if_pos hlim] at h
 obtain rfl := Option.some.inj h
 obtain ⟨h0, h1, h2⟩ := hlim
 obtain ⟨g, cap, hu, hgb, hgl, cells, hg⟩ := Kd.R_form ho0 (by omega)
 subst hu
 obtain ⟨_, hcap, _⟩ := Kd.R_reads' ho0
 have hgP : P0_ g := ho0.1 g rfl
 obtain ⟨n0, hn0⟩ : ∃ n : Nat, n = l0.length := ⟨_, rfl⟩
 rw [← hn0] at h2 hcap ho0 ⊢
 have hsz : ∃ i, Try.prog.info? 40 = some i ∧ i.size = 3 := by
  obtain ⟨i, hi, he⟩ := Option.map_eq_some_iff.1 info40
  simp only [Prod.mk.injEq] at he
  exact ⟨i, hi, he.2.1⟩
 obtain ⟨inf, hinf, hinfs⟩ := hsz
 have hel : Try.prog.elem 25 = 40 := by simp [Program.elem, Try.underlying25]
 have hu : Try.prog.underlying 25 = some (.slice (Try.prog.elem 25)) := by rw [hel]; exact Try.underlying25
 have hcut1 : ∀ W : World, (Instr.slice 25 (.slice (some ⟨g, 0, none⟩) n0 cap) (some (.int .i64 a1)) (some (.int .i64 a2)) (some (.int .i64 (n0 : Int)))).run Try.prog W = .ok (sliced (some ⟨g, 0, none⟩) a1.toNat a2.toNat n0 3) W := by
  intro W
  rw [run_slice_lhm W 25 _ n0 cap hu .i64 .i64 .i64 a1 a2 n0 h0 (by omega) (by omega) (by omega), hel]
  simp [sizeOf, typeInfo, hinf, hinfs, Result.andThen]
 have hcut2 := cut_to (P := Try.prog) 25 40 .i64 Try.underlying25 hinf (some ⟨g, 0, none⟩) n0 cap a1 h0 (by omega) hcap
 have hcut5 := cut_from (P := Try.prog) 25 40 .i64 Try.underlying25 hinf 3 hinfs (some ⟨g, 0, none⟩) n0 cap a2 (by omega) h2
 obtain ⟨A5, hA5⟩ : ∃ A, A = (if cap = a2.toNat then (some ⟨g, 0, none⟩ : Option Addr) else (some (⟨g, 0, none⟩ : Addr)).map (·.add (a2.toNat * 3))) := ⟨_, rfl⟩
 obtain ⟨m5, hm5⟩ : ∃ m, m = n0 - a2.toNat := ⟨_, rfl⟩
 obtain ⟨c5, hc5⟩ : ∃ c, c = cap - a2.toNat := ⟨_, rfl⟩
 obtain ⟨i0, hi0⟩ : ∃ i, i = a1.toNat := ⟨_, rfl⟩
 obtain ⟨n1, hn1⟩ : ∃ n, n = n0 - 1 := ⟨_, rfl⟩
 obtain ⟨cut1, hcc1⟩ : ∃ v, v = sliced (some ⟨g, 0, none⟩) a1.toNat a2.toNat n0 3 := ⟨_, rfl⟩
 rw [← hA5, ← hm5, ← hc5] at hcut5
 rw [← hi0] at hcut2
 rw [← hcc1] at hcut1
 have hcut6 : ∀ W : World, (Instr.slice 25 (.slice (some ⟨g, 0, none⟩) n1 cap) (some (.int .i64 (n1 : Int))) (some (.int .i64 (n0 : Int))) none).run Try.prog W = .ok (.slice (some ⟨g, n1 * 3, none⟩) 1 (cap - n1)) W := by
  intro W
  rw [run_slice_lh W 25 _ n1 cap hu .i64 .i64 n1 n0 (by omega) (by omega) (by omega), hel]
  have e1 : n0 - n1 = 1 := by omega
  have e2 : cap ≠ n1 := by omega
  simp [sizeOf, typeInfo, hinf, hinfs, Result.andThen, sliced, e1, e2, add_plain]
 have HI := Aside0.mk (show a1.toNat = i0 ∧ a2.toNat = i0 + 1 ∧ i0 < n0 ∧ n1 = n0 - 1 ∧ n0 ≤ cap from ⟨hi0.symm, by omega, by omega, hn1, hcap⟩)
 have HA5 := Aside0.mk hA5
 have HM5 := Aside0.mk hm5
 have HO := Aside0.mk ho0
 have HB := Aside0.mk hB
 have HGP := Aside0.mk hgP
 have HGB := Aside0.mk hgb
 have HN0 := Aside0.mk hn0
 have HK := Aside0.mk (Kept.refl w P0_)
 have q1 : (a1 == a2) = false := beq_eq_false_iff_ne.2 (by omega)
 clear hA5 hm5 hc5 hi0 hn1 hcc1 h h0 h1 h2 hcap ho0 hB hgP hgb hgl hg hn0 hel hu hinf hinfs
 go_enter Try.func120, Try.ntmps120
 go_wp2_with fail
 refine start_ (n := 8) (S := fun _ => True) (ds := []) (bm 8 0) (by kernel_rfl) rfl rfl trivial (fun hHeld => ?_); refine with_tab impl_Line_120.tab5 (fun HT_ => ?_)
 have HO := Aside0.mk (Kd.R_drew HO.out)
 have HB := Aside0.mk (below_drew1 HB.out)
 have HK := Aside0.mk (Kept.drew HK.out)
 generalize w.drew = w26 at HO HB HK ⊢
 refine plan_ ((0, 0, 20, 1) :: (0, 1, 21, 3) :: (0, 2, 22, 7) :: (0, 3, 23, 15) :: (0, 4, 24, 31) :: (0, 5, 25, 63) :: []) ?_
 iterate 6 (refine planV_ ?_ ?_ rfl rfl (any_of HT_.out (by kernel_rfl)) (fun _ _ _ h => h) (Or.inl ⟨by rfl, ?_⟩) ?_ ?_; rotate_left 2; (· intro w'; go_simp; with_reducible rfl); (· simp only [Act.put, List.setIfInBounds_toArray, List.set_cons_zero, List.set_cons_succ, i64_w, i32_w]; rfl))
 refine planEnd_ ?_
 refine one_ (i := 6) (N := some 26) (bm 8 127) rfl rfl (one_of HT_.out (by kernel_rfl)) (by decide) (fun K hK => ?_)
 refine Kd.R_delete_step k40 (w0 := w0) w0.heap.size (by rfl) (.tmp 22) (.tmp 25) 25 40 rfl Try.underlying25 (by kernel_rfl) (g := g) (n := n0) (c := cap) (k := i0) (m := m5) (c2 := c5) (A := A5) (xs := l0) (ok := P0_) rfl rfl ?hA ?hm HO.out HI.out.2.2.1 HB.out (below_size HB.out) ?_
 case hA => rw [HA5.out, HI.out.2.1]; rfl
 case hm => rw [HM5.out, HI.out.2.1]
 intro w1 hR hB1 hG
 rw [show n0 - 1 = n1 from HI.out.2.2.2.1.symm] at hR ⊢
 have HO1 := Aside0.mk hR
 have HB1 := Aside0.mk hB1
 have HK1 := Aside0.mk (Kept.of_grown hG HK.out (fun k_ e_ => .inl (by injection e_ with e_; rw [← e_]; exact HGP.out)))
 have HCL : (Builtin.clear_ #[25] 0 #[.slice (some ⟨g, n1 * 3, none⟩) 1 (cap - n1)]).run Try.prog w1 = .ok (.tuple #[]) (w1.setCells g (n1 * 3) [.int .i64 0, .int .i64 0, .int .i64 0]) := by
  obtain ⟨inner, ho, _⟩ := hR.2
  rcases ho.2 with ⟨hv, _⟩ | ⟨g', cap', cur, hv, _, hh, _, _, hcs, _⟩
  ·cases hv
  ·obtain ⟨rfl, rfl⟩ : g = g' ∧ cap = cap' := by
    injection hv with ha _ hc
    injection ha with ha
    injection ha with ha
    exact ⟨ha, hc⟩
   have hI := HI.out
   refine pw_run_clear_one w1 25 40 0 (.agg #[.int .i64 0, .int .i64 0, .int .i64 0]) [.int .i64 0, .int .i64 0, .int .i64 0] Try.underlying25 Try.zeroValue40 rfl (by intro v hv; simp at hv; subst hv; rfl) g (n1 * 3) (cap - n1) (fun j hj => ?_) (fun j hj => blk_frozen hh _)
   rw [blk_cell hh]
   have hj3 : j < 3 := hj
   have hcs3 : cur.size = cap * 3 := hcs
   rw [Array.getElem?_eq_getElem (by omega)]
   rfl
 refine hK.out _ _ trivial (fun hHeld => ?_)
 clear hK K hR hB1 hG HO HB HK hcut1 hcut2 hcut5
 refine norm_ (a' := ?_) ?_ ?_
 rotate_left
 ·show Act.put _ (some 26) _ = _
  simp only [Act.put, List.setIfInBounds_toArray, List.set_cons_zero, List.set_cons_succ, i64_w, i32_w]
  rfl
 refine plan_ ((0, 7, 0, 255) :: []) ?_
 iterate 1 (refine planV_ ?_ ?_ rfl rfl (any_of HT_.out (by kernel_rfl)) (fun _ _ _ h => h) (Or.inl ⟨by rfl, ?_⟩) ?_ ?_; rotate_left 2; (· intro w'; go_simp; with_reducible rfl); (· simp only [Act.put, List.setIfInBounds_toArray, List.set_cons_zero, List.set_cons_succ, i64_w, i32_w]; rfl))
 refine planEnd_ ?_
 refine done_ (done_of HT_.out (by kernel_rfl)) ?_
 clear HT_ hHeld
 go_wp2
 go_ret
 simp only [World.setCells]
 rw [HI.out.1]
 exact ⟨_, rfl, Kd.R_mono (pw_R_tail (pw_R_tail (pw_R_tail HO1.out (show n1 * 3 ≤ n1 * 3 from Nat.le_refl _) _) (show n1 * 3 ≤ n1 * 3 + 1 by omega) _) (show n1 * 3 ≤ n1 * 3 + 1 + 1 by omega) _) (fun k_ hk_ => .inl hk_), below_set (below_set (below_set HB1.out HGB.out) HGB.out) HGB.out, Kept.setCell (p := ⟨g, n1 * 3 + 1 + 1, none⟩) (Kept.setCell (p := ⟨g, n1 * 3 + 1, none⟩) (Kept.setCell (p := ⟨g, n1 * 3, none⟩) HK1.out (.inl HGP.out) _) (.inl HGP.out) _) (.inl HGP.out) _⟩
end Go.Proofs.Ytldcckcljjlglaa.P

namespace Go.Proofs.Ytldcckcljjlglaa.P
open Go.RowKit Go.Proofs.YtldcckcljjlglaaW.PrintWords Go.Proofs.YtldcckcljjlglaaW.PrintLast Go.Proofs.YtldcckcljjlglaaW.PrintMore
attribute [local go_sem] max2_int min2_int max_two min_two max_three min_three max_four min_four   -- for this text's walks alone
set_option linter.unusedVariables false
set_option linter.unusedSimpArgs false
/-! ### impl_Line_121: function 121 -/
def impl_Line_121.f (l0 : List S40) : Option (List S40) := if l0.length < 1000000 then some l0 else none
set_option maxHeartbeats 1000000 in
set_option maxRecDepth 100000 in
theorem impl_Line_121.calls (A0 : Option Addr) (c0 : Nat) (l0 : List S40) (r : List S40) (w : World) (hr0 : Kd.C k40 w A0 l0.length l0) (hc0 : l0.length ≤ c0) (h : impl_Line_121.f l0 = some r) :
  Calls Try.prog 121 #[.slice A0 l0.length c0] w fun e w' => ∃ v0_ : Value, e = .returned (v0_) ∧ Kd.R k40 40 w' w.heap.size (fun _ => True) v0_ r ∧ Below w.heap.size w w' := by
 unfold impl_Line_121.f at h
 by_cases hlim : l0.length < 1000000
 case neg => rw [if_neg hlim] at h; cases h
 rw [if_pos hlim] at h
 obtain rfl := Option.some.inj h
 have HB := Aside0.mk (Below.refl w.heap.size w)
 have HQ := Lib.run_eql_slice_nil w 25 40 A0 l0.length c0 0 0 Try.underlying25
 have HL := Aside0.mk hlim
 clear h hlim
 cases A0 with
 | none =>
  have hl : l0 = [] := by
   rcases Nat.eq_zero_or_pos l0.length with h0 | h0
   ·exact List.eq_nil_of_length_eq_zero h0
   ·obtain ⟨_, e, _⟩ := hr0.2.2 h0
    cases e
  subst hl
  simp only [List.length_nil] at HQ ⊢
  clear hr0 hc0
  go_enter Try.func121, Try.ntmps121
  go_wp2
  go_ret
  exact ⟨_, rfl, Kd.R_nil _ _ _ _ _, HB.out⟩
 | some ad =>
  have HR := Aside0.mk hr0
  clear hr0 hc0
  go_enter Try.func121, Try.ntmps121
  go_wp2_with (first | ((with_reducible refine gate_dst (N := 5) rfl ?_); refine Kd.R_lit k40 _ 40 ?hg (N := 5) ?hd (xs := ([] : List S40)) (inner := []) (ok := fun _ => True) (okp := fun _ => True) ?hr ?hp (fun _ hk => hk) trivial (Below.refl _ _) (Nat.le_refl _) (by simp) ?_; (case hd => rfl); (case hg => rfl); (case hr => first | (go_simp; done) | (go_simp; rfl)); (case hp => exact (Reps.none _ _)); intro v1 w1 ho hb hg_ hnew_; clear hg_ hnew_; have m0_ := Aside0.mk hb; have m1_ := Aside0.mk ho; have m2_ := Aside0.mk (Kd.C_below HR.out hb); clear HB HR ho hb HQ; have HB := m0_; have HO1 := m1_; have HR := m2_; clear m0_ m1_ m2_) | ((with_reducible refine gate_builtin (b := .append) (xs := #[.tmp 5, .tmp 6]) rfl ?_); at_builtin; refine Kd.R_append_rows k40 (w0 := w) w.heap.size rfl (.tmp 5) (.tmp 6) 25 40 (.agg #[(.int .i64 0), (.int .i64 0), (.int .i64 0)]) 24 rfl Try.underlying25 info40 rfl (by decide) (by omega) v1 [] l0 (some ad) l0.length c0 (fun _ => True) (fun _ => False) rfl rfl HO1.out HR.out (fun _ _ h => h) (fun _ h => h.elim) (fun _ _ => trivial) HB.out (below_size HB.out) (by have := HL.out; simp only [List.length_nil]; omega) ?_; intro v2 w2 ho hb hg hat; have m0_ := Aside0.mk hb; have m1_ := Aside0.mk ho; clear HB HO1 HR ho hb hg hat; have HB := m0_; have HO2 := m1_; clear m0_ m1_))
  go_ret
  exact ⟨_, rfl, HO2.out, HB.out⟩
end Go.Proofs.Ytldcckcljjlglaa.P

namespace Go.Proofs.Ytldcckcljjlglaa.P
open Go.RowKit Go.Proofs.YtldcckcljjlglaaW.PrintWords Go.Proofs.YtldcckcljjlglaaW.PrintLast Go.Proofs.YtldcckcljjlglaaW.PrintMore
attribute [local go_sem] max2_int min2_int max_two min_two max_three min_three max_four min_four   -- for this text's walks alone
set_option linter.unusedVariables false
set_option linter.unusedSimpArgs false
/-! ### impl_WithoutLine: function 57 -/
def impl_WithoutLine.j0 : Nat → List (S40) → Int → Bool → Option ((List (S40)) × Bool)
 | 0, _, _, _ => none
 | k + 1, x0, x1, x20 => if x20 = true then (some (([] : List (S40)), false)) else ((impl_Line_121.f x0).bind fun t103 => ((impl_Line_120.f t103 x1 (wrap64 (x1 + 1))).bind fun t106 => (some (t106, true))))
def impl_WithoutLine.f (k : Nat) (l0 : List (S40)) (a1 : Int) : Option ((List (S40)) × Bool) := (impl_AreLines.f l0).bind fun t101 => (if t101 = true then (if (l0.length : Int) = 1 then (impl_WithoutLine.j0 k l0 a1 true) else ((impl_isElement.f (l0.length : Int) a1).bind fun t102 => (impl_WithoutLine.j0 k l0 a1 (!t102)))) else (impl_WithoutLine.j0 k l0 a1 true))
set_option maxHeartbeats 8000000 in
set_option maxRecDepth 100000 in
theorem impl_WithoutLine.calls (k : Nat) (A0 : Option Addr) (c0 : Nat) (l0 : List (S40)) (a1 : Int) (r1 : List (S40)) (r2 : Bool) (w : World) (hr0 : Kd.C k40 w A0 l0.length l0) (hc0 : l0.length ≤ c0) (h : impl_WithoutLine.f k l0 a1 = some (r1, r2)) :
  Calls Try.prog 57 #[.slice A0 l0.length c0, .int .i64 a1] w fun e w' => ∃ v0_ : Value, e = .returned (.tuple #[v0_, .bool r2]) ∧ Kd.R k40 40 w' w.heap.size (fun _ => True) v0_ r1 ∧ Below w.heap.size w w' := by
 have HR0 := Aside0.mk hr0
 have HC0 := Aside0.mk hc0
 clear hr0 hc0
 have HB := Aside0.mk (Below.refl w.heap.size w)
 have H : ((impl_AreLines.f l0).bind fun t101 => (if t101 = true then (if (l0.length : Int) = 1 then (impl_WithoutLine.j0 k l0 a1 true) else ((impl_isElement.f (l0.length : Int) a1).bind fun t102 => (impl_WithoutLine.j0 k l0 a1 (!t102)))) else (impl_WithoutLine.j0 k l0 a1 true))) = some (r1, r2) := h
 clear h
 have HC3 := Aside0.mk H
 clear H
 go_enter Try.func57, Try.ntmps57
 go_upto_region 1 with (fail)
 go_cut [20] (fun v20 wc => ∃ (kq : Nat) (x20_2 : Bool), v20 = .bool x20_2 ∧ Aside0 (impl_WithoutLine.j0 kq l0 a1 x20_2 = some (r1, r2)) ∧ Aside0 (kq ≤ k) ∧ Aside0 (Below w.heap.size w wc))
 case first =>
  have H := HC3.out
  clear HC3
  replace H := Option.bind_eq_some_iff.mp H
  obtain ⟨t101, A40, H⟩ := H
  replace H : (if t101 = true then (if (l0.length : Int) = 1 then (impl_WithoutLine.j0 k l0 a1 true) else ((impl_isElement.f (l0.length : Int) a1).bind fun t102 => (impl_WithoutLine.j0 k l0 a1 (!t102)))) else (impl_WithoutLine.j0 k l0 a1 true)) = some (r1, r2) := H
  have A4 := Aside0.mk A40
  clear A40
  by_cases c5 : t101 = true
  ·subst c5
   have H1 : (if (l0.length : Int) = 1 then (impl_WithoutLine.j0 k l0 a1 true) else ((impl_isElement.f (l0.length : Int) a1).bind fun t102 => (impl_WithoutLine.j0 k l0 a1 (!t102)))) = some (r1, r2) := by rw [if_pos rfl] at H; exact H
   clear H
   have H := H1
   clear H1
   by_cases c6 : (l0.length : Int) = 1
   ·rw [if_pos c6] at H
    have c6b0 : ((l0.length : Int) == 1) = true := beq_iff_eq.mpr c6
    have c6b1 : ((l0.length : Int) != 1) = false := bne_eq_false_iff_eq.mpr c6
    clear c6
    (first | rw [c6b0] | (simp only [i64_w, i32_w]; rw [c6b0]) | skip)
    have H' := Aside0.mk H
    clear H
    go_wp2_with (first | ((with_reducible refine gate_callee (f := 52) rfl ?_); refine goesL_ (some 7) rfl rfl Try.func52 (by kernel_rfl) rfl #[.slice A0 l0.length c0] rfl (by (try simp only [List.map_toArray, List.map_cons, List.map_nil]); first | done | rfl | (simp only [List.length_drop, List.length_take]; rfl)) ?_; (with_reducible refine (impl_AreLines.calls _ _ l0 true _ ?side1 ?side2 A4.out).mono ?_); (case side1 => repeat (first | exact (Kd.C_below HR0.out HB.out) | (with_reducible refine Kd.C_alloc ?_ _) | (with_reducible refine Kd.C_drewN ?_ _) | (with_reducible refine Kd.C_drew ?_))); (case side2 => exact HC0.out); rintro e w7 ⟨rfl, hb⟩; refine ⟨_, rfl, ?_⟩; have n0_ := Aside0.mk (below_step (by repeat (first | (with_reducible first | exact HB.out | apply below_alloc | apply pw_below_drewN | apply below_drew1) | exact HB.out)) hb); clear HB; have HB := n0_; clear n0_; (try clear hb); (try clear hb2); (try clear hk); (try clear hi)))
    go_meet
    case rel => exact ⟨_, (true), (by first | rfl | (simp; done) | (simp [*]; done)), H', ⟨by first | omega | exact Nat.le_refl _⟩, ⟨by repeat (first | (with_reducible first | exact HB.out | apply below_alloc | apply pw_below_drewN | apply below_drew1) | exact HB.out)⟩⟩
   ·rw [if_neg c6] at H
    have c6b0 : ((l0.length : Int) == 1) = false := beq_eq_false_iff_ne.mpr c6
    have c6b1 : ((l0.length : Int) != 1) = true := bne_iff_ne.mpr c6
    (first | rw [c6b0] | (simp only [i64_w, i32_w]; rw [c6b0]) | skip)
    replace H := Option.bind_eq_some_iff.mp H
    obtain ⟨t102, A80, H⟩ := H
    replace H : (impl_WithoutLine.j0 k l0 a1 (!t102)) = some (r1, r2) := H
    have A8 := Aside0.mk A80
    clear A80
    have H' := Aside0.mk H
    clear H
    go_wp2_with (first | ((with_reducible refine gate_callee (f := 52) rfl ?_); refine goesL_ (some 7) rfl rfl Try.func52 (by kernel_rfl) rfl #[.slice A0 l0.length c0] rfl (by (try simp only [List.map_toArray, List.map_cons, List.map_nil]); first | done | rfl | (simp only [List.length_drop, List.length_take]; rfl)) ?_; (with_reducible refine (impl_AreLines.calls _ _ l0 true _ ?side1 ?side2 A4.out).mono ?_); (case side1 => repeat (first | exact (Kd.C_below HR0.out HB.out) | (with_reducible refine Kd.C_alloc ?_ _) | (with_reducible refine Kd.C_drewN ?_ _) | (with_reducible refine Kd.C_drew ?_))); (case side2 => exact HC0.out); rintro e w9 ⟨rfl, hb⟩; refine ⟨_, rfl, ?_⟩; have n0_ := Aside0.mk (below_step (by repeat (first | (with_reducible first | exact HB.out | apply below_alloc | apply pw_below_drewN | apply below_drew1) | exact HB.out)) hb); clear HB; have HB := n0_; clear n0_; (try clear hb); (try clear hb2); (try clear hk); (try clear hi)) | (go_at_call 93; (with_reducible refine (impl_isElement.calls (l0.length : Int) a1 t102 _ A8.out).mono ?_); rintro e w' ⟨rfl, ⟨nd, rfl⟩⟩))
    go_meet
    case rel => exact ⟨_, (!t102), (by first | rfl | (simp; done) | (simp [*]; done)), H', ⟨by first | omega | exact Nat.le_refl _⟩, ⟨by repeat (first | (with_reducible first | exact HB.out | apply below_alloc | apply pw_below_drewN | apply below_drew1) | exact HB.out)⟩⟩
  ·replace c5 := Bool.eq_false_iff.mpr c5
   subst c5
   have H1 : (impl_WithoutLine.j0 k l0 a1 true) = some (r1, r2) := by rw [if_neg (show ¬ (false = true) by decide)] at H; exact H
   clear H
   have H := H1
   clear H1
   have H' := Aside0.mk H
   clear H
   go_wp2_with (first | ((with_reducible refine gate_callee (f := 52) rfl ?_); refine goesL_ (some 7) rfl rfl Try.func52 (by kernel_rfl) rfl #[.slice A0 l0.length c0] rfl (by (try simp only [List.map_toArray, List.map_cons, List.map_nil]); first | done | rfl | (simp only [List.length_drop, List.length_take]; rfl)) ?_; (with_reducible refine (impl_AreLines.calls _ _ l0 false _ ?side1 ?side2 A4.out).mono ?_); (case side1 => repeat (first | exact (Kd.C_below HR0.out HB.out) | (with_reducible refine Kd.C_alloc ?_ _) | (with_reducible refine Kd.C_drewN ?_ _) | (with_reducible refine Kd.C_drew ?_))); (case side2 => exact HC0.out); rintro e w10 ⟨rfl, hb⟩; refine ⟨_, rfl, ?_⟩; have n0_ := Aside0.mk (below_step (by repeat (first | (with_reducible first | exact HB.out | apply below_alloc | apply pw_below_drewN | apply below_drew1) | exact HB.out)) hb); clear HB; have HB := n0_; clear n0_; (try clear hb); (try clear hb2); (try clear hk); (try clear hi)))
   go_meet
   case rel => exact ⟨_, (true), (by first | rfl | (simp; done) | (simp [*]; done)), H', ⟨by first | omega | exact Nat.le_refl _⟩, ⟨by repeat (first | (with_reducible first | exact HB.out | apply below_alloc | apply pw_below_drewN | apply below_drew1) | exact HB.out)⟩⟩
 case rest =>
  clear HC3
  try clear c5
  try clear c6
  try clear c6b0
  try clear c6b1
  obtain ⟨kq, x20_2, rfl, HA, HJ2, HB⟩ := hcut
  cases kq with
  | zero => exact absurd HA.out (by simp [impl_WithoutLine.j0])
  | succ kj2 =>
   have H := HA.out
   clear HA
   simp only [impl_WithoutLine.j0] at H
   by_cases c11 : x20_2 = true
   ·subst c11
    have H1 : (some (([] : List (S40)), false)) = some (r1, r2) := by rw [if_pos rfl] at H; exact H
    clear H
    have H := H1
    clear H1
    simp only [Option.some.injEq, Prod.mk.injEq] at H
    obtain ⟨rfl, rfl⟩ := H
    go_wp2
    go_ret2
    exact ⟨_, by first | rfl | (simp [errW_none, errW_some] <;> rfl) | (simp [*, errW_none, errW_some] <;> rfl), by first | exact Kd.R_nil _ _ _ _ _ | exact Kd.N_nil _ _ _ _ _ | exact Kd.V_nil _ _ _ _ _ | exact Kd.Q_nil _ _ _ _ _ | exact Kd.S_nil _ _ _ _ _, by repeat (first | (with_reducible first | exact HB.out | apply below_alloc | apply pw_below_drewN | apply below_drew1) | exact HB.out)⟩
   ·replace c11 := Bool.eq_false_iff.mpr c11
    subst c11
    have H1 : ((impl_Line_121.f l0).bind fun t103 => ((impl_Line_120.f t103 a1 (wrap64 (a1 + 1))).bind fun t106 => (some (t106, true)))) = some (r1, r2) := by rw [if_neg (show ¬ (false = true) by decide)] at H; exact H
    clear H
    have H := H1
    clear H1
    replace H := Option.bind_eq_some_iff.mp H
    obtain ⟨t103, A120, H⟩ := H
    replace H : ((impl_Line_120.f t103 a1 (wrap64 (a1 + 1))).bind fun t106 => (some (t106, true))) = some (r1, r2) := H
    have A12 := Aside0.mk A120
    clear A120
    replace H := Option.bind_eq_some_iff.mp H
    obtain ⟨t106, A130, H⟩ := H
    replace H : (some (t106, true)) = some (r1, r2) := H
    have A13 := Aside0.mk A130
    clear A130
    simp only [Option.some.injEq, Prod.mk.injEq] at H
    obtain ⟨rfl, rfl⟩ := H
    go_wp2_with (first | ((with_reducible refine gate_callee (f := 121) rfl ?_); refine goesL_ (some 22) rfl rfl Try.func121 (by kernel_rfl) rfl #[.slice A0 l0.length c0] rfl (by (try simp only [List.map_toArray, List.map_cons, List.map_nil]); first | done | rfl | (simp only [List.length_drop, List.length_take]; rfl)) ?_; (with_reducible refine (impl_Line_121.calls _ _ l0 t103 _ ?side1 ?side2 A12.out).mono ?_); (case side1 => repeat (first | exact (Kd.C_below HR0.out HB.out) | (with_reducible refine Kd.C_alloc ?_ _) | (with_reducible refine Kd.C_drewN ?_ _) | (with_reducible refine Kd.C_drew ?_))); (case side2 => exact HC0.out); rintro e w14 ⟨v104, rfl, ho0, hb⟩; refine ⟨_, rfl, ?_⟩; have n0_ := Aside0.mk (Kd.R_lower ho0 (below_size (by repeat (first | (with_reducible first | exact HB.out | apply below_alloc | apply pw_below_drewN | apply below_drew1) | exact HB.out)))); have n1_ := Aside0.mk (below_step (by repeat (first | (with_reducible first | exact HB.out | apply below_alloc | apply pw_below_drewN | apply below_drew1) | exact HB.out)) hb); clear HB; have HO105 := n0_; have HB := n1_; clear n0_ n1_; (try clear hb); (try clear hb2); (try clear hk); (try clear hi); (try clear ho0); obtain ⟨Ao15, co15, eo15⟩ := Kd.R_slice HO105.out; subst eo15) | ((with_reducible refine gate_callee (f := 120) rfl ?_); refine goesL_ (some 26) rfl rfl Try.func120 (by kernel_rfl) rfl #[.slice Ao15 t103.length co15, .int .i64 a1, .int .i64 (wrap64 (a1 + 1))] rfl (by (try simp only [List.map_toArray, List.map_cons, List.map_nil]); first | done | rfl | (simp only [List.length_drop, List.length_take]; rfl)) ?_; (with_reducible refine (impl_Line_120.calls (fun k_ => some k_ = (.slice Ao15 t103.length co15 : Value).ownBlock) (.slice Ao15 t103.length co15) t103 a1 (wrap64 (a1 + 1)) t106 w _ ?side1 ?side2 A13.out).mono ?_); (case side1 => repeat (first | (with_reducible first | exact HB.out | apply below_alloc | apply pw_below_drewN | apply below_drew1) | exact HB.out)); (case side2 => exact Kd.R_tight rfl HO105.out); rintro e w16 ⟨v107, rfl, ho0, hb, hkp⟩; refine ⟨_, rfl, ?_⟩; have n0_ := Aside0.mk (Kd.R_mono (ok' := fun k_ => True) ho0 (fun k_ hk_ => trivial)); have n1_ := Aside0.mk (hb); clear HB; clear HO105; have HO108 := n0_; have HB := n1_; clear n0_ n1_; (try clear hb); (try clear hkp); (try clear ho0)))
    go_ret2
    exact ⟨_, by first | rfl | (simp [errW_none, errW_some] <;> rfl) | (simp [*, errW_none, errW_some] <;> rfl), by (with_reducible repeat (first | apply Kd.R_alloc | apply Kd.R_drewN | apply Kd.R_drew)); exact HO108.out, by repeat (first | (with_reducible first | exact HB.out | apply below_alloc | apply pw_below_drewN | apply below_drew1) | exact HB.out)⟩
end Go.Proofs.Ytldcckcljjlglaa.P

namespace Go.Proofs.Ytldcckcljjlglaa.P
open Go.RowKit Go.Proofs.YtldcckcljjlglaaW.PrintWords Go.Proofs.YtldcckcljjlglaaW.PrintLast Go.Proofs.YtldcckcljjlglaaW.PrintMore
attribute [local go_sem] max2_int min2_int max_two min_two max_three min_three max_four min_four   -- for this text's walks alone
set_option linter.unusedVariables false
set_option linter.unusedSimpArgs false
/-! ### spec_WithoutLine: function 58 -/
def spec_WithoutLine.f (k : Nat) (l0 : List (S40)) (a1 : Int) : Option ((List (S40)) × Bool) := (spec_AreLines.f k l0).bind fun t101 => (if t101 = true then (if (l0.length : Int) = 1 then (some ((([] : List (S40))), false)) else ((spec_l1In.f a1 0 (wrap64 ((l0.length : Int) - 1))).bind fun t105 => (if t105 = true then ((some (([] : List (S40)) : List (S40))).bind fun y106 => (if 0 ≤ a1 then (if a1 ≤ (l0.length : Int) then ((some (l0.take (a1 : Int).toNat : List (S40))).bind fun y109 => (if y106.length + y109.length < 5864062014805 then ((some (y106 ++ y109 : List (S40))).bind fun y113 => (if 0 ≤ (wrap64 (a1 + 1)) then (if (wrap64 (a1 + 1)) ≤ (l0.length : Int) then ((some (l0.drop ((wrap64 (a1 + 1)) : Int).toNat : List (S40))).bind fun y116 => (if y113.length + y116.length < 5864062014805 then (some ((y113 ++ y116), true)) else (none))) else (none)) else (none))) else (none))) else (none)) else (none))) else (some ((([] : List (S40))), false))))) else (some ((([] : List (S40))), false)))
def spec_WithoutLine.T3 : Bool × List (List Nat × List Nat) := (true, [([], []), ([], []), ([], []), ([1, 2], [1, 2]), ([0, 3], [0, 3]), ([], []), ([], []), ([6], [6]), ([5, 7], [5, 7]), ([4, 8, 4], [4, 8]), ([9, 9, 0, 1, 2, 3, 4, 5, 6, 7, 8, 9], [9]), ([10, 0, 1, 2, 3, 4, 5, 6, 7, 8, 9, 10], [])])
def spec_WithoutLine.B3 : List Nat := [0, 0, 0, 6, 15, 0, 0, 64, 224, 511, 1023, 2047]
theorem spec_WithoutLine.tab3 : rtab .any (opsOf Try.f58 3) = spec_WithoutLine.T3 := by kernel_rfl
theorem spec_WithoutLine.bits3 : waitsOk spec_WithoutLine.T3.2 spec_WithoutLine.B3 = true := by kernel_rfl
set_option maxHeartbeats 8000000 in
set_option maxRecDepth 100000 in
theorem spec_WithoutLine.calls (k : Nat) (A0 : Option Addr) (c0 : Nat) (l0 : List (S40)) (a1 : Int) (r1 : List (S40)) (r2 : Bool) (w : World) (hr0 : Kd.C k40 w A0 l0.length l0) (hc0 : l0.length ≤ c0) (h : spec_WithoutLine.f k l0 a1 = some (r1, r2)) :
  Calls Try.prog 58 #[.slice A0 l0.length c0, .int .i64 a1] w fun e w' => ∃ v0_ : Value, e = .returned (.tuple #[v0_, .bool r2]) ∧ Kd.R k40 40 w' w.heap.size (fun _ => True) v0_ r1 ∧ Below w.heap.size w w' := by
 have HR0 := Aside0.mk hr0
 have HC0 := Aside0.mk hc0
 clear hr0 hc0
 have HB := Aside0.mk (Below.refl w.heap.size w)
 have H : ((spec_AreLines.f k l0).bind fun t101 => (if t101 = true then (if (l0.length : Int) = 1 then (some ((([] : List (S40))), false)) else ((spec_l1In.f a1 0 (wrap64 ((l0.length : Int) - 1))).bind fun t105 => (if t105 = true then ((some (([] : List (S40)) : List (S40))).bind fun y106 => (if 0 ≤ a1 then (if a1 ≤ (l0.length : Int) then ((some (l0.take (a1 : Int).toNat : List (S40))).bind fun y109 => (if y106.length + y109.length < 5864062014805 then ((some (y106 ++ y109 : List (S40))).bind fun y113 => (if 0 ≤ (wrap64 (a1 + 1)) then (if (wrap64 (a1 + 1)) ≤ (l0.length : Int) then ((some (l0.drop ((wrap64 (a1 + 1)) : Int).toNat : List (S40))).bind fun y116 => (if y113.length + y116.length < 5864062014805 then (some ((y113 ++ y116), true)) else (none))) else (none)) else (none))) else (none))) else (none)) else (none))) else (some ((([] : List (S40))), false))))) else (some ((([] : List (S40))), false)))) = some (r1, r2) := h
 clear h
 replace H := Option.bind_eq_some_iff.mp H
 obtain ⟨t101, A30, H⟩ := H
 replace H : (if t101 = true then (if (l0.length : Int) = 1 then (some ((([] : List (S40))), false)) else ((spec_l1In.f a1 0 (wrap64 ((l0.length : Int) - 1))).bind fun t105 => (if t105 = true then ((some (([] : List (S40)) : List (S40))).bind fun y106 => (if 0 ≤ a1 then (if a1 ≤ (l0.length : Int) then ((some (l0.take (a1 : Int).toNat : List (S40))).bind fun y109 => (if y106.length + y109.length < 5864062014805 then ((some (y106 ++ y109 : List (S40))).bind fun y113 => (if 0 ≤ (wrap64 (a1 + 1)) then (if (wrap64 (a1 + 1)) ≤ (l0.length : Int) then ((some (l0.drop ((wrap64 (a1 + 1)) : Int).toNat : List (S40))).bind fun y116 => (if y113.length + y116.length < 5864062014805 then (some ((y113 ++ y116), true)) else (none))) else (none)) else (none))) else (none))) else (none)) else (none))) else (some ((([] : List (S40))), false))))) else (some ((([] : List (S40))), false))) = some (r1, r2) := H
 have A3 := Aside0.mk A30
 clear A30
 by_cases c4 : t101 = true
 ·subst c4
  have H1 : (if (l0.length : Int) = 1 then (some ((([] : List (S40))), false)) else ((spec_l1In.f a1 0 (wrap64 ((l0.length : Int) - 1))).bind fun t105 => (if t105 = true then ((some (([] : List (S40)) : List (S40))).bind fun y106 => (if 0 ≤ a1 then (if a1 ≤ (l0.length : Int) then ((some (l0.take (a1 : Int).toNat : List (S40))).bind fun y109 => (if y106.length + y109.length < 5864062014805 then ((some (y106 ++ y109 : List (S40))).bind fun y113 => (if 0 ≤ (wrap64 (a1 + 1)) then (if (wrap64 (a1 + 1)) ≤ (l0.length : Int) then ((some (l0.drop ((wrap64 (a1 + 1)) : Int).toNat : List (S40))).bind fun y116 => (if y113.length + y116.length < 5864062014805 then (some ((y113 ++ y116), true)) else (none))) else (none)) else (none))) else (none))) else (none)) else (none))) else (some ((([] : List (S40))), false))))) = some (r1, r2) := by rw [if_pos rfl] at H; exact H
  clear H
  have H := H1
  clear H1
  by_cases c5 : (l0.length : Int) = 1
  ·rw [if_pos c5] at H
   have c5b0 : ((l0.length : Int) == 1) = true := beq_iff_eq.mpr c5
   have c5b1 : ((l0.length : Int) != 1) = false := bne_eq_false_iff_eq.mpr c5
   clear c5
   obtain ⟨y102, hy102⟩ : ∃ y_ : List (S40), y_ = (([] : List (S40))) := ⟨_, rfl⟩
   replace H : (some (y102, false)) = some (r1, r2) := by first | (rw [hy102]; with_reducible exact H) | (have H2_ := (Option.bind_some _ _).symm.trans H; rw [hy102]; with_reducible exact H2_) | (have H2_ := (Option.bind_some _ _).symm.trans H; with_reducible exact H2_) | with_reducible exact H | (rw [hy102]; exact H) | exact H
   have Ny102 := Aside0.mk hy102
   clear hy102
   simp only [Option.some.injEq, Prod.mk.injEq] at H
   obtain ⟨rfl, rfl⟩ := H
   go_enter Try.func58, Try.ntmps58
   go_wp2_with (first | ((with_reducible refine gate_callee (f := 53) rfl ?_); refine goesL_ (some 7) rfl rfl Try.func53 (by kernel_rfl) rfl #[.slice A0 l0.length c0] rfl (by (try simp only [List.map_toArray, List.map_cons, List.map_nil]); first | done | rfl | (simp only [List.length_drop, List.length_take]; rfl)) ?_; (with_reducible refine (spec_AreLines.calls k _ _ l0 true _ ?side1 ?side2 A3.out).mono ?_); (case side1 => repeat (first | exact HR0.out | (with_reducible refine Kd.C_alloc ?_ _) | (with_reducible refine Kd.C_drewN ?_ _) | (with_reducible refine Kd.C_drew ?_))); (case side2 => exact HC0.out); rintro e w6 ⟨rfl, hb⟩; refine ⟨_, rfl, ?_⟩; have n0_ := Aside0.mk (below_step (by repeat (first | (with_reducible first | exact HB.out | apply below_alloc | apply pw_below_drewN | apply below_drew1) | exact HB.out)) hb); clear HB; have HB := n0_; clear n0_; (try clear hb); (try clear hb2); (try clear hk); (try clear hi)) | ((with_reducible refine gate_dst (N := 22) rfl ?_); (try (refine gate_guard (by rfl) ?_; dsimp only)); refine Kd.R_lit k40 _ 40 ?hg (N := 22) ?hd (xs := ([] : List (S40))) (inner := []) (ok := fun _ => True) (okp := fun _ => True) ?hr ?hp (fun _ hk => hk) trivial (Below.refl _ _) (Nat.le_refl _) (by simp) ?_; (case hd => rfl); (case hg => rfl); (case hr => first | (go_simp; done) | (go_simp; rfl)); (case hp => exact (Reps.none _ _)); intro v103 w7 ho8 hb hg_ hnew_; clear hg_ hnew_; (first | rw [← Ny102.out] at ho8 | (simp only [Int.reduceToNat] at ho8; rw [← Ny102.out] at ho8)); have n0_ := Aside0.mk (Kd.R_lower ho8 (below_size (by repeat (first | (with_reducible first | exact HB.out | apply below_alloc | apply pw_below_drewN | apply below_drew1) | exact HB.out)))); have n1_ := Aside0.mk (below_step (by repeat (first | (with_reducible first | exact HB.out | apply below_alloc | apply pw_below_drewN | apply below_drew1) | exact HB.out)) hb); clear HB; have HO104 := n0_; have HB := n1_; clear n0_ n1_; clear hb ho8))
   go_ret2
   exact ⟨_, by first | rfl | (simp [errW_none, errW_some] <;> rfl) | (simp [*, errW_none, errW_some] <;> rfl), by (with_reducible repeat (first | apply Kd.R_alloc | apply Kd.R_drewN | apply Kd.R_drew)); exact HO104.out, by repeat (first | (with_reducible first | exact HB.out | apply below_alloc | apply pw_below_drewN | apply below_drew1) | exact HB.out)⟩
  ·rw [if_neg c5] at H
   have c5b0 : ((l0.length : Int) == 1) = false := beq_eq_false_iff_ne.mpr c5
   have c5b1 : ((l0.length : Int) != 1) = true := bne_iff_ne.mpr c5
   replace H := Option.bind_eq_some_iff.mp H
   obtain ⟨t105, A90, H⟩ := H
   replace H : (if t105 = true then ((some (([] : List (S40)) : List (S40))).bind fun y106 => (if 0 ≤ a1 then (if a1 ≤ (l0.length : Int) then ((some (l0.take (a1 : Int).toNat : List (S40))).bind fun y109 => (if y106.length + y109.length < 5864062014805 then ((some (y106 ++ y109 : List (S40))).bind fun y113 => (if 0 ≤ (wrap64 (a1 + 1)) then (if (wrap64 (a1 + 1)) ≤ (l0.length : Int) then ((some (l0.drop ((wrap64 (a1 + 1)) : Int).toNat : List (S40))).bind fun y116 => (if y113.length + y116.length < 5864062014805 then (some ((y113 ++ y116), true)) else (none))) else (none)) else (none))) else (none))) else (none)) else (none))) else (some ((([] : List (S40))), false))) = some (r1, r2) := H
   have A9 := Aside0.mk A90
   clear A90
   by_cases c10 : t105 = true
   ·subst c10
    have H1 : ((some (([] : List (S40)) : List (S40))).bind fun y106 => (if 0 ≤ a1 then (if a1 ≤ (l0.length : Int) then ((some (l0.take (a1 : Int).toNat : List (S40))).bind fun y109 => (if y106.length + y109.length < 5864062014805 then ((some (y106 ++ y109 : List (S40))).bind fun y113 => (if 0 ≤ (wrap64 (a1 + 1)) then (if (wrap64 (a1 + 1)) ≤ (l0.length : Int) then ((some (l0.drop ((wrap64 (a1 + 1)) : Int).toNat : List (S40))).bind fun y116 => (if y113.length + y116.length < 5864062014805 then (some ((y113 ++ y116), true)) else (none))) else (none)) else (none))) else (none))) else (none)) else (none))) = some (r1, r2) := by rw [if_pos rfl] at H; exact H
    clear H
    have H := H1
    clear H1
    obtain ⟨y106, hy106⟩ : ∃ y_ : List (S40), y_ = (([] : List (S40))) := ⟨_, rfl⟩
    replace H : (if 0 ≤ a1 then (if a1 ≤ (l0.length : Int) then ((some (l0.take (a1 : Int).toNat : List (S40))).bind fun y109 => (if y106.length + y109.length < 5864062014805 then ((some (y106 ++ y109 : List (S40))).bind fun y113 => (if 0 ≤ (wrap64 (a1 + 1)) then (if (wrap64 (a1 + 1)) ≤ (l0.length : Int) then ((some (l0.drop ((wrap64 (a1 + 1)) : Int).toNat : List (S40))).bind fun y116 => (if y113.length + y116.length < 5864062014805 then (some ((y113 ++ y116), true)) else (none))) else (none)) else (none))) else (none))) else (none)) else (none)) = some (r1, r2) := by first | (rw [hy106]; with_reducible exact H) | (have H2_ := (Option.bind_some _ _).symm.trans H; rw [hy106]; with_reducible exact H2_) | (have H2_ := (Option.bind_some _ _).symm.trans H; with_reducible exact H2_) | with_reducible exact H | (rw [hy106]; exact H) | exact H
    have Ny106 := Aside0.mk hy106
    clear hy106
    by_cases c11 : 0 ≤ a1
    ·rw [if_pos c11] at H
     have c11b0 := eq_true c11
     have c11b1 : decide (0 ≤ a1) = true := decide_eq_true c11
     clear c11
     by_cases c12 : a1 ≤ (l0.length : Int)
     ·rw [if_pos c12] at H
      have c12b0 := eq_true c12
      have c12b1 : decide (a1 ≤ (l0.length : Int)) = true := decide_eq_true c12
      clear c12
      obtain ⟨y109, hy109⟩ : ∃ y_ : List (S40), y_ = (l0.take (a1 : Int).toNat) := ⟨_, rfl⟩
      replace H : (if y106.length + y109.length < 5864062014805 then ((some (y106 ++ y109 : List (S40))).bind fun y113 => (if 0 ≤ (wrap64 (a1 + 1)) then (if (wrap64 (a1 + 1)) ≤ (l0.length : Int) then ((some (l0.drop ((wrap64 (a1 + 1)) : Int).toNat : List (S40))).bind fun y116 => (if y113.length + y116.length < 5864062014805 then (some ((y113 ++ y116), true)) else (none))) else (none)) else (none))) else (none)) = some (r1, r2) := by first | (rw [hy109]; with_reducible exact H) | (have H2_ := (Option.bind_some _ _).symm.trans H; rw [hy109]; with_reducible exact H2_) | (have H2_ := (Option.bind_some _ _).symm.trans H; with_reducible exact H2_) | with_reducible exact H | (rw [hy109]; exact H) | exact H
      have Ny109 := Aside0.mk hy109
      clear hy109
      by_cases c13 : y106.length + y109.length < 5864062014805
      ·rw [if_pos c13] at H
       have LMc13 := Aside0.mk c13
       clear c13
       obtain ⟨y113, hy113⟩ : ∃ y_ : List (S40), y_ = (y106 ++ y109) := ⟨_, rfl⟩
       replace H : (if 0 ≤ (wrap64 (a1 + 1)) then (if (wrap64 (a1 + 1)) ≤ (l0.length : Int) then ((some (l0.drop ((wrap64 (a1 + 1)) : Int).toNat : List (S40))).bind fun y116 => (if y113.length + y116.length < 5864062014805 then (some ((y113 ++ y116), true)) else (none))) else (none)) else (none)) = some (r1, r2) := by first | (rw [hy113]; with_reducible exact H) | (have H2_ := (Option.bind_some _ _).symm.trans H; rw [hy113]; with_reducible exact H2_) | (have H2_ := (Option.bind_some _ _).symm.trans H; with_reducible exact H2_) | with_reducible exact H | (rw [hy113]; exact H) | exact H
       have Ny113 := Aside0.mk hy113
       clear hy113
       obtain ⟨ji14, hji14⟩ : ∃ j_ : Int, (wrap64 (a1 + 1)) = j_ := ⟨_, rfl⟩
       replace H : (if 0 ≤ (ji14) then (if (ji14) ≤ (l0.length : Int) then ((some (l0.drop ((ji14) : Int).toNat : List (S40))).bind fun y116 => (if y113.length + y116.length < 5864062014805 then (some ((y113 ++ y116), true)) else (none))) else (none)) else (none)) = some (r1, r2) := by first | (rw [hji14] at H; exact H) | (simp only [hji14] at H ⊢; exact H)
       (try rw [hji14] at A3)
       (try rw [hji14] at A9)
       have hji14w : (IntKind.i64.wrap (a1 + 1)) = ji14 := (i64_w _).trans hji14
       by_cases c15 : 0 ≤ (ji14)
       ·rw [if_pos c15] at H
        have c15b0 := eq_true c15
        have c15b1 : decide (0 ≤ (ji14)) = true := decide_eq_true c15
        clear c15
        by_cases c16 : (ji14) ≤ (l0.length : Int)
        ·rw [if_pos c16] at H
         have c16b0 := eq_true c16
         have c16b1 : decide ((ji14) ≤ (l0.length : Int)) = true := decide_eq_true c16
         clear c16
         obtain ⟨y116, hy116⟩ : ∃ y_ : List (S40), y_ = (l0.drop ((ji14) : Int).toNat) := ⟨_, rfl⟩
         replace H : (if y113.length + y116.length < 5864062014805 then (some ((y113 ++ y116), true)) else (none)) = some (r1, r2) := by first | (rw [hy116]; with_reducible exact H) | (have H2_ := (Option.bind_some _ _).symm.trans H; rw [hy116]; with_reducible exact H2_) | (have H2_ := (Option.bind_some _ _).symm.trans H; with_reducible exact H2_) | with_reducible exact H | (rw [hy116]; exact H) | exact H
         have Ny116 := Aside0.mk hy116
         clear hy116
         by_cases c17 : y113.length + y116.length < 5864062014805
         ·rw [if_pos c17] at H
          have LMc17 := Aside0.mk c17
          clear c17
          obtain ⟨y120, hy120⟩ : ∃ y_ : List (S40), y_ = (y113 ++ y116) := ⟨_, rfl⟩
          replace H : (some (y120, true)) = some (r1, r2) := by first | (rw [hy120]; with_reducible exact H) | (have H2_ := (Option.bind_some _ _).symm.trans H; rw [hy120]; with_reducible exact H2_) | (have H2_ := (Option.bind_some _ _).symm.trans H; with_reducible exact H2_) | with_reducible exact H | (rw [hy120]; exact H) | exact H
          have Ny120 := Aside0.mk hy120
          clear hy120
          simp only [Option.some.injEq, Prod.mk.injEq] at H
          obtain ⟨rfl, rfl⟩ := H
          go_enter Try.func58, Try.ntmps58
          try go_wp2_with (first | ((with_reducible refine gate_callee (f := 53) rfl ?_); refine goesL_ (some 7) rfl rfl Try.func53 (by kernel_rfl) rfl #[.slice A0 l0.length c0] rfl (by (try simp only [List.map_toArray, List.map_cons, List.map_nil]); first | done | rfl | (simp only [List.length_drop, List.length_take]; rfl)) ?_; (with_reducible refine (spec_AreLines.calls k _ _ l0 true _ ?side1 ?side2 A3.out).mono ?_); (case side1 => repeat (first | exact HR0.out | (with_reducible refine Kd.C_alloc ?_ _) | (with_reducible refine Kd.C_drewN ?_ _) | (with_reducible refine Kd.C_drew ?_))); (case side2 => exact HC0.out); rintro e w18 ⟨rfl, hb⟩; refine ⟨_, rfl, ?_⟩; have n0_ := Aside0.mk (below_step (by repeat (first | (with_reducible first | exact HB.out | apply below_alloc | apply pw_below_drewN | apply below_drew1) | exact HB.out)) hb); clear HB; have HB := n0_; clear n0_; (try clear hb); (try clear hb2); (try clear hk); (try clear hi)) | (go_at_call 91; (with_reducible refine (spec_l1In.calls a1 0 (wrap64 ((l0.length : Int) - 1)) true _ A9.out).mono ?_); rintro e w' ⟨rfl, ⟨nd, rfl⟩⟩))
          (try (rw [drewN_self w18]; generalize hq_ : World.drewN w18 _ = w18; have n0_ : Aside0 (Below w.heap.size w w18) := ⟨by rw [← hq_]; exact (by repeat (first | (with_reducible first | exact HB.out | apply below_alloc | apply pw_below_drewN | apply below_drew1) | exact HB.out))⟩; clear HB hq_; have HB := n0_; clear n0_))
          have n0_ := Aside0.mk (below_drew1 HB.out)
          clear HB
          have HB := n0_
          clear n0_
          have q20 : (a1 : Int) ≤ ((l0.length : Int) : Int) := of_decide_eq_true (by first | (with_reducible assumption) | assumption)
          obtain ⟨i020, hi020, _, hsz20, _⟩ := info_parts info40
          have hroom20 : l0.length ≤ c0 := HC0.out
          have hC20 : Kd.C k40 _ A0 l0.length l0 := HR0.out
          have hcut20 := cut_to (P := Try.prog) 25 40 .i64 Try.underlying25 hi020 A0 l0.length c0 a1 (of_decide_eq_true (by first | (with_reducible assumption) | assumption)) q20 hroom20
          have hr20 := Kd.C_take (m := (a1 : Int).toNat) hC20 (by omega)
          have hy20 : y109.length = (a1 : Int).toNat := (by rw [Ny109.out, List.length_take]; omega)
          rw [← Ny109.out] at hr20
          rw [← hy20] at hcut20
          have HR112 := Aside0.mk hr20
          have HC112 := Aside0.mk (show y109.length ≤ c0 from by omega)
          clear hr20 hC20 hroom20 hi020 hsz20
          have KY20 := Aside0.mk hy20
          clear hy20
          replace q20 := eq_true q20
          have q21 : ((ji14) : Int) ≤ ((l0.length : Int) : Int) := of_decide_eq_true (by first | (with_reducible assumption) | assumption)
          obtain ⟨i021, hi021, _, hsz21, _⟩ := info_parts info40
          have hroom21 : l0.length ≤ c0 := HC0.out
          have hC21 : Kd.C k40 _ A0 l0.length l0 := HR0.out
          have q021 : (0 : Int) ≤ ((ji14) : Int) := of_decide_eq_true (by first | (with_reducible assumption) | assumption)
          have hcut21 := cut_from (P := Try.prog) 25 40 .i64 Try.underlying25 hi021 3 hsz21 A0 l0.length c0 (ji14) q021 q21
          have hr21 := Kd.C_drop (m := ((ji14) : Int).toNat) (c := c0) hC21 (by omega) hroom21
          obtain ⟨A21, hA21⟩ : ∃ A1, A1 = (if c0 = ((ji14) : Int).toNat then A0 else (A0 : Option Addr).map (·.add (((ji14) : Int).toNat * 3))) := ⟨_, rfl⟩
          obtain ⟨c21, hc21⟩ : ∃ c1, c1 = c0 - ((ji14) : Int).toNat := ⟨_, rfl⟩
          have hy21 : y116.length = l0.length - ((ji14) : Int).toNat := (by rw [Ny116.out, List.length_drop] <;> omega)
          rw [show (l0).drop ((ji14) : Int).toNat = y116 from Ny116.out.symm] at hr21
          replace hr21 : Kd.C k40 _ A21 y116.length y116 := (by rw [hA21]; exact hr21)
          rw [← hy21, ← hA21, ← hc21] at hcut21
          have HR119 := Aside0.mk hr21
          have HC119 := Aside0.mk (show y116.length ≤ c21 from by rw [hy21, hc21]; exact Nat.sub_le_sub_right hroom21 _)
          clear hr21 hC21 hroom21 hi021 hsz21 hc21
          have KY21 := Aside0.mk hy21
          have KA21 := Aside0.mk hA21
          clear hy21 hA21
          replace q21 := eq_true q21
          refine start_ (n := 12) (S := fun w' => True) (ds := []) (bm 12 0) (by kernel_rfl) rfl rfl trivial (fun hHeld => ?_); refine with_tabW spec_WithoutLine.tab3 spec_WithoutLine.bits3 (fun HT_ HW_ => ?_)
          generalize w18.drew = w19 at HB HR112 HR119 hHeld ⊢
          refine plan_ ((0, 1, 24, 2) :: (0, 2, 25, 6) :: (0, 3, 26, 14) :: (0, 5, 28, 46) :: (0, 6, 29, 110) :: (0, 7, 30, 238) :: (0, 8, 31, 494) :: []) ?_
          iterate 7 (first | (refine planV_ ?_ ?_ rfl rfl (any_of HT_.out (by kernel_rfl)) (fun _ _ _ h => h) (Or.inl ⟨by rfl, ?_⟩) ?_ ?_; rotate_left 2; (· intro w'; go_simp; with_reducible rfl); (· simp only [Act.put, List.setIfInBounds_toArray, List.set_cons_zero, List.set_cons_succ, i64_w, i32_w]; rfl)))
          refine planEnd_ ?_
          refine one_ (i := 0) (N := some 23) (bm 12 495) rfl rfl (one_of HT_.out (by kernel_rfl)) (by decide) (fun K hK => ?_)
          refine Kd.R_lit_step k40 _ 40 ?hg (N := 23) ?hd (xs := ([] : List (S40))) (inner := []) (ok := fun _ => True) (okp := fun _ => True) ?hr ?hp (fun _ hk => hk) trivial (Below.refl _ _) (Nat.le_refl _) (by simp) ?_; (case hd => rfl); (case hg => rfl); (case hr => first | (go_simp; done) | (go_simp; rfl)); (case hp => exact (Reps.none _ _))
          intro v107 w22 ho23 hb hg_ hnew_
          clear hg_ hnew_
          (first | rw [← Ny106.out] at ho23 | (simp only [Int.reduceToNat] at ho23; rw [← Ny106.out] at ho23))
          have n0_ := Aside0.mk (Kd.R_lower ho23 (below_size (by repeat (first | (with_reducible first | exact HB.out | apply below_alloc | apply pw_below_drewN | apply below_drew1) | exact HB.out))))
          have n1_ := Aside0.mk (below_step (by repeat (first | (with_reducible first | exact HB.out | apply below_alloc | apply pw_below_drewN | apply below_drew1) | exact HB.out)) hb)
          clear HB
          have HO108 := n0_
          have HB := n1_
          clear n0_ n1_
          clear hb ho23
          refine hK.out _ _ trivial (fun hHeld => ?_)
          clear hK K
          refine norm_ (a' := ?_) ?_ ?_
          rotate_left
          ·show Act.put _ (some 23) _ = _
           simp only [Act.put, List.setIfInBounds_toArray, List.set_cons_zero, List.set_cons_succ, i64_w, i32_w]
           rfl
          refine one_ (i := 4) (N := some 27) (bm 12 511) rfl rfl (one_of HT_.out (by kernel_rfl)) (by decide) (fun K hK => ?_)
          refine Kd.R_append_rows_step k40 (w0 := w) w.heap.size (by rfl) (.tmp 23) (.tmp 26) 25 40 (.agg #[(.int .i64 0), (.int .i64 0), (.int .i64 0)]) 24 rfl Try.underlying25 info40 rfl (by decide) (by omega) v107 y106 y109 _ _ _ (fun _ => True) (fun _ => False) rfl rfl ?aO ?aR (fun _ _ h => h) (fun _ h => h.elim) ?aF ?aB ?aS ?aL ?_
          (case aR => repeat (first | exact (Kd.C_below HR112.out HB.out) | (with_reducible refine Kd.C_alloc ?_ _) | (with_reducible refine Kd.C_drewN ?_ _) | (with_reducible refine Kd.C_drew ?_)))
          (case aB => exact (by repeat (first | (with_reducible first | exact HB.out | apply below_alloc | apply pw_below_drewN | apply below_drew1) | exact HB.out)))
          (case aF => exact (fun _ _ => trivial))
          (case aO => exact (by (with_reducible repeat (first | apply Kd.R_alloc | apply Kd.R_drewN | apply Kd.R_drew)); exact HO108.out))
          (case aS => exact (below_size (by repeat (first | (with_reducible first | exact HB.out | apply below_alloc | apply pw_below_drewN | apply below_drew1) | exact HB.out))))
          (case aL => have := LMc13.out; omega)
          intro v114 w24 ho hb hg hat
          rw [← Ny113.out] at ho
          have n0_ := Aside0.mk (hb)
          have n1_ := Aside0.mk (ho)
          clear HB
          clear HO108
          have HB := n0_
          have HO115 := n1_
          clear n0_ n1_
          clear ho hb hg hat
          refine hK.out _ _ trivial (fun hHeld => ?_)
          clear hK K
          refine norm_ (a' := ?_) ?_ ?_
          rotate_left
          ·show Act.put _ (some 27) _ = _
           simp only [Act.put, List.setIfInBounds_toArray, List.set_cons_zero, List.set_cons_succ, i64_w, i32_w]
           rfl
          refine one_ (i := 9) (N := some 32) (bm 12 1023) rfl rfl (one_of HT_.out (by kernel_rfl)) (by decide) (fun K hK => ?_)
          refine Kd.R_append_rows_step k40 (w0 := w) w.heap.size (by rfl) (.tmp 27) (.tmp 31) 25 40 (.agg #[(.int .i64 0), (.int .i64 0), (.int .i64 0)]) 24 rfl Try.underlying25 info40 rfl (by decide) (by omega) v114 y113 y116 _ _ _ (fun _ => True) (fun _ => False) rfl rfl ?aO ?aR (fun _ _ h => h) (fun _ h => h.elim) ?aF ?aB ?aS ?aL ?_
          (case aR => repeat (first | exact (Kd.C_below HR119.out HB.out) | (with_reducible refine Kd.C_alloc ?_ _) | (with_reducible refine Kd.C_drewN ?_ _) | (with_reducible refine Kd.C_drew ?_)))
          (case aB => exact (by repeat (first | (with_reducible first | exact HB.out | apply below_alloc | apply pw_below_drewN | apply below_drew1) | exact HB.out)))
          (case aF => exact (fun _ _ => trivial))
          (case aO => exact (by (with_reducible repeat (first | apply Kd.R_alloc | apply Kd.R_drewN | apply Kd.R_drew)); exact HO115.out))
          (case aS => exact (below_size (by repeat (first | (with_reducible first | exact HB.out | apply below_alloc | apply pw_below_drewN | apply below_drew1) | exact HB.out))))
          (case aL => have := LMc17.out; omega)
          intro v121 w25 ho hb hg hat
          rw [← Ny120.out] at ho
          have n0_ := Aside0.mk (hb)
          have n1_ := Aside0.mk (ho)
          clear HB
          clear HO115
          have HB := n0_
          have HO122 := n1_
          clear n0_ n1_
          clear ho hb hg hat
          refine hK.out _ _ trivial (fun hHeld => ?_)
          clear hK K
          refine norm_ (a' := ?_) ?_ ?_
          rotate_left
          ·show Act.put _ (some 32) _ = _
           simp only [Act.put, List.setIfInBounds_toArray, List.set_cons_zero, List.set_cons_succ, i64_w, i32_w]
           rfl
          refine plan_ ((0, 10, 4, 2047) :: (0, 11, 5, 4095) :: []) ?_
          iterate 2 (first | (refine planV_ ?_ ?_ rfl rfl (any_of HT_.out (by kernel_rfl)) (fun _ _ _ h => h) (Or.inl ⟨by rfl, ?_⟩) ?_ ?_; rotate_left 2; (· intro w'; go_simp; with_reducible rfl); (· simp only [Act.put, List.setIfInBounds_toArray, List.set_cons_zero, List.set_cons_succ, i64_w, i32_w]; rfl)))
          refine planEnd_ ?_
          refine done_ (done_of HT_.out (by kernel_rfl)) ?_
          try go_wp2
          go_ret2
          exact ⟨_, by first | rfl | (simp [errW_none, errW_some] <;> rfl) | (simp only [← hji14]; first | rfl | (simp [errW_none, errW_some] <;> rfl)) | (simp [*, errW_none, errW_some] <;> rfl), by (with_reducible repeat (first | apply Kd.R_alloc | apply Kd.R_drewN | apply Kd.R_drew)); exact HO122.out, by repeat (first | (with_reducible first | exact HB.out | apply below_alloc | apply pw_below_drewN | apply below_drew1) | exact HB.out)⟩
         ·rw [if_neg c17] at H
          exact absurd H (by simp)
        ·rw [if_neg c16] at H
         exact absurd H (by simp)
       ·rw [if_neg c15] at H
        exact absurd H (by simp)
      ·rw [if_neg c13] at H
       exact absurd H (by simp)
     ·rw [if_neg c12] at H
      exact absurd H (by simp)
    ·rw [if_neg c11] at H
     exact absurd H (by simp)
   ·replace c10 := Bool.eq_false_iff.mpr c10
    subst c10
    have H1 : (some ((([] : List (S40))), false)) = some (r1, r2) := by rw [if_neg (show ¬ (false = true) by decide)] at H; exact H
    clear H
    have H := H1
    clear H1
    obtain ⟨y123, hy123⟩ : ∃ y_ : List (S40), y_ = (([] : List (S40))) := ⟨_, rfl⟩
    replace H : (some (y123, false)) = some (r1, r2) := by first | (rw [hy123]; with_reducible exact H) | (have H2_ := (Option.bind_some _ _).symm.trans H; rw [hy123]; with_reducible exact H2_) | (have H2_ := (Option.bind_some _ _).symm.trans H; with_reducible exact H2_) | with_reducible exact H | (rw [hy123]; exact H) | exact H
    have Ny123 := Aside0.mk hy123
    clear hy123
    simp only [Option.some.injEq, Prod.mk.injEq] at H
    obtain ⟨rfl, rfl⟩ := H
    go_enter Try.func58, Try.ntmps58
    go_wp2_with (first | ((with_reducible refine gate_callee (f := 53) rfl ?_); refine goesL_ (some 7) rfl rfl Try.func53 (by kernel_rfl) rfl #[.slice A0 l0.length c0] rfl (by (try simp only [List.map_toArray, List.map_cons, List.map_nil]); first | done | rfl | (simp only [List.length_drop, List.length_take]; rfl)) ?_; (with_reducible refine (spec_AreLines.calls k _ _ l0 true _ ?side1 ?side2 A3.out).mono ?_); (case side1 => repeat (first | exact HR0.out | (with_reducible refine Kd.C_alloc ?_ _) | (with_reducible refine Kd.C_drewN ?_ _) | (with_reducible refine Kd.C_drew ?_))); (case side2 => exact HC0.out); rintro e w26 ⟨rfl, hb⟩; refine ⟨_, rfl, ?_⟩; have n0_ := Aside0.mk (below_step (by repeat (first | (with_reducible first | exact HB.out | apply below_alloc | apply pw_below_drewN | apply below_drew1) | exact HB.out)) hb); clear HB; have HB := n0_; clear n0_; (try clear hb); (try clear hb2); (try clear hk); (try clear hi)) | (go_at_call 91; (with_reducible refine (spec_l1In.calls a1 0 (wrap64 ((l0.length : Int) - 1)) false _ A9.out).mono ?_); rintro e w' ⟨rfl, ⟨nd, rfl⟩⟩) | ((with_reducible refine gate_dst (N := 22) rfl ?_); (try (refine gate_guard (by rfl) ?_; dsimp only)); refine Kd.R_lit k40 _ 40 ?hg (N := 22) ?hd (xs := ([] : List (S40))) (inner := []) (ok := fun _ => True) (okp := fun _ => True) ?hr ?hp (fun _ hk => hk) trivial (Below.refl _ _) (Nat.le_refl _) (by simp) ?_; (case hd => rfl); (case hg => rfl); (case hr => first | (go_simp; done) | (go_simp; rfl)); (case hp => exact (Reps.none _ _)); intro v124 w27 ho28 hb hg_ hnew_; clear hg_ hnew_; (first | rw [← Ny123.out] at ho28 | (simp only [Int.reduceToNat] at ho28; rw [← Ny123.out] at ho28)); have n0_ := Aside0.mk (Kd.R_lower ho28 (below_size (by repeat (first | (with_reducible first | exact HB.out | apply below_alloc | apply pw_below_drewN | apply below_drew1) | exact HB.out)))); have n1_ := Aside0.mk (below_step (by repeat (first | (with_reducible first | exact HB.out | apply below_alloc | apply pw_below_drewN | apply below_drew1) | exact HB.out)) hb); clear HB; have HO125 := n0_; have HB := n1_; clear n0_ n1_; clear hb ho28))
    go_ret2
    exact ⟨_, by first | rfl | (simp [errW_none, errW_some] <;> rfl) | (simp [*, errW_none, errW_some] <;> rfl), by (with_reducible repeat (first | apply Kd.R_alloc | apply Kd.R_drewN | apply Kd.R_drew)); exact HO125.out, by repeat (first | (with_reducible first | exact HB.out | apply below_alloc | apply pw_below_drewN | apply below_drew1) | exact HB.out)⟩
 ·replace c4 := Bool.eq_false_iff.mpr c4
  subst c4
  have H1 : (some ((([] : List (S40))), false)) = some (r1, r2) := by rw [if_neg (show ¬ (false = true) by decide)] at H; exact H
  clear H
  have H := H1
  clear H1
  obtain ⟨y126, hy126⟩ : ∃ y_ : List (S40), y_ = (([] : List (S40))) := ⟨_, rfl⟩
  replace H : (some (y126, false)) = some (r1, r2) := by first | (rw [hy126]; with_reducible exact H) | (have H2_ := (Option.bind_some _ _).symm.trans H; rw [hy126]; with_reducible exact H2_) | (have H2_ := (Option.bind_some _ _).symm.trans H; with_reducible exact H2_) | with_reducible exact H | (rw [hy126]; exact H) | exact H
  have Ny126 := Aside0.mk hy126
  clear hy126
  simp only [Option.some.injEq, Prod.mk.injEq] at H
  obtain ⟨rfl, rfl⟩ := H
  go_enter Try.func58, Try.ntmps58
  go_wp2_with (first | ((with_reducible refine gate_callee (f := 53) rfl ?_); refine goesL_ (some 7) rfl rfl Try.func53 (by kernel_rfl) rfl #[.slice A0 l0.length c0] rfl (by (try simp only [List.map_toArray, List.map_cons, List.map_nil]); first | done | rfl | (simp only [List.length_drop, List.length_take]; rfl)) ?_; (with_reducible refine (spec_AreLines.calls k _ _ l0 false _ ?side1 ?side2 A3.out).mono ?_); (case side1 => repeat (first | exact HR0.out | (with_reducible refine Kd.C_alloc ?_ _) | (with_reducible refine Kd.C_drewN ?_ _) | (with_reducible refine Kd.C_drew ?_))); (case side2 => exact HC0.out); rintro e w29 ⟨rfl, hb⟩; refine ⟨_, rfl, ?_⟩; have n0_ := Aside0.mk (below_step (by repeat (first | (with_reducible first | exact HB.out | apply below_alloc | apply pw_below_drewN | apply below_drew1) | exact HB.out)) hb); clear HB; have HB := n0_; clear n0_; (try clear hb); (try clear hb2); (try clear hk); (try clear hi)) | ((with_reducible refine gate_dst (N := 22) rfl ?_); (try (refine gate_guard (by rfl) ?_; dsimp only)); refine Kd.R_lit k40 _ 40 ?hg (N := 22) ?hd (xs := ([] : List (S40))) (inner := []) (ok := fun _ => True) (okp := fun _ => True) ?hr ?hp (fun _ hk => hk) trivial (Below.refl _ _) (Nat.le_refl _) (by simp) ?_; (case hd => rfl); (case hg => rfl); (case hr => first | (go_simp; done) | (go_simp; rfl)); (case hp => exact (Reps.none _ _)); intro v127 w30 ho31 hb hg_ hnew_; clear hg_ hnew_; (first | rw [← Ny126.out] at ho31 | (simp only [Int.reduceToNat] at ho31; rw [← Ny126.out] at ho31)); have n0_ := Aside0.mk (Kd.R_lower ho31 (below_size (by repeat (first | (with_reducible first | exact HB.out | apply below_alloc | apply pw_below_drewN | apply below_drew1) | exact HB.out)))); have n1_ := Aside0.mk (below_step (by repeat (first | (with_reducible first | exact HB.out | apply below_alloc | apply pw_below_drewN | apply below_drew1) | exact HB.out)) hb); clear HB; have HO128 := n0_; have HB := n1_; clear n0_ n1_; clear hb ho31))
  go_ret2
  exact ⟨_, by first | rfl | (simp [errW_none, errW_some] <;> rfl) | (simp [*, errW_none, errW_some] <;> rfl), by (with_reducible repeat (first | apply Kd.R_alloc | apply Kd.R_drewN | apply Kd.R_drew)); exact HO128.out, by repeat (first | (with_reducible first | exact HB.out | apply below_alloc | apply pw_below_drewN | apply below_drew1) | exact HB.out)⟩
end Go.Proofs.Ytldcckcljjlglaa.P

namespace Go.Proofs.Ytldcckcljjlglaa.P
open Go.RowKit Go.Proofs.YtldcckcljjlglaaW.PrintWords Go.Proofs.YtldcckcljjlglaaW.PrintLast Go.Proofs.YtldcckcljjlglaaW.PrintMore
attribute [local go_sem] max2_int min2_int max_two min_two max_three min_three max_four min_four   -- for this text's walks alone
set_option linter.unusedVariables false
set_option linter.unusedSimpArgs false
/-! ### spec_DrawIsPrime: function 59 -/
def spec_DrawIsPrime.f (k : Nat) (l0 : List Int) : Option (Int) := (spec_l1New.f k l0).bind fun bt101 => ((spec_l1Below.f bt101.1 bt101.2.1 bt101.2.2 200).bind fun bt105 => ((spec_l1Below.f bt101.1 bt105.2.1 bt105.2.2 200).bind fun bt108 => ((spec_l1PickInt.f bt101.1 bt108.2.1 bt108.2.2 (([bt105.1, bt108.1, 2, 997, 991, 1, 0, (-3), 1009, 961] : List Int))).bind fun bt114 => (some bt114.1))))
set_option maxHeartbeats 8000000 in
set_option maxRecDepth 100000 in
theorem spec_DrawIsPrime.calls (k : Nat) (A0 : Option Addr) (c0 : Nat) (l0 : List Int) (r : Int) (w : World) (hr0 : Kd.C (Kd.int .u8) w A0 l0.length l0) (hc0 : l0.length ≤ c0) (h : spec_DrawIsPrime.f k l0 = some r) :
  Calls Try.prog 59 #[.slice A0 l0.length c0] w fun e w' => e = .returned (.int .i64 r) ∧ Below w.heap.size w w' := by
 have HR0 := Aside0.mk hr0
 have HC0 := Aside0.mk hc0
 clear hr0 hc0
 have HB := Aside0.mk (Below.refl w.heap.size w)
 have H : ((spec_l1New.f k l0).bind fun bt101 => ((spec_l1Below.f bt101.1 bt101.2.1 bt101.2.2 200).bind fun bt105 => ((spec_l1Below.f bt101.1 bt105.2.1 bt105.2.2 200).bind fun bt108 => ((spec_l1PickInt.f bt101.1 bt108.2.1 bt108.2.2 (([bt105.1, bt108.1, 2, 997, 991, 1, 0, (-3), 1009, 961] : List Int))).bind fun bt114 => (some bt114.1))))) = some r := h
 clear h
 replace H := Option.bind_eq_some_iff.mp H
 obtain ⟨⟨t101, t102, t103⟩, A20, H⟩ := H
 replace H : ((spec_l1Below.f t101 t102 t103 200).bind fun bt105 => ((spec_l1Below.f t101 bt105.2.1 bt105.2.2 200).bind fun bt108 => ((spec_l1PickInt.f t101 bt108.2.1 bt108.2.2 (([bt105.1, bt108.1, 2, 997, 991, 1, 0, (-3), 1009, 961] : List Int))).bind fun bt114 => (some bt114.1)))) = some r := H
 have A2 := Aside0.mk A20
 clear A20
 replace H := Option.bind_eq_some_iff.mp H
 obtain ⟨⟨t105, t106, t107⟩, A30, H⟩ := H
 replace H : ((spec_l1Below.f t101 t106 t107 200).bind fun bt108 => ((spec_l1PickInt.f t101 bt108.2.1 bt108.2.2 (([t105, bt108.1, 2, 997, 991, 1, 0, (-3), 1009, 961] : List Int))).bind fun bt114 => (some bt114.1))) = some r := H
 have A3 := Aside0.mk A30
 clear A30
 replace H := Option.bind_eq_some_iff.mp H
 obtain ⟨⟨t108, t109, t110⟩, A40, H⟩ := H
 replace H : ((spec_l1PickInt.f t101 t109 t110 (([t105, t108, 2, 997, 991, 1, 0, (-3), 1009, 961] : List Int))).bind fun bt114 => (some bt114.1)) = some r := H
 have A4 := Aside0.mk A40
 clear A40
 obtain ⟨y111, hy111⟩ : ∃ y_ : List Int, y_ = (([t105, t108, 2, 997, 991, 1, 0, (-3), 1009, 961] : List Int)) := ⟨_, rfl⟩
 replace H : ((spec_l1PickInt.f t101 t109 t110 y111).bind fun bt114 => (some bt114.1)) = some r := by first | (rw [hy111]; with_reducible exact H) | (have H2_ := (Option.bind_some _ _).symm.trans H; rw [hy111]; with_reducible exact H2_) | (have H2_ := (Option.bind_some _ _).symm.trans H; with_reducible exact H2_) | with_reducible exact H | (rw [hy111]; exact H) | exact H
 have Ny111 := Aside0.mk hy111
 clear hy111
 replace H := Option.bind_eq_some_iff.mp H
 obtain ⟨⟨t114, t115, t116⟩, A50, H⟩ := H
 replace H : (some t114) = some r := H
 have A5 := Aside0.mk A50
 clear A50
 obtain rfl := Option.some.inj H
 go_enter Try.func59, Try.ntmps59
 go_wp2_with (first | ((with_reducible refine gate_callee (f := 99) rfl ?_); refine goesL_ (some 5) rfl rfl Try.func99 (by kernel_rfl) rfl #[.slice A0 l0.length c0] rfl (by (try simp only [List.map_toArray, List.map_cons, List.map_nil]); first | done | rfl | (simp only [List.length_drop, List.length_take]; rfl)) ?_; (with_reducible refine (spec_l1New.calls k _ _ l0 t101 t102 t103 w _ ?side1 ?side2 ?side3 A2.out).mono ?_); (case side1 => repeat (first | (with_reducible first | exact HB.out | apply below_alloc | apply pw_below_drewN | apply below_drew1) | exact HB.out)); (case side2 => exact HR0.out); (case side3 => exact HC0.out); rintro e w6 ⟨g104, rfl, hi, hb, hb2⟩; refine ⟨_, rfl, ?_⟩; have n0_ := Aside0.mk (hb); have n1_ := Aside0.mk (hi); clear HB; have HB := n0_; have HI104 := n1_; clear n0_ n1_; (try clear hb); (try clear hb2); (try clear hk); (try clear hi)) | ((with_reducible refine gate_callee (f := 109) rfl ?_); refine goesL_ (some 8) rfl rfl Try.func109 (by kernel_rfl) rfl #[.pointer (some ⟨g104, 0, none⟩), .int .i64 200] rfl (by (try simp only [List.map_toArray, List.map_cons, List.map_nil]); first | done | rfl | (simp only [List.length_drop, List.length_take]; rfl)) ?_; (with_reducible refine (spec_l1Below.calls g104 t101 t102 t103 200 t105 t106 t107 w _ ?side1 ?side2 A3.out).mono ?_); (case side1 => repeat (first | (with_reducible first | exact HI104.out | apply IsS133.alloc | apply IsS133.drewN | apply IsS133.drew | apply IsS133.set_1 | apply IsS133.set_2) | exact HI104.out)); (case side2 => repeat (first | (with_reducible first | exact HB.out | apply below_alloc | apply pw_below_drewN | apply below_drew1 | refine below_set ?_ (IsS133.ge HI104.out)) | exact HB.out)); rintro e w7 ⟨rfl, hi, hb, hk⟩; refine ⟨_, rfl, ?_⟩; have n0_ := Aside0.mk (hb); have n1_ := Aside0.mk (hi); clear HB; clear HI104; have HB := n0_; have HI104 := n1_; clear n0_ n1_; (try clear hb); (try clear hb2); (try clear hk); (try clear hi)) | ((with_reducible refine gate_callee (f := 109) rfl ?_); refine goesL_ (some 10) rfl rfl Try.func109 (by kernel_rfl) rfl #[.pointer (some ⟨g104, 0, none⟩), .int .i64 200] rfl (by (try simp only [List.map_toArray, List.map_cons, List.map_nil]); first | done | rfl | (simp only [List.length_drop, List.length_take]; rfl)) ?_; (with_reducible refine (spec_l1Below.calls g104 t101 t106 t107 200 t108 t109 t110 w _ ?side1 ?side2 A4.out).mono ?_); (case side1 => repeat (first | (with_reducible first | exact HI104.out | apply IsS133.alloc | apply IsS133.drewN | apply IsS133.drew | apply IsS133.set_1 | apply IsS133.set_2) | exact HI104.out)); (case side2 => repeat (first | (with_reducible first | exact HB.out | apply below_alloc | apply pw_below_drewN | apply below_drew1 | refine below_set ?_ (IsS133.ge HI104.out)) | exact HB.out)); rintro e w8 ⟨rfl, hi, hb, hk⟩; refine ⟨_, rfl, ?_⟩; have n0_ := Aside0.mk (hb); have n1_ := Aside0.mk (hi); clear HB; clear HI104; have HB := n0_; have HI104 := n1_; clear n0_ n1_; (try clear hb); (try clear hb2); (try clear hk); (try clear hi)) | ((with_reducible refine gate_dst (N := 11) rfl ?_); refine Kd.R_lit (Kd.int .i64) _ 3 ?hg (N := 11) ?hd (xs := ([t105, t108, 2, 997, 991, 1, 0, (-3), 1009, 961] : List Int)) (inner := [.int .i64 t105, .int .i64 t108, .int .i64 2, .int .i64 997, .int .i64 991, .int .i64 1, .int .i64 0, .int .i64 (-3), .int .i64 1009, .int .i64 961]) (ok := fun _ => True) (okp := fun _ => True) ?hr ?hp (fun _ hk => hk) trivial (Below.refl _ _) (Nat.le_refl _) (by simp) ?_; (case hd => rfl); (case hg => rfl); (case hr => first | (go_simp; done) | (go_simp; rfl)); (case hp => exact (Reps.one (show Kd.M (Kd.int .i64) _ _ _ t105 [.int .i64 t105] from rfl) (Reps.one (show Kd.M (Kd.int .i64) _ _ _ t108 [.int .i64 t108] from rfl) (Reps.one (show Kd.M (Kd.int .i64) _ _ _ 2 [.int .i64 2] from rfl) (Reps.one (show Kd.M (Kd.int .i64) _ _ _ 997 [.int .i64 997] from rfl) (Reps.one (show Kd.M (Kd.int .i64) _ _ _ 991 [.int .i64 991] from rfl) (Reps.one (show Kd.M (Kd.int .i64) _ _ _ 1 [.int .i64 1] from rfl) (Reps.one (show Kd.M (Kd.int .i64) _ _ _ 0 [.int .i64 0] from rfl) (Reps.one (show Kd.M (Kd.int .i64) _ _ _ (-3) [.int .i64 (-3)] from rfl) (Reps.one (show Kd.M (Kd.int .i64) _ _ _ 1009 [.int .i64 1009] from rfl) (Reps.one (show Kd.M (Kd.int .i64) _ _ _ 961 [.int .i64 961] from rfl) (Reps.none _ _)))))))))))); intro v112 w9 ho10 hb hg_ hnew_; clear hg_ hnew_; (first | rw [← Ny111.out] at ho10 | (simp only [Int.reduceToNat] at ho10; rw [← Ny111.out] at ho10)); have n0_ := Aside0.mk (Kd.R_lower ho10 (below_size (by repeat (first | (with_reducible first | exact HB.out | apply below_alloc | apply pw_below_drewN | apply below_drew1 | refine below_set ?_ (IsS133.ge HI104.out)) | exact HB.out)))); have n1_ := Aside0.mk (IsS133.below (by repeat (first | (with_reducible first | exact HI104.out | apply IsS133.alloc | apply IsS133.drewN | apply IsS133.drew | apply IsS133.set_1 | apply IsS133.set_2) | exact HI104.out)) hb); have n2_ := Aside0.mk (below_step (by repeat (first | (with_reducible first | exact HB.out | apply below_alloc | apply pw_below_drewN | apply below_drew1 | refine below_set ?_ (IsS133.ge HI104.out)) | exact HB.out)) hb); clear HI104; clear HB; have HO113 := n0_; have HI104 := n1_; have HB := n2_; clear n0_ n1_ n2_; clear hb ho10; obtain ⟨Ao11, co11, eo11⟩ := Kd.R_slice HO113.out; subst eo11) | ((with_reducible refine gate_callee (f := 108) rfl ?_); refine goesL_ (some 12) rfl rfl Try.func108 (by kernel_rfl) rfl #[.pointer (some ⟨g104, 0, none⟩), .slice Ao11 y111.length co11] rfl (by (try simp only [List.map_toArray, List.map_cons, List.map_nil]); first | done | rfl | (simp only [List.length_drop, List.length_take]; rfl)) ?_; (with_reducible refine (spec_l1PickInt.calls g104 t101 t109 t110 _ _ y111 t114 t115 t116 w _ ?side1 ?side2 ?side3 ?side4 ?side5 A5.out).mono ?_); (case side1 => repeat (first | (with_reducible first | exact HI104.out | apply IsS133.alloc | apply IsS133.drewN | apply IsS133.drew | apply IsS133.set_1 | apply IsS133.set_2) | exact HI104.out)); (case side2 => repeat (first | (with_reducible first | exact HB.out | apply below_alloc | apply pw_below_drewN | apply below_drew1 | refine below_set ?_ (IsS133.ge HI104.out)) | exact HB.out)); (case side3 => repeat (first | exact (Kd.R_reads' HO113.out).2.2 | (with_reducible refine Kd.C_alloc ?_ _) | (with_reducible refine Kd.C_drewN ?_ _) | (with_reducible refine Kd.C_drew ?_))); (case side4 => exact (Kd.R_reads' HO113.out).2.1); (case side5 => exact far_slice (IsS133.own_ne HI104.out HO113.out (by decide))); rintro e w12 ⟨rfl, hi, hb, hk⟩; refine ⟨_, rfl, ?_⟩; have n0_ := Aside0.mk (Kd.R_mono (Kd.R_keep (IsS133.apart (show IsS133 w _ g104 t101 t109 t110 from by repeat (first | (with_reducible first | exact HI104.out | apply IsS133.alloc | apply IsS133.drewN | apply IsS133.drew | apply IsS133.set_1 | apply IsS133.set_2) | exact HI104.out)) (by (with_reducible repeat (first | apply Kd.R_alloc | apply Kd.R_drewN | apply Kd.R_drew)); exact HO113.out) (by decide)) hk (fun _ h => h.2)) (fun _ h => h.1)); have n1_ := Aside0.mk (hb); have n2_ := Aside0.mk (hi); clear HO113; clear HB; clear HI104; have HO113 := n0_; have HB := n1_; have HI104 := n2_; clear n0_ n1_ n2_; (try clear hb); (try clear hb2); (try clear hk); (try clear hi)))
 go_ret
 exact ⟨by first | rfl | (simp [errW_none, errW_some] <;> rfl) | (simp [*, errW_none, errW_some] <;> rfl), by repeat (first | (with_reducible first | exact HB.out | apply below_alloc | apply pw_below_drewN | apply below_drew1 | refine below_set ?_ (IsS133.ge HI104.out)) | exact HB.out)⟩
end Go.Proofs.Ytldcckcljjlglaa.P

namespace Go.Proofs.Ytldcckcljjlglaa.P
open Go.RowKit Go.Proofs.YtldcckcljjlglaaW.PrintWords Go.Proofs.YtldcckcljjlglaaW.PrintLast Go.Proofs.YtldcckcljjlglaaW.PrintMore
attribute [local go_sem] max2_int min2_int max_two min_two max_three min_three max_four min_four   -- for this text's walks alone
set_option linter.unusedVariables false
set_option linter.unusedSimpArgs false
/-! ### spec_DrawPolyAtPrime: function 60 -/
def spec_DrawPolyAtPrime.f (k : Nat) (l0 : List Int) : Option ((List (S40)) × Int) := (spec_l1New.f k l0).bind fun bt101 => ((spec_l24Draw.f k bt101.1 bt101.2.1 bt101.2.2).bind fun bt105 => ((spec_l1PickInt.f bt101.1 bt105.2.1 bt105.2.2 (([(-1), 1, 0, 5, 101, 1000, 1001] : List Int))).bind fun bt113 => (some (bt105.1, bt113.1))))
set_option maxHeartbeats 8000000 in
set_option maxRecDepth 100000 in
theorem spec_DrawPolyAtPrime.calls (k : Nat) (A0 : Option Addr) (c0 : Nat) (l0 : List Int) (r1 : List (S40)) (r2 : Int) (w : World) (hr0 : Kd.C (Kd.int .u8) w A0 l0.length l0) (hc0 : l0.length ≤ c0) (h : spec_DrawPolyAtPrime.f k l0 = some (r1, r2)) :
  Calls Try.prog 60 #[.slice A0 l0.length c0] w fun e w' => ∃ v0_ : Value, e = .returned (.tuple #[v0_, .int .i64 r2]) ∧ Kd.R k40 40 w' w.heap.size (fun _ => True) v0_ r1 ∧ Below w.heap.size w w' := by
 have HR0 := Aside0.mk hr0
 have HC0 := Aside0.mk hc0
 clear hr0 hc0
 have HB := Aside0.mk (Below.refl w.heap.size w)
 have H : ((spec_l1New.f k l0).bind fun bt101 => ((spec_l24Draw.f k bt101.1 bt101.2.1 bt101.2.2).bind fun bt105 => ((spec_l1PickInt.f bt101.1 bt105.2.1 bt105.2.2 (([(-1), 1, 0, 5, 101, 1000, 1001] : List Int))).bind fun bt113 => (some (bt105.1, bt113.1))))) = some (r1, r2) := h
 clear h
 replace H := Option.bind_eq_some_iff.mp H
 obtain ⟨⟨t101, t102, t103⟩, A20, H⟩ := H
 replace H : ((spec_l24Draw.f k t101 t102 t103).bind fun bt105 => ((spec_l1PickInt.f t101 bt105.2.1 bt105.2.2 (([(-1), 1, 0, 5, 101, 1000, 1001] : List Int))).bind fun bt113 => (some (bt105.1, bt113.1)))) = some (r1, r2) := H
 have A2 := Aside0.mk A20
 clear A20
 replace H := Option.bind_eq_some_iff.mp H
 obtain ⟨⟨t105, t108, t109⟩, A30, H⟩ := H
 replace H : ((spec_l1PickInt.f t101 t108 t109 (([(-1), 1, 0, 5, 101, 1000, 1001] : List Int))).bind fun bt113 => (some (t105, bt113.1))) = some (r1, r2) := H
 have A3 := Aside0.mk A30
 clear A30
 obtain ⟨y110, hy110⟩ : ∃ y_ : List Int, y_ = (([(-1), 1, 0, 5, 101, 1000, 1001] : List Int)) := ⟨_, rfl⟩
 replace H : ((spec_l1PickInt.f t101 t108 t109 y110).bind fun bt113 => (some (t105, bt113.1))) = some (r1, r2) := by first | (rw [hy110]; with_reducible exact H) | (have H2_ := (Option.bind_some _ _).symm.trans H; rw [hy110]; with_reducible exact H2_) | (have H2_ := (Option.bind_some _ _).symm.trans H; with_reducible exact H2_) | with_reducible exact H | (rw [hy110]; exact H) | exact H
 have Ny110 := Aside0.mk hy110
 clear hy110
 replace H := Option.bind_eq_some_iff.mp H
 obtain ⟨⟨t113, t114, t115⟩, A40, H⟩ := H
 replace H : (some (t105, t113)) = some (r1, r2) := H
 have A4 := Aside0.mk A40
 clear A40
 simp only [Option.some.injEq, Prod.mk.injEq] at H
 obtain ⟨rfl, rfl⟩ := H
 go_enter Try.func60, Try.ntmps60
 go_wp2_with (first | ((with_reducible refine gate_callee (f := 99) rfl ?_); refine goesL_ (some 6) rfl rfl Try.func99 (by kernel_rfl) rfl #[.slice A0 l0.length c0] rfl (by (try simp only [List.map_toArray, List.map_cons, List.map_nil]); first | done | rfl | (simp only [List.length_drop, List.length_take]; rfl)) ?_; (with_reducible refine (spec_l1New.calls k _ _ l0 t101 t102 t103 w _ ?side1 ?side2 ?side3 A2.out).mono ?_); (case side1 => repeat (first | (with_reducible first | exact HB.out | apply below_alloc | apply pw_below_drewN | apply below_drew1) | exact HB.out)); (case side2 => exact HR0.out); (case side3 => exact HC0.out); rintro e w5 ⟨g104, rfl, hi, hb, hb2⟩; refine ⟨_, rfl, ?_⟩; have n0_ := Aside0.mk (hb); have n1_ := Aside0.mk (hi); clear HB; have HB := n0_; have HI104 := n1_; clear n0_ n1_; (try clear hb); (try clear hb2); (try clear hk); (try clear hi)) | ((with_reducible refine gate_callee (f := 98) rfl ?_); refine goesL_ (some 8) rfl rfl Try.func98 (by kernel_rfl) rfl #[.pointer (some ⟨g104, 0, none⟩)] rfl (by (try simp only [List.map_toArray, List.map_cons, List.map_nil]); first | done | rfl | (simp only [List.length_drop, List.length_take]; rfl)) ?_; (with_reducible refine (spec_l24Draw.calls k g104 t101 t102 t103 t105 t108 t109 w _ ?side1 ?side2 A3.out).mono ?_); (case side1 => repeat (first | (with_reducible first | exact HI104.out | apply IsS133.alloc | apply IsS133.drewN | apply IsS133.drew | apply IsS133.set_1 | apply IsS133.set_2) | exact HI104.out)); (case side2 => repeat (first | (with_reducible first | exact HB.out | apply below_alloc | apply pw_below_drewN | apply below_drew1 | refine below_set ?_ (IsS133.ge HI104.out)) | exact HB.out)); rintro e w6 ⟨v106, rfl, ho0, hi, hb, hk⟩; refine ⟨_, rfl, ?_⟩; have n0_ := Aside0.mk (Kd.R_lower ho0 (below_size (by repeat (first | (with_reducible first | exact HB.out | apply below_alloc | apply pw_below_drewN | apply below_drew1 | refine below_set ?_ (IsS133.ge HI104.out)) | exact HB.out)))); have n1_ := Aside0.mk (hb); have n2_ := Aside0.mk (hi); clear HB; clear HI104; have HO107 := n0_; have HB := n1_; have HI104 := n2_; clear n0_ n1_ n2_; (try clear hb); (try clear hb2); (try clear hk); (try clear hi); (try clear ho0)) | ((with_reducible refine gate_dst (N := 10) rfl ?_); refine Kd.R_lit (Kd.int .i64) _ 3 ?hg (N := 10) ?hd (xs := ([(-1), 1, 0, 5, 101, 1000, 1001] : List Int)) (inner := [.int .i64 (-1), .int .i64 1, .int .i64 0, .int .i64 5, .int .i64 101, .int .i64 1000, .int .i64 1001]) (ok := fun _ => True) (okp := fun _ => True) ?hr ?hp (fun _ hk => hk) trivial (Below.refl _ _) (Nat.le_refl _) (by simp) ?_; (case hd => rfl); (case hg => rfl); (case hr => first | (go_simp; done) | (go_simp; rfl)); (case hp => exact (Reps.one (show Kd.M (Kd.int .i64) _ _ _ (-1) [.int .i64 (-1)] from rfl) (Reps.one (show Kd.M (Kd.int .i64) _ _ _ 1 [.int .i64 1] from rfl) (Reps.one (show Kd.M (Kd.int .i64) _ _ _ 0 [.int .i64 0] from rfl) (Reps.one (show Kd.M (Kd.int .i64) _ _ _ 5 [.int .i64 5] from rfl) (Reps.one (show Kd.M (Kd.int .i64) _ _ _ 101 [.int .i64 101] from rfl) (Reps.one (show Kd.M (Kd.int .i64) _ _ _ 1000 [.int .i64 1000] from rfl) (Reps.one (show Kd.M (Kd.int .i64) _ _ _ 1001 [.int .i64 1001] from rfl) (Reps.none _ _))))))))); intro v111 w7 ho8 hb hg_ hnew_; clear hg_ hnew_; (first | rw [← Ny110.out] at ho8 | (simp only [Int.reduceToNat] at ho8; rw [← Ny110.out] at ho8)); have n0_ := Aside0.mk (Kd.R_below (by (with_reducible repeat (first | apply Kd.R_alloc | apply Kd.R_drewN | apply Kd.R_drew)); exact HO107.out) hb); have n1_ := Aside0.mk (Kd.R_lower ho8 (below_size (by repeat (first | (with_reducible first | exact HB.out | apply below_alloc | apply pw_below_drewN | apply below_drew1 | refine below_set ?_ (IsS133.ge HI104.out)) | exact HB.out)))); have n2_ := Aside0.mk (IsS133.below (by repeat (first | (with_reducible first | exact HI104.out | apply IsS133.alloc | apply IsS133.drewN | apply IsS133.drew | apply IsS133.set_1 | apply IsS133.set_2) | exact HI104.out)) hb); have n3_ := Aside0.mk (below_step (by repeat (first | (with_reducible first | exact HB.out | apply below_alloc | apply pw_below_drewN | apply below_drew1 | refine below_set ?_ (IsS133.ge HI104.out)) | exact HB.out)) hb); clear HO107; clear HI104; clear HB; have HO107 := n0_; have HO112 := n1_; have HI104 := n2_; have HB := n3_; clear n0_ n1_ n2_ n3_; clear hb ho8; obtain ⟨Ao9, co9, eo9⟩ := Kd.R_slice HO112.out; subst eo9) | ((with_reducible refine gate_callee (f := 108) rfl ?_); refine goesL_ (some 11) rfl rfl Try.func108 (by kernel_rfl) rfl #[.pointer (some ⟨g104, 0, none⟩), .slice Ao9 y110.length co9] rfl (by (try simp only [List.map_toArray, List.map_cons, List.map_nil]); first | done | rfl | (simp only [List.length_drop, List.length_take]; rfl)) ?_; (with_reducible refine (spec_l1PickInt.calls g104 t101 t108 t109 _ _ y110 t113 t114 t115 w _ ?side1 ?side2 ?side3 ?side4 ?side5 A4.out).mono ?_); (case side1 => repeat (first | (with_reducible first | exact HI104.out | apply IsS133.alloc | apply IsS133.drewN | apply IsS133.drew | apply IsS133.set_1 | apply IsS133.set_2) | exact HI104.out)); (case side2 => repeat (first | (with_reducible first | exact HB.out | apply below_alloc | apply pw_below_drewN | apply below_drew1 | refine below_set ?_ (IsS133.ge HI104.out)) | exact HB.out)); (case side3 => repeat (first | exact (Kd.R_reads' HO112.out).2.2 | (with_reducible refine Kd.C_alloc ?_ _) | (with_reducible refine Kd.C_drewN ?_ _) | (with_reducible refine Kd.C_drew ?_))); (case side4 => exact (Kd.R_reads' HO112.out).2.1); (case side5 => exact far_slice (IsS133.own_ne HI104.out HO112.out (by decide))); rintro e w10 ⟨rfl, hi, hb, hk⟩; refine ⟨_, rfl, ?_⟩; have n0_ := Aside0.mk (Kd.R_mono (Kd.R_keep (IsS133.apart (show IsS133 w _ g104 t101 t108 t109 from by repeat (first | (with_reducible first | exact HI104.out | apply IsS133.alloc | apply IsS133.drewN | apply IsS133.drew | apply IsS133.set_1 | apply IsS133.set_2) | exact HI104.out)) (by (with_reducible repeat (first | apply Kd.R_alloc | apply Kd.R_drewN | apply Kd.R_drew)); exact HO107.out) (by decide)) hk (fun _ h => h.2)) (fun _ h => h.1)); have n1_ := Aside0.mk (Kd.R_mono (Kd.R_keep (IsS133.apart (show IsS133 w _ g104 t101 t108 t109 from by repeat (first | (with_reducible first | exact HI104.out | apply IsS133.alloc | apply IsS133.drewN | apply IsS133.drew | apply IsS133.set_1 | apply IsS133.set_2) | exact HI104.out)) (by (with_reducible repeat (first | apply Kd.R_alloc | apply Kd.R_drewN | apply Kd.R_drew)); exact HO112.out) (by decide)) hk (fun _ h => h.2)) (fun _ h => h.1)); have n2_ := Aside0.mk (hb); have n3_ := Aside0.mk (hi); clear HO107; clear HO112; clear HB; clear HI104; have HO107 := n0_; have HO112 := n1_; have HB := n2_; have HI104 := n3_; clear n0_ n1_ n2_ n3_; (try clear hb); (try clear hb2); (try clear hk); (try clear hi)))
 go_ret2
 exact ⟨_, by first | rfl | (simp [errW_none, errW_some] <;> rfl) | (simp [*, errW_none, errW_some] <;> rfl), by (with_reducible repeat (first | apply Kd.R_alloc | apply Kd.R_drewN | apply Kd.R_drew)); exact HO107.out, by repeat (first | (with_reducible first | exact HB.out | apply below_alloc | apply pw_below_drewN | apply below_drew1 | refine below_set ?_ (IsS133.ge HI104.out)) | exact HB.out)⟩
end Go.Proofs.Ytldcckcljjlglaa.P

namespace Go.Proofs.Ytldcckcljjlglaa.P
open Go.RowKit Go.Proofs.YtldcckcljjlglaaW.PrintWords Go.Proofs.YtldcckcljjlglaaW.PrintLast Go.Proofs.YtldcckcljjlglaaW.PrintMore
attribute [local go_sem] max2_int min2_int max_two min_two max_three min_three max_four min_four   -- for this text's walks alone
set_option linter.unusedVariables false
set_option linter.unusedSimpArgs false
/-! ### laws_FnFields: function 10 -/
mutual
def laws_FnFields.j0 : Nat → List (S40) → Int → Int → List Int → List (S40) → Int → List (S40) → Bool → List (S40) → Bool → Option (Bool)
 | 0, _, _, _, _, _, _, _, _, _, _ => none
 | k + 1, x3, x4, x5, x6, x7, x8, x9, x10, x14, x101 => if x101 = true then (some false) else (if x5 ≥ 0 then ((laws_total.f k x6).bind fun t139 => (if t139 = (wrap64 (x4 * x4)) then (if 0 < (x6.length : Int) then (laws_FnFields.j1 k x3 x4 x5 x7 x8 x9 x10 x14 ((rd x6 0) != x5)) else (none)) else (laws_FnFields.j1 k x3 x4 x5 x7 x8 x9 x10 x14 true))) else (laws_FnFields.j1 k x3 x4 x5 x7 x8 x9 x10 x14 false))
def laws_FnFields.j1 : Nat → List (S40) → Int → Int → List (S40) → Int → List (S40) → Bool → List (S40) → Bool → Option (Bool)
 | 0, _, _, _, _, _, _, _, _, _ => none
 | k + 1, x3, x4, x5, x7, x8, x9, x10, x14, x118 => if x118 = true then (some false) else ((spec_AreLines.f k x3).bind fun t141 => (if t141 = true then (if x4 = 101 then ((impl_PolyAtPrime.f k x3 101).bind fun t142 => (laws_FnFields.j2 k x7 x8 x9 x10 x14 (x5 != t142))) else (laws_FnFields.j2 k x7 x8 x9 x10 x14 false)) else (laws_FnFields.j2 k x7 x8 x9 x10 x14 false)))
def laws_FnFields.j2 : Nat → List (S40) → Int → List (S40) → Bool → List (S40) → Bool → Option (Bool)
 | 0, _, _, _, _, _, _ => none
 | k + 1, x7, x8, x9, x10, x14, x130 => if x130 = true then (some false) else (if x10 = true then ((spec_CountRegions.f k x7).bind fun t143 => ((spec_CountRegions.f k x9).bind fun t144 => ((impl_PointsOn.f k x7 x8).bind fun t145 => (laws_FnFields.j3 k x14 (t143 != (wrap64 ((wrap64 (t144 + t145)) + 1))))))) else (laws_FnFields.j3 k x14 false))
def laws_FnFields.j3 : Nat → List (S40) → Bool → Option (Bool)
 | 0, _, _ => none
 | k + 1, x14, x143 => if x143 = true then (some false) else ((spec_AreLines.f k x14).bind fun t146 => (if t146 = true then ((impl_PolyAtPrime.f k x14 (-1)).bind fun t147 => ((spec_CountRegions.f k x14).bind fun t148 => (some (t147 == t148)))) else (some true)))
end
def laws_FnFields.f (k : Nat) (l0 : List Int) : Option (Bool) := (laws_big.f l0).bind fun t101 => (if t101 = true then (some true) else ((spec_DrawCountFree.f k l0).bind fun bt102 => ((impl_CountFree.f k bt102.1 bt102.2).bind fun t106 => ((impl_OnRow.f k bt102.1 bt102.2).bind fun t107 => ((spec_DrawWithoutLine.f k l0).bind fun bt110 => ((impl_WithoutLine.f k bt110.1 bt110.2).bind fun bt114 => ((spec_WithoutLine.f k bt110.1 bt110.2).bind fun bt118 => ((spec_DrawIsPrime.f k l0).bind fun t122 => ((spec_DrawPolyAtPrime.f k l0).bind fun bt123 => ((spec_CountFree.f k bt102.1 bt102.2).bind fun t127 => (if t106 = t127 then ((spec_OnRow.f k bt102.1 bt102.2).bind fun t128 => ((laws_sameInts.f k t107 t128).bind fun t131 => (if t131 = true then (if (bt114.2 != bt118.2) = true then (laws_FnFields.j0 k bt102.1 bt102.2 t106 t107 bt110.1 bt110.2 bt114.1 bt114.2 bt123.1 true) else ((laws_sameLines.f k bt114.1 bt118.1).bind fun t132 => (if t132 = true then ((impl_IsPrime.f k t122).bind fun t133 => ((spec_IsPrime.f k t122).bind fun t134 => (if (t133 != t134) = true then (laws_FnFields.j0 k bt102.1 bt102.2 t106 t107 bt110.1 bt110.2 bt114.1 bt114.2 bt123.1 true) else ((impl_PolyAtPrime.f k bt123.1 bt123.2).bind fun t135 => ((spec_PolyAtPrime.f k bt123.1 bt123.2).bind fun t136 => (if t135 = t136 then ((impl_PointsOn.f k bt110.1 bt110.2).bind fun t137 => ((spec_PointsOn.f k bt110.1 bt110.2).bind fun t138 => (laws_FnFields.j0 k bt102.1 bt102.2 t106 t107 bt110.1 bt110.2 bt114.1 bt114.2 bt123.1 (t137 != t138)))) else (laws_FnFields.j0 k bt102.1 bt102.2 t106 t107 bt110.1 bt110.2 bt114.1 bt114.2 bt123.1 true))))))) else (laws_FnFields.j0 k bt102.1 bt102.2 t106 t107 bt110.1 bt110.2 bt114.1 bt114.2 bt123.1 true)))) else (laws_FnFields.j0 k bt102.1 bt102.2 t106 t107 bt110.1 bt110.2 bt114.1 bt114.2 bt123.1 true)))) else (laws_FnFields.j0 k bt102.1 bt102.2 t106 t107 bt110.1 bt110.2 bt114.1 bt114.2 bt123.1 true))))))))))))
theorem laws_FnFields.j0_no : ∀ k y0 y1 y2 y3 y4 y5 y6 y7 y8, laws_FnFields.j0 k y0 y1 y2 y3 y4 y5 y6 y7 y8 true ≠ some true := by
 intro k
 intros
 cases k <;> simp [laws_FnFields.j0]
theorem laws_FnFields.j1_no : ∀ k y0 y1 y2 y3 y4 y5 y6 y7, laws_FnFields.j1 k y0 y1 y2 y3 y4 y5 y6 y7 true ≠ some true := by
 intro k
 intros
 cases k <;> simp [laws_FnFields.j1]
set_option maxHeartbeats 8000000 in
set_option maxRecDepth 100000 in
theorem laws_FnFields.calls (k : Nat) (A0 : Option Addr) (c0 : Nat) (l0 : List Int) (r : Bool) (w : World) (hr0 : Kd.C (Kd.int .u8) w A0 l0.length l0) (hc0 : l0.length ≤ c0) (h : laws_FnFields.f k l0 = some true) :
  Calls Try.prog 10 #[.slice A0 l0.length c0] w fun e w' => e = .returned (.bool true) ∧ Below w.heap.size w w' := by
 have HR0 := Aside0.mk hr0
 have HC0 := Aside0.mk hc0
 clear hr0 hc0
 have HB := Aside0.mk (Below.refl w.heap.size w)
 have H : ((laws_big.f l0).bind fun t101 => (if t101 = true then (some true) else ((spec_DrawCountFree.f k l0).bind fun bt102 => ((impl_CountFree.f k bt102.1 bt102.2).bind fun t106 => ((impl_OnRow.f k bt102.1 bt102.2).bind fun t107 => ((spec_DrawWithoutLine.f k l0).bind fun bt110 => ((impl_WithoutLine.f k bt110.1 bt110.2).bind fun bt114 => ((spec_WithoutLine.f k bt110.1 bt110.2).bind fun bt118 => ((spec_DrawIsPrime.f k l0).bind fun t122 => ((spec_DrawPolyAtPrime.f k l0).bind fun bt123 => ((spec_CountFree.f k bt102.1 bt102.2).bind fun t127 => (if t106 = t127 then ((spec_OnRow.f k bt102.1 bt102.2).bind fun t128 => ((laws_sameInts.f k t107 t128).bind fun t131 => (if t131 = true then (if (bt114.2 != bt118.2) = true then (laws_FnFields.j0 k bt102.1 bt102.2 t106 t107 bt110.1 bt110.2 bt114.1 bt114.2 bt123.1 true) else ((laws_sameLines.f k bt114.1 bt118.1).bind fun t132 => (if t132 = true then ((impl_IsPrime.f k t122).bind fun t133 => ((spec_IsPrime.f k t122).bind fun t134 => (if (t133 != t134) = true then (laws_FnFields.j0 k bt102.1 bt102.2 t106 t107 bt110.1 bt110.2 bt114.1 bt114.2 bt123.1 true) else ((impl_PolyAtPrime.f k bt123.1 bt123.2).bind fun t135 => ((spec_PolyAtPrime.f k bt123.1 bt123.2).bind fun t136 => (if t135 = t136 then ((impl_PointsOn.f k bt110.1 bt110.2).bind fun t137 => ((spec_PointsOn.f k bt110.1 bt110.2).bind fun t138 => (laws_FnFields.j0 k bt102.1 bt102.2 t106 t107 bt110.1 bt110.2 bt114.1 bt114.2 bt123.1 (t137 != t138)))) else (laws_FnFields.j0 k bt102.1 bt102.2 t106 t107 bt110.1 bt110.2 bt114.1 bt114.2 bt123.1 true))))))) else (laws_FnFields.j0 k bt102.1 bt102.2 t106 t107 bt110.1 bt110.2 bt114.1 bt114.2 bt123.1 true)))) else (laws_FnFields.j0 k bt102.1 bt102.2 t106 t107 bt110.1 bt110.2 bt114.1 bt114.2 bt123.1 true)))) else (laws_FnFields.j0 k bt102.1 bt102.2 t106 t107 bt110.1 bt110.2 bt114.1 bt114.2 bt123.1 true))))))))))))) = some true := h
 clear h
 replace H := Option.bind_eq_some_iff.mp H
 obtain ⟨t101, A20, H⟩ := H
 replace H : (if t101 = true then (some true) else ((spec_DrawCountFree.f k l0).bind fun bt102 => ((impl_CountFree.f k bt102.1 bt102.2).bind fun t106 => ((impl_OnRow.f k bt102.1 bt102.2).bind fun t107 => ((spec_DrawWithoutLine.f k l0).bind fun bt110 => ((impl_WithoutLine.f k bt110.1 bt110.2).bind fun bt114 => ((spec_WithoutLine.f k bt110.1 bt110.2).bind fun bt118 => ((spec_DrawIsPrime.f k l0).bind fun t122 => ((spec_DrawPolyAtPrime.f k l0).bind fun bt123 => ((spec_CountFree.f k bt102.1 bt102.2).bind fun t127 => (if t106 = t127 then ((spec_OnRow.f k bt102.1 bt102.2).bind fun t128 => ((laws_sameInts.f k t107 t128).bind fun t131 => (if t131 = true then (if (bt114.2 != bt118.2) = true then (laws_FnFields.j0 k bt102.1 bt102.2 t106 t107 bt110.1 bt110.2 bt114.1 bt114.2 bt123.1 true) else ((laws_sameLines.f k bt114.1 bt118.1).bind fun t132 => (if t132 = true then ((impl_IsPrime.f k t122).bind fun t133 => ((spec_IsPrime.f k t122).bind fun t134 => (if (t133 != t134) = true then (laws_FnFields.j0 k bt102.1 bt102.2 t106 t107 bt110.1 bt110.2 bt114.1 bt114.2 bt123.1 true) else ((impl_PolyAtPrime.f k bt123.1 bt123.2).bind fun t135 => ((spec_PolyAtPrime.f k bt123.1 bt123.2).bind fun t136 => (if t135 = t136 then ((impl_PointsOn.f k bt110.1 bt110.2).bind fun t137 => ((spec_PointsOn.f k bt110.1 bt110.2).bind fun t138 => (laws_FnFields.j0 k bt102.1 bt102.2 t106 t107 bt110.1 bt110.2 bt114.1 bt114.2 bt123.1 (t137 != t138)))) else (laws_FnFields.j0 k bt102.1 bt102.2 t106 t107 bt110.1 bt110.2 bt114.1 bt114.2 bt123.1 true))))))) else (laws_FnFields.j0 k bt102.1 bt102.2 t106 t107 bt110.1 bt110.2 bt114.1 bt114.2 bt123.1 true)))) else (laws_FnFields.j0 k bt102.1 bt102.2 t106 t107 bt110.1 bt110.2 bt114.1 bt114.2 bt123.1 true)))) else (laws_FnFields.j0 k bt102.1 bt102.2 t106 t107 bt110.1 bt110.2 bt114.1 bt114.2 bt123.1 true)))))))))))) = some true := H
 have A2 := Aside0.mk A20
 clear A20
 by_cases c3 : t101 = true
 ·subst c3
  have H1 : (some true : Option Bool) = some true := rfl
  clear H
  have H := H1
  clear H1
  clear H
  go_enter Try.func10, Try.ntmps10
  go_wp2_with (first | ((with_reducible refine gate_callee (f := 34) rfl ?_); refine goesL_ (some 17) rfl rfl Try.func34 (by kernel_rfl) rfl #[.slice A0 l0.length c0] rfl (by (try simp only [List.map_toArray, List.map_cons, List.map_nil]); first | done | rfl | (simp only [List.length_drop, List.length_take]; rfl)) ?_; (with_reducible refine (laws_big.calls _ _ l0 true _ ?side1 ?side2 A2.out).mono ?_); (case side1 => repeat (first | exact HR0.out | (with_reducible refine Kd.C_alloc ?_ _) | (with_reducible refine Kd.C_drewN ?_ _) | (with_reducible refine Kd.C_drew ?_))); (case side2 => exact HC0.out); rintro e w' ⟨rfl, ⟨nd, rfl⟩⟩; refine ⟨_, rfl, ?_⟩))
  go_ret
  exact ⟨by first | rfl | (simp [errW_none, errW_some] <;> rfl) | (simp [*, errW_none, errW_some] <;> rfl), by repeat (first | (with_reducible first | exact HB.out | apply below_alloc | apply pw_below_drewN | apply below_drew1) | exact HB.out)⟩
 ·replace c3 := Bool.eq_false_iff.mpr c3
  subst c3
  have H1 : ((spec_DrawCountFree.f k l0).bind fun bt102 => ((impl_CountFree.f k bt102.1 bt102.2).bind fun t106 => ((impl_OnRow.f k bt102.1 bt102.2).bind fun t107 => ((spec_DrawWithoutLine.f k l0).bind fun bt110 => ((impl_WithoutLine.f k bt110.1 bt110.2).bind fun bt114 => ((spec_WithoutLine.f k bt110.1 bt110.2).bind fun bt118 => ((spec_DrawIsPrime.f k l0).bind fun t122 => ((spec_DrawPolyAtPrime.f k l0).bind fun bt123 => ((spec_CountFree.f k bt102.1 bt102.2).bind fun t127 => (if t106 = t127 then ((spec_OnRow.f k bt102.1 bt102.2).bind fun t128 => ((laws_sameInts.f k t107 t128).bind fun t131 => (if t131 = true then (if (bt114.2 != bt118.2) = true then (laws_FnFields.j0 k bt102.1 bt102.2 t106 t107 bt110.1 bt110.2 bt114.1 bt114.2 bt123.1 true) else ((laws_sameLines.f k bt114.1 bt118.1).bind fun t132 => (if t132 = true then ((impl_IsPrime.f k t122).bind fun t133 => ((spec_IsPrime.f k t122).bind fun t134 => (if (t133 != t134) = true then (laws_FnFields.j0 k bt102.1 bt102.2 t106 t107 bt110.1 bt110.2 bt114.1 bt114.2 bt123.1 true) else ((impl_PolyAtPrime.f k bt123.1 bt123.2).bind fun t135 => ((spec_PolyAtPrime.f k bt123.1 bt123.2).bind fun t136 => (if t135 = t136 then ((impl_PointsOn.f k bt110.1 bt110.2).bind fun t137 => ((spec_PointsOn.f k bt110.1 bt110.2).bind fun t138 => (laws_FnFields.j0 k bt102.1 bt102.2 t106 t107 bt110.1 bt110.2 bt114.1 bt114.2 bt123.1 (t137 != t138)))) else (laws_FnFields.j0 k bt102.1 bt102.2 t106 t107 bt110.1 bt110.2 bt114.1 bt114.2 bt123.1 true))))))) else (laws_FnFields.j0 k bt102.1 bt102.2 t106 t107 bt110.1 bt110.2 bt114.1 bt114.2 bt123.1 true)))) else (laws_FnFields.j0 k bt102.1 bt102.2 t106 t107 bt110.1 bt110.2 bt114.1 bt114.2 bt123.1 true)))) else (laws_FnFields.j0 k bt102.1 bt102.2 t106 t107 bt110.1 bt110.2 bt114.1 bt114.2 bt123.1 true))))))))))) = some true := by rw [if_neg (show ¬ (false = true) by decide)] at H; exact H
  clear H
  have H := H1
  clear H1
  replace H := Option.bind_eq_some_iff.mp H
  obtain ⟨⟨t102, t103⟩, A40, H⟩ := H
  replace H : ((impl_CountFree.f k t102 t103).bind fun t106 => ((impl_OnRow.f k t102 t103).bind fun t107 => ((spec_DrawWithoutLine.f k l0).bind fun bt110 => ((impl_WithoutLine.f k bt110.1 bt110.2).bind fun bt114 => ((spec_WithoutLine.f k bt110.1 bt110.2).bind fun bt118 => ((spec_DrawIsPrime.f k l0).bind fun t122 => ((spec_DrawPolyAtPrime.f k l0).bind fun bt123 => ((spec_CountFree.f k t102 t103).bind fun t127 => (if t106 = t127 then ((spec_OnRow.f k t102 t103).bind fun t128 => ((laws_sameInts.f k t107 t128).bind fun t131 => (if t131 = true then (if (bt114.2 != bt118.2) = true then (laws_FnFields.j0 k t102 t103 t106 t107 bt110.1 bt110.2 bt114.1 bt114.2 bt123.1 true) else ((laws_sameLines.f k bt114.1 bt118.1).bind fun t132 => (if t132 = true then ((impl_IsPrime.f k t122).bind fun t133 => ((spec_IsPrime.f k t122).bind fun t134 => (if (t133 != t134) = true then (laws_FnFields.j0 k t102 t103 t106 t107 bt110.1 bt110.2 bt114.1 bt114.2 bt123.1 true) else ((impl_PolyAtPrime.f k bt123.1 bt123.2).bind fun t135 => ((spec_PolyAtPrime.f k bt123.1 bt123.2).bind fun t136 => (if t135 = t136 then ((impl_PointsOn.f k bt110.1 bt110.2).bind fun t137 => ((spec_PointsOn.f k bt110.1 bt110.2).bind fun t138 => (laws_FnFields.j0 k t102 t103 t106 t107 bt110.1 bt110.2 bt114.1 bt114.2 bt123.1 (t137 != t138)))) else (laws_FnFields.j0 k t102 t103 t106 t107 bt110.1 bt110.2 bt114.1 bt114.2 bt123.1 true))))))) else (laws_FnFields.j0 k t102 t103 t106 t107 bt110.1 bt110.2 bt114.1 bt114.2 bt123.1 true)))) else (laws_FnFields.j0 k t102 t103 t106 t107 bt110.1 bt110.2 bt114.1 bt114.2 bt123.1 true)))) else (laws_FnFields.j0 k t102 t103 t106 t107 bt110.1 bt110.2 bt114.1 bt114.2 bt123.1 true)))))))))) = some true := H
  have A4 := Aside0.mk A40
  clear A40
  replace H := Option.bind_eq_some_iff.mp H
  obtain ⟨t106, A50, H⟩ := H
  replace H : ((impl_OnRow.f k t102 t103).bind fun t107 => ((spec_DrawWithoutLine.f k l0).bind fun bt110 => ((impl_WithoutLine.f k bt110.1 bt110.2).bind fun bt114 => ((spec_WithoutLine.f k bt110.1 bt110.2).bind fun bt118 => ((spec_DrawIsPrime.f k l0).bind fun t122 => ((spec_DrawPolyAtPrime.f k l0).bind fun bt123 => ((spec_CountFree.f k t102 t103).bind fun t127 => (if t106 = t127 then ((spec_OnRow.f k t102 t103).bind fun t128 => ((laws_sameInts.f k t107 t128).bind fun t131 => (if t131 = true then (if (bt114.2 != bt118.2) = true then (laws_FnFields.j0 k t102 t103 t106 t107 bt110.1 bt110.2 bt114.1 bt114.2 bt123.1 true) else ((laws_sameLines.f k bt114.1 bt118.1).bind fun t132 => (if t132 = true then ((impl_IsPrime.f k t122).bind fun t133 => ((spec_IsPrime.f k t122).bind fun t134 => (if (t133 != t134) = true then (laws_FnFields.j0 k t102 t103 t106 t107 bt110.1 bt110.2 bt114.1 bt114.2 bt123.1 true) else ((impl_PolyAtPrime.f k bt123.1 bt123.2).bind fun t135 => ((spec_PolyAtPrime.f k bt123.1 bt123.2).bind fun t136 => (if t135 = t136 then ((impl_PointsOn.f k bt110.1 bt110.2).bind fun t137 => ((spec_PointsOn.f k bt110.1 bt110.2).bind fun t138 => (laws_FnFields.j0 k t102 t103 t106 t107 bt110.1 bt110.2 bt114.1 bt114.2 bt123.1 (t137 != t138)))) else (laws_FnFields.j0 k t102 t103 t106 t107 bt110.1 bt110.2 bt114.1 bt114.2 bt123.1 true))))))) else (laws_FnFields.j0 k t102 t103 t106 t107 bt110.1 bt110.2 bt114.1 bt114.2 bt123.1 true)))) else (laws_FnFields.j0 k t102 t103 t106 t107 bt110.1 bt110.2 bt114.1 bt114.2 bt123.1 true)))) else (laws_FnFields.j0 k t102 t103 t106 t107 bt110.1 bt110.2 bt114.1 bt114.2 bt123.1 true))))))))) = some true := H
  have A5 := Aside0.mk A50
  clear A50
  replace H := Option.bind_eq_some_iff.mp H
  obtain ⟨t107, A60, H⟩ := H
  replace H : ((spec_DrawWithoutLine.f k l0).bind fun bt110 => ((impl_WithoutLine.f k bt110.1 bt110.2).bind fun bt114 => ((spec_WithoutLine.f k bt110.1 bt110.2).bind fun bt118 => ((spec_DrawIsPrime.f k l0).bind fun t122 => ((spec_DrawPolyAtPrime.f k l0).bind fun bt123 => ((spec_CountFree.f k t102 t103).bind fun t127 => (if t106 = t127 then ((spec_OnRow.f k t102 t103).bind fun t128 => ((laws_sameInts.f k t107 t128).bind fun t131 => (if t131 = true then (if (bt114.2 != bt118.2) = true then (laws_FnFields.j0 k t102 t103 t106 t107 bt110.1 bt110.2 bt114.1 bt114.2 bt123.1 true) else ((laws_sameLines.f k bt114.1 bt118.1).bind fun t132 => (if t132 = true then ((impl_IsPrime.f k t122).bind fun t133 => ((spec_IsPrime.f k t122).bind fun t134 => (if (t133 != t134) = true then (laws_FnFields.j0 k t102 t103 t106 t107 bt110.1 bt110.2 bt114.1 bt114.2 bt123.1 true) else ((impl_PolyAtPrime.f k bt123.1 bt123.2).bind fun t135 => ((spec_PolyAtPrime.f k bt123.1 bt123.2).bind fun t136 => (if t135 = t136 then ((impl_PointsOn.f k bt110.1 bt110.2).bind fun t137 => ((spec_PointsOn.f k bt110.1 bt110.2).bind fun t138 => (laws_FnFields.j0 k t102 t103 t106 t107 bt110.1 bt110.2 bt114.1 bt114.2 bt123.1 (t137 != t138)))) else (laws_FnFields.j0 k t102 t103 t106 t107 bt110.1 bt110.2 bt114.1 bt114.2 bt123.1 true))))))) else (laws_FnFields.j0 k t102 t103 t106 t107 bt110.1 bt110.2 bt114.1 bt114.2 bt123.1 true)))) else (laws_FnFields.j0 k t102 t103 t106 t107 bt110.1 bt110.2 bt114.1 bt114.2 bt123.1 true)))) else (laws_FnFields.j0 k t102 t103 t106 t107 bt110.1 bt110.2 bt114.1 bt114.2 bt123.1 true)))))))) = some true := H
  have A6 := Aside0.mk A60
  clear A60
  replace H := Option.bind_eq_some_iff.mp H
  obtain ⟨⟨t110, t111⟩, A70, H⟩ := H
  replace H : ((impl_WithoutLine.f k t110 t111).bind fun bt114 => ((spec_WithoutLine.f k t110 t111).bind fun bt118 => ((spec_DrawIsPrime.f k l0).bind fun t122 => ((spec_DrawPolyAtPrime.f k l0).bind fun bt123 => ((spec_CountFree.f k t102 t103).bind fun t127 => (if t106 = t127 then ((spec_OnRow.f k t102 t103).bind fun t128 => ((laws_sameInts.f k t107 t128).bind fun t131 => (if t131 = true then (if (bt114.2 != bt118.2) = true then (laws_FnFields.j0 k t102 t103 t106 t107 t110 t111 bt114.1 bt114.2 bt123.1 true) else ((laws_sameLines.f k bt114.1 bt118.1).bind fun t132 => (if t132 = true then ((impl_IsPrime.f k t122).bind fun t133 => ((spec_IsPrime.f k t122).bind fun t134 => (if (t133 != t134) = true then (laws_FnFields.j0 k t102 t103 t106 t107 t110 t111 bt114.1 bt114.2 bt123.1 true) else ((impl_PolyAtPrime.f k bt123.1 bt123.2).bind fun t135 => ((spec_PolyAtPrime.f k bt123.1 bt123.2).bind fun t136 => (if t135 = t136 then ((impl_PointsOn.f k t110 t111).bind fun t137 => ((spec_PointsOn.f k t110 t111).bind fun t138 => (laws_FnFields.j0 k t102 t103 t106 t107 t110 t111 bt114.1 bt114.2 bt123.1 (t137 != t138)))) else (laws_FnFields.j0 k t102 t103 t106 t107 t110 t111 bt114.1 bt114.2 bt123.1 true))))))) else (laws_FnFields.j0 k t102 t103 t106 t107 t110 t111 bt114.1 bt114.2 bt123.1 true)))) else (laws_FnFields.j0 k t102 t103 t106 t107 t110 t111 bt114.1 bt114.2 bt123.1 true)))) else (laws_FnFields.j0 k t102 t103 t106 t107 t110 t111 bt114.1 bt114.2 bt123.1 true))))))) = some true := H
  have A7 := Aside0.mk A70
  clear A70
  replace H := Option.bind_eq_some_iff.mp H
  obtain ⟨⟨t114, t115⟩, A80, H⟩ := H
  replace H : ((spec_WithoutLine.f k t110 t111).bind fun bt118 => ((spec_DrawIsPrime.f k l0).bind fun t122 => ((spec_DrawPolyAtPrime.f k l0).bind fun bt123 => ((spec_CountFree.f k t102 t103).bind fun t127 => (if t106 = t127 then ((spec_OnRow.f k t102 t103).bind fun t128 => ((laws_sameInts.f k t107 t128).bind fun t131 => (if t131 = true then (if (t115 != bt118.2) = true then (laws_FnFields.j0 k t102 t103 t106 t107 t110 t111 t114 t115 bt123.1 true) else ((laws_sameLines.f k t114 bt118.1).bind fun t132 => (if t132 = true then ((impl_IsPrime.f k t122).bind fun t133 => ((spec_IsPrime.f k t122).bind fun t134 => (if (t133 != t134) = true then (laws_FnFields.j0 k t102 t103 t106 t107 t110 t111 t114 t115 bt123.1 true) else ((impl_PolyAtPrime.f k bt123.1 bt123.2).bind fun t135 => ((spec_PolyAtPrime.f k bt123.1 bt123.2).bind fun t136 => (if t135 = t136 then ((impl_PointsOn.f k t110 t111).bind fun t137 => ((spec_PointsOn.f k t110 t111).bind fun t138 => (laws_FnFields.j0 k t102 t103 t106 t107 t110 t111 t114 t115 bt123.1 (t137 != t138)))) else (laws_FnFields.j0 k t102 t103 t106 t107 t110 t111 t114 t115 bt123.1 true))))))) else (laws_FnFields.j0 k t102 t103 t106 t107 t110 t111 t114 t115 bt123.1 true)))) else (laws_FnFields.j0 k t102 t103 t106 t107 t110 t111 t114 t115 bt123.1 true)))) else (laws_FnFields.j0 k t102 t103 t106 t107 t110 t111 t114 t115 bt123.1 true)))))) = some true := H
  have A8 := Aside0.mk A80
  clear A80
  replace H := Option.bind_eq_some_iff.mp H
  obtain ⟨⟨t118, t119⟩, A90, H⟩ := H
  replace H : ((spec_DrawIsPrime.f k l0).bind fun t122 => ((spec_DrawPolyAtPrime.f k l0).bind fun bt123 => ((spec_CountFree.f k t102 t103).bind fun t127 => (if t106 = t127 then ((spec_OnRow.f k t102 t103).bind fun t128 => ((laws_sameInts.f k t107 t128).bind fun t131 => (if t131 = true then (if (t115 != t119) = true then (laws_FnFields.j0 k t102 t103 t106 t107 t110 t111 t114 t115 bt123.1 true) else ((laws_sameLines.f k t114 t118).bind fun t132 => (if t132 = true then ((impl_IsPrime.f k t122).bind fun t133 => ((spec_IsPrime.f k t122).bind fun t134 => (if (t133 != t134) = true then (laws_FnFields.j0 k t102 t103 t106 t107 t110 t111 t114 t115 bt123.1 true) else ((impl_PolyAtPrime.f k bt123.1 bt123.2).bind fun t135 => ((spec_PolyAtPrime.f k bt123.1 bt123.2).bind fun t136 => (if t135 = t136 then ((impl_PointsOn.f k t110 t111).bind fun t137 => ((spec_PointsOn.f k t110 t111).bind fun t138 => (laws_FnFields.j0 k t102 t103 t106 t107 t110 t111 t114 t115 bt123.1 (t137 != t138)))) else (laws_FnFields.j0 k t102 t103 t106 t107 t110 t111 t114 t115 bt123.1 true))))))) else (laws_FnFields.j0 k t102 t103 t106 t107 t110 t111 t114 t115 bt123.1 true)))) else (laws_FnFields.j0 k t102 t103 t106 t107 t110 t111 t114 t115 bt123.1 true)))) else (laws_FnFields.j0 k t102 t103 t106 t107 t110 t111 t114 t115 bt123.1 true))))) = some true := H
  have A9 := Aside0.mk A90
  clear A90
  replace H := Option.bind_eq_some_iff.mp H
  obtain ⟨t122, A100, H⟩ := H
  replace H : ((spec_DrawPolyAtPrime.f k l0).bind fun bt123 => ((spec_CountFree.f k t102 t103).bind fun t127 => (if t106 = t127 then ((spec_OnRow.f k t102 t103).bind fun t128 => ((laws_sameInts.f k t107 t128).bind fun t131 => (if t131 = true then (if (t115 != t119) = true then (laws_FnFields.j0 k t102 t103 t106 t107 t110 t111 t114 t115 bt123.1 true) else ((laws_sameLines.f k t114 t118).bind fun t132 => (if t132 = true then ((impl_IsPrime.f k t122).bind fun t133 => ((spec_IsPrime.f k t122).bind fun t134 => (if (t133 != t134) = true then (laws_FnFields.j0 k t102 t103 t106 t107 t110 t111 t114 t115 bt123.1 true) else ((impl_PolyAtPrime.f k bt123.1 bt123.2).bind fun t135 => ((spec_PolyAtPrime.f k bt123.1 bt123.2).bind fun t136 => (if t135 = t136 then ((impl_PointsOn.f k t110 t111).bind fun t137 => ((spec_PointsOn.f k t110 t111).bind fun t138 => (laws_FnFields.j0 k t102 t103 t106 t107 t110 t111 t114 t115 bt123.1 (t137 != t138)))) else (laws_FnFields.j0 k t102 t103 t106 t107 t110 t111 t114 t115 bt123.1 true))))))) else (laws_FnFields.j0 k t102 t103 t106 t107 t110 t111 t114 t115 bt123.1 true)))) else (laws_FnFields.j0 k t102 t103 t106 t107 t110 t111 t114 t115 bt123.1 true)))) else (laws_FnFields.j0 k t102 t103 t106 t107 t110 t111 t114 t115 bt123.1 true)))) = some true := H
  have A10 := Aside0.mk A100
  clear A100
  replace H := Option.bind_eq_some_iff.mp H
  obtain ⟨⟨t123, t124⟩, A110, H⟩ := H
  replace H : ((spec_CountFree.f k t102 t103).bind fun t127 => (if t106 = t127 then ((spec_OnRow.f k t102 t103).bind fun t128 => ((laws_sameInts.f k t107 t128).bind fun t131 => (if t131 = true then (if (t115 != t119) = true then (laws_FnFields.j0 k t102 t103 t106 t107 t110 t111 t114 t115 t123 true) else ((laws_sameLines.f k t114 t118).bind fun t132 => (if t132 = true then ((impl_IsPrime.f k t122).bind fun t133 => ((spec_IsPrime.f k t122).bind fun t134 => (if (t133 != t134) = true then (laws_FnFields.j0 k t102 t103 t106 t107 t110 t111 t114 t115 t123 true) else ((impl_PolyAtPrime.f k t123 t124).bind fun t135 => ((spec_PolyAtPrime.f k t123 t124).bind fun t136 => (if t135 = t136 then ((impl_PointsOn.f k t110 t111).bind fun t137 => ((spec_PointsOn.f k t110 t111).bind fun t138 => (laws_FnFields.j0 k t102 t103 t106 t107 t110 t111 t114 t115 t123 (t137 != t138)))) else (laws_FnFields.j0 k t102 t103 t106 t107 t110 t111 t114 t115 t123 true))))))) else (laws_FnFields.j0 k t102 t103 t106 t107 t110 t111 t114 t115 t123 true)))) else (laws_FnFields.j0 k t102 t103 t106 t107 t110 t111 t114 t115 t123 true)))) else (laws_FnFields.j0 k t102 t103 t106 t107 t110 t111 t114 t115 t123 true))) = some true := H
  have A11 := Aside0.mk A110
  clear A110
  have HC12 := Aside0.mk H
  clear H
  go_enter Try.func10, Try.ntmps10
  go_upto_region 11 with (first | ((with_reducible refine gate_callee (f := 34) rfl ?_); refine goesL_ (some 17) rfl rfl Try.func34 (by kernel_rfl) rfl #[.slice A0 l0.length c0] rfl (by (try simp only [List.map_toArray, List.map_cons, List.map_nil]); first | done | rfl | (simp only [List.length_drop, List.length_take]; rfl)) ?_; (with_reducible refine (laws_big.calls _ _ l0 false _ ?side1 ?side2 A2.out).mono ?_); (case side1 => repeat (first | exact HR0.out | (with_reducible refine Kd.C_alloc ?_ _) | (with_reducible refine Kd.C_drewN ?_ _) | (with_reducible refine Kd.C_drew ?_))); (case side2 => exact HC0.out); rintro e w' ⟨rfl, ⟨nd, rfl⟩⟩; refine ⟨_, rfl, ?_⟩) | ((with_reducible refine gate_callee (f := 55) rfl ?_); refine goesL_ (some 20) rfl rfl Try.func55 (by kernel_rfl) rfl #[.slice A0 l0.length c0] rfl (by (try simp only [List.map_toArray, List.map_cons, List.map_nil]); first | done | rfl | (simp only [List.length_drop, List.length_take]; rfl)) ?_; (with_reducible refine (spec_DrawCountFree.calls k _ _ l0 t102 t103 _ ?side1 ?side2 A4.out).mono ?_); (case side1 => repeat (first | exact HR0.out | (with_reducible refine Kd.C_alloc ?_ _) | (with_reducible refine Kd.C_drewN ?_ _) | (with_reducible refine Kd.C_drew ?_))); (case side2 => exact HC0.out); rintro e w13 ⟨v104, rfl, ho0, hb⟩; refine ⟨_, rfl, ?_⟩; have n0_ := Aside0.mk (Kd.R_lower ho0 (below_size (by repeat (first | (with_reducible first | exact HB.out | apply below_alloc | apply pw_below_drewN | apply below_drew1) | exact HB.out)))); have n1_ := Aside0.mk (below_step (by repeat (first | (with_reducible first | exact HB.out | apply below_alloc | apply pw_below_drewN | apply below_drew1) | exact HB.out)) hb); clear HB; have HO105 := n0_; have HB := n1_; clear n0_ n1_; (try clear hb); (try clear hb2); (try clear hk); (try clear hi); (try clear ho0); obtain ⟨Ao14, co14, eo14⟩ := Kd.R_slice HO105.out; subst eo14) | ((with_reducible refine gate_callee (f := 18) rfl ?_); refine goesL_ (some 25) rfl rfl Try.func18 (by kernel_rfl) rfl #[.slice Ao14 t102.length co14, .int .i64 t103] rfl (by (try simp only [List.map_toArray, List.map_cons, List.map_nil]); first | done | rfl | (simp only [List.length_drop, List.length_take]; rfl)) ?_; (with_reducible refine (impl_CountFree.calls k _ _ t102 t103 t106 _ ?side1 ?side2 A5.out).mono ?_); (case side1 => repeat (first | exact (Kd.R_reads' HO105.out).2.2 | (with_reducible refine Kd.C_alloc ?_ _) | (with_reducible refine Kd.C_drewN ?_ _) | (with_reducible refine Kd.C_drew ?_))); (case side2 => exact (Kd.R_reads' HO105.out).2.1); rintro e w15 ⟨rfl, hb⟩; refine ⟨_, rfl, ?_⟩; have n0_ := Aside0.mk (Kd.R_below (by (with_reducible repeat (first | apply Kd.R_alloc | apply Kd.R_drewN | apply Kd.R_drew)); exact HO105.out) hb); have n1_ := Aside0.mk (below_step (by repeat (first | (with_reducible first | exact HB.out | apply below_alloc | apply pw_below_drewN | apply below_drew1) | exact HB.out)) hb); clear HO105; clear HB; have HO105 := n0_; have HB := n1_; clear n0_ n1_; (try clear hb); (try clear hb2); (try clear hk); (try clear hi)) | ((with_reducible refine gate_callee (f := 21) rfl ?_); refine goesL_ (some 28) rfl rfl Try.func21 (by kernel_rfl) rfl #[.slice Ao14 t102.length co14, .int .i64 t103] rfl (by (try simp only [List.map_toArray, List.map_cons, List.map_nil]); first | done | rfl | (simp only [List.length_drop, List.length_take]; rfl)) ?_; (with_reducible refine (impl_OnRow.calls k _ _ t102 t103 t107 _ ?side1 ?side2 A6.out).mono ?_); (case side1 => repeat (first | exact (Kd.R_reads' HO105.out).2.2 | (with_reducible refine Kd.C_alloc ?_ _) | (with_reducible refine Kd.C_drewN ?_ _) | (with_reducible refine Kd.C_drew ?_))); (case side2 => exact (Kd.R_reads' HO105.out).2.1); rintro e w16 ⟨v108, rfl, ho0, hb⟩; refine ⟨_, rfl, ?_⟩; have n0_ := Aside0.mk (Kd.R_below (by (with_reducible repeat (first | apply Kd.R_alloc | apply Kd.R_drewN | apply Kd.R_drew)); exact HO105.out) hb); have n1_ := Aside0.mk (Kd.R_lower ho0 (below_size (by repeat (first | (with_reducible first | exact HB.out | apply below_alloc | apply pw_below_drewN | apply below_drew1) | exact HB.out)))); have n2_ := Aside0.mk (below_step (by repeat (first | (with_reducible first | exact HB.out | apply below_alloc | apply pw_below_drewN | apply below_drew1) | exact HB.out)) hb); clear HO105; clear HB; have HO105 := n0_; have HO109 := n1_; have HB := n2_; clear n0_ n1_ n2_; (try clear hb); (try clear hb2); (try clear hk); (try clear hi); (try clear ho0)) | ((with_reducible refine gate_callee (f := 56) rfl ?_); refine goesL_ (some 31) rfl rfl Try.func56 (by kernel_rfl) rfl #[.slice A0 l0.length c0] rfl (by (try simp only [List.map_toArray, List.map_cons, List.map_nil]); first | done | rfl | (simp only [List.length_drop, List.length_take]; rfl)) ?_; (with_reducible refine (spec_DrawWithoutLine.calls k _ _ l0 t110 t111 _ ?side1 ?side2 A7.out).mono ?_); (case side1 => repeat (first | exact (Kd.C_below HR0.out HB.out) | (with_reducible refine Kd.C_alloc ?_ _) | (with_reducible refine Kd.C_drewN ?_ _) | (with_reducible refine Kd.C_drew ?_))); (case side2 => exact HC0.out); rintro e w17 ⟨v112, rfl, ho0, hb⟩; refine ⟨_, rfl, ?_⟩; have n0_ := Aside0.mk (Kd.R_elder' (by (with_reducible repeat (first | apply Kd.R_alloc | apply Kd.R_drewN | apply Kd.R_drew)); exact HO105.out) (Kd.R_base ho0) hb); have n1_ := Aside0.mk (Kd.R_below (by (with_reducible repeat (first | apply Kd.R_alloc | apply Kd.R_drewN | apply Kd.R_drew)); exact HO109.out) hb); have n2_ := Aside0.mk (Kd.R_lower (Kd.R_new' ho0 (Kd.R_lt (by (with_reducible repeat (first | apply Kd.R_alloc | apply Kd.R_drewN | apply Kd.R_drew)); exact HO105.out))) (below_size (by repeat (first | (with_reducible first | exact HB.out | apply below_alloc | apply pw_below_drewN | apply below_drew1) | exact HB.out)))); have n3_ := Aside0.mk (below_step (by repeat (first | (with_reducible first | exact HB.out | apply below_alloc | apply pw_below_drewN | apply below_drew1) | exact HB.out)) hb); clear HO105; clear HO109; clear HB; have HO105 := n0_; have HO109 := n1_; have HO113 := n2_; have HB := n3_; clear n0_ n1_ n2_ n3_; (try clear hb); (try clear hb2); (try clear hk); (try clear hi); (try clear ho0); obtain ⟨Ao18, co18, eo18⟩ := Kd.R_slice HO113.out; subst eo18) | ((with_reducible refine gate_callee (f := 57) rfl ?_); refine goesL_ (some 37) rfl rfl Try.func57 (by kernel_rfl) rfl #[.slice Ao18 t110.length co18, .int .i64 t111] rfl (by (try simp only [List.map_toArray, List.map_cons, List.map_nil]); first | done | rfl | (simp only [List.length_drop, List.length_take]; rfl)) ?_; (with_reducible refine (impl_WithoutLine.calls k _ _ t110 t111 t114 t115 _ ?side1 ?side2 A8.out).mono ?_); (case side1 => repeat (first | exact (Kd.R_reads' HO113.out).2.2 | (with_reducible refine Kd.C_alloc ?_ _) | (with_reducible refine Kd.C_drewN ?_ _) | (with_reducible refine Kd.C_drew ?_))); (case side2 => exact (Kd.R_reads' HO113.out).2.1); rintro e w19 ⟨v116, rfl, ho0, hb⟩; refine ⟨_, rfl, ?_⟩; have n0_ := Aside0.mk (Kd.R_elder' (by (with_reducible repeat (first | apply Kd.R_alloc | apply Kd.R_drewN | apply Kd.R_drew)); exact HO105.out) (Kd.R_base ho0) hb); have n1_ := Aside0.mk (Kd.R_below (by (with_reducible repeat (first | apply Kd.R_alloc | apply Kd.R_drewN | apply Kd.R_drew)); exact HO109.out) hb); have n2_ := Aside0.mk (Kd.R_elder' (by (with_reducible repeat (first | apply Kd.R_alloc | apply Kd.R_drewN | apply Kd.R_drew)); exact HO113.out) (Kd.R_base ho0) hb); have n3_ := Aside0.mk (Kd.R_lower (Kd.R_new' (Kd.R_new' ho0 (Kd.R_lt (by (with_reducible repeat (first | apply Kd.R_alloc | apply Kd.R_drewN | apply Kd.R_drew)); exact HO105.out))) (Kd.R_lt (by (with_reducible repeat (first | apply Kd.R_alloc | apply Kd.R_drewN | apply Kd.R_drew)); exact HO113.out))) (below_size (by repeat (first | (with_reducible first | exact HB.out | apply below_alloc | apply pw_below_drewN | apply below_drew1) | exact HB.out)))); have n4_ := Aside0.mk (below_step (by repeat (first | (with_reducible first | exact HB.out | apply below_alloc | apply pw_below_drewN | apply below_drew1) | exact HB.out)) hb); clear HO105; clear HO109; clear HO113; clear HB; have HO105 := n0_; have HO109 := n1_; have HO113 := n2_; have HO117 := n3_; have HB := n4_; clear n0_ n1_ n2_ n3_ n4_; (try clear hb); (try clear hb2); (try clear hk); (try clear hi); (try clear ho0)) | ((with_reducible refine gate_callee (f := 58) rfl ?_); refine goesL_ (some 43) rfl rfl Try.func58 (by kernel_rfl) rfl #[.slice Ao18 t110.length co18, .int .i64 t111] rfl (by (try simp only [List.map_toArray, List.map_cons, List.map_nil]); first | done | rfl | (simp only [List.length_drop, List.length_take]; rfl)) ?_; (with_reducible refine (spec_WithoutLine.calls k _ _ t110 t111 t118 t119 _ ?side1 ?side2 A9.out).mono ?_); (case side1 => repeat (first | exact (Kd.R_reads' HO113.out).2.2 | (with_reducible refine Kd.C_alloc ?_ _) | (with_reducible refine Kd.C_drewN ?_ _) | (with_reducible refine Kd.C_drew ?_))); (case side2 => exact (Kd.R_reads' HO113.out).2.1); rintro e w20 ⟨v120, rfl, ho0, hb⟩; refine ⟨_, rfl, ?_⟩; have n0_ := Aside0.mk (Kd.R_elder' (by (with_reducible repeat (first | apply Kd.R_alloc | apply Kd.R_drewN | apply Kd.R_drew)); exact HO105.out) (Kd.R_base ho0) hb); have n1_ := Aside0.mk (Kd.R_below (by (with_reducible repeat (first | apply Kd.R_alloc | apply Kd.R_drewN | apply Kd.R_drew)); exact HO109.out) hb); have n2_ := Aside0.mk (Kd.R_elder' (by (with_reducible repeat (first | apply Kd.R_alloc | apply Kd.R_drewN | apply Kd.R_drew)); exact HO113.out) (Kd.R_base ho0) hb); have n3_ := Aside0.mk (Kd.R_elder' (by (with_reducible repeat (first | apply Kd.R_alloc | apply Kd.R_drewN | apply Kd.R_drew)); exact HO117.out) (Kd.R_base ho0) hb); have n4_ := Aside0.mk (Kd.R_lower (Kd.R_new' (Kd.R_new' (Kd.R_new' ho0 (Kd.R_lt (by (with_reducible repeat (first | apply Kd.R_alloc | apply Kd.R_drewN | apply Kd.R_drew)); exact HO105.out))) (Kd.R_lt (by (with_reducible repeat (first | apply Kd.R_alloc | apply Kd.R_drewN | apply Kd.R_drew)); exact HO113.out))) (Kd.R_lt (by (with_reducible repeat (first | apply Kd.R_alloc | apply Kd.R_drewN | apply Kd.R_drew)); exact HO117.out))) (below_size (by repeat (first | (with_reducible first | exact HB.out | apply below_alloc | apply pw_below_drewN | apply below_drew1) | exact HB.out)))); have n5_ := Aside0.mk (below_step (by repeat (first | (with_reducible first | exact HB.out | apply below_alloc | apply pw_below_drewN | apply below_drew1) | exact HB.out)) hb); clear HO105; clear HO109; clear HO113; clear HO117; clear HB; have HO105 := n0_; have HO109 := n1_; have HO113 := n2_; have HO117 := n3_; have HO121 := n4_; have HB := n5_; clear n0_ n1_ n2_ n3_ n4_ n5_; (try clear hb); (try clear hb2); (try clear hk); (try clear hi); (try clear ho0)) | ((with_reducible refine gate_callee (f := 59) rfl ?_); refine goesL_ (some 47) rfl rfl Try.func59 (by kernel_rfl) rfl #[.slice A0 l0.length c0] rfl (by (try simp only [List.map_toArray, List.map_cons, List.map_nil]); first | done | rfl | (simp only [List.length_drop, List.length_take]; rfl)) ?_; (with_reducible refine (spec_DrawIsPrime.calls k _ _ l0 t122 _ ?side1 ?side2 A10.out).mono ?_); (case side1 => repeat (first | exact (Kd.C_below HR0.out HB.out) | (with_reducible refine Kd.C_alloc ?_ _) | (with_reducible refine Kd.C_drewN ?_ _) | (with_reducible refine Kd.C_drew ?_))); (case side2 => exact HC0.out); rintro e w21 ⟨rfl, hb⟩; refine ⟨_, rfl, ?_⟩; have n0_ := Aside0.mk (Kd.R_below (by (with_reducible repeat (first | apply Kd.R_alloc | apply Kd.R_drewN | apply Kd.R_drew)); exact HO105.out) hb); have n1_ := Aside0.mk (Kd.R_below (by (with_reducible repeat (first | apply Kd.R_alloc | apply Kd.R_drewN | apply Kd.R_drew)); exact HO109.out) hb); have n2_ := Aside0.mk (Kd.R_below (by (with_reducible repeat (first | apply Kd.R_alloc | apply Kd.R_drewN | apply Kd.R_drew)); exact HO113.out) hb); have n3_ := Aside0.mk (Kd.R_below (by (with_reducible repeat (first | apply Kd.R_alloc | apply Kd.R_drewN | apply Kd.R_drew)); exact HO117.out) hb); have n4_ := Aside0.mk (Kd.R_below (by (with_reducible repeat (first | apply Kd.R_alloc | apply Kd.R_drewN | apply Kd.R_drew)); exact HO121.out) hb); have n5_ := Aside0.mk (below_step (by repeat (first | (with_reducible first | exact HB.out | apply below_alloc | apply pw_below_drewN | apply below_drew1) | exact HB.out)) hb); clear HO105; clear HO109; clear HO113; clear HO117; clear HO121; clear HB; have HO105 := n0_; have HO109 := n1_; have HO113 := n2_; have HO117 := n3_; have HO121 := n4_; have HB := n5_; clear n0_ n1_ n2_ n3_ n4_ n5_; (try clear hb); (try clear hb2); (try clear hk); (try clear hi)) | ((with_reducible refine gate_callee (f := 60) rfl ?_); refine goesL_ (some 50) rfl rfl Try.func60 (by kernel_rfl) rfl #[.slice A0 l0.length c0] rfl (by (try simp only [List.map_toArray, List.map_cons, List.map_nil]); first | done | rfl | (simp only [List.length_drop, List.length_take]; rfl)) ?_; (with_reducible refine (spec_DrawPolyAtPrime.calls k _ _ l0 t123 t124 _ ?side1 ?side2 A11.out).mono ?_); (case side1 => repeat (first | exact (Kd.C_below HR0.out HB.out) | (with_reducible refine Kd.C_alloc ?_ _) | (with_reducible refine Kd.C_drewN ?_ _) | (with_reducible refine Kd.C_drew ?_))); (case side2 => exact HC0.out); rintro e w22 ⟨v125, rfl, ho0, hb⟩; refine ⟨_, rfl, ?_⟩; have n0_ := Aside0.mk (Kd.R_elder' (by (with_reducible repeat (first | apply Kd.R_alloc | apply Kd.R_drewN | apply Kd.R_drew)); exact HO105.out) (Kd.R_base ho0) hb); have n1_ := Aside0.mk (Kd.R_below (by (with_reducible repeat (first | apply Kd.R_alloc | apply Kd.R_drewN | apply Kd.R_drew)); exact HO109.out) hb); have n2_ := Aside0.mk (Kd.R_elder' (by (with_reducible repeat (first | apply Kd.R_alloc | apply Kd.R_drewN | apply Kd.R_drew)); exact HO113.out) (Kd.R_base ho0) hb); have n3_ := Aside0.mk (Kd.R_elder' (by (with_reducible repeat (first | apply Kd.R_alloc | apply Kd.R_drewN | apply Kd.R_drew)); exact HO117.out) (Kd.R_base ho0) hb); have n4_ := Aside0.mk (Kd.R_elder' (by (with_reducible repeat (first | apply Kd.R_alloc | apply Kd.R_drewN | apply Kd.R_drew)); exact HO121.out) (Kd.R_base ho0) hb); have n5_ := Aside0.mk (Kd.R_lower (Kd.R_new' (Kd.R_new' (Kd.R_new' (Kd.R_new' ho0 (Kd.R_lt (by (with_reducible repeat (first | apply Kd.R_alloc | apply Kd.R_drewN | apply Kd.R_drew)); exact HO105.out))) (Kd.R_lt (by (with_reducible repeat (first | apply Kd.R_alloc | apply Kd.R_drewN | apply Kd.R_drew)); exact HO113.out))) (Kd.R_lt (by (with_reducible repeat (first | apply Kd.R_alloc | apply Kd.R_drewN | apply Kd.R_drew)); exact HO117.out))) (Kd.R_lt (by (with_reducible repeat (first | apply Kd.R_alloc | apply Kd.R_drewN | apply Kd.R_drew)); exact HO121.out))) (below_size (by repeat (first | (with_reducible first | exact HB.out | apply below_alloc | apply pw_below_drewN | apply below_drew1) | exact HB.out)))); have n6_ := Aside0.mk (below_step (by repeat (first | (with_reducible first | exact HB.out | apply below_alloc | apply pw_below_drewN | apply below_drew1) | exact HB.out)) hb); clear HO105; clear HO109; clear HO113; clear HO117; clear HO121; clear HB; have HO105 := n0_; have HO109 := n1_; have HO113 := n2_; have HO117 := n3_; have HO121 := n4_; have HO126 := n5_; have HB := n6_; clear n0_ n1_ n2_ n3_ n4_ n5_ n6_; (try clear hb); (try clear hb2); (try clear hk); (try clear hi); (try clear ho0)))
  (try simp only [Act.put, List.setIfInBounds_toArray, List.set_cons_zero, List.set_cons_succ])
  go_cut [101] (fun v101 wc => ∃ (kq : Nat) (x101_11 : Bool), v101 = .bool x101_11 ∧ Aside0 (laws_FnFields.j0 kq t102 t103 t106 t107 t110 t111 t114 t115 t123 x101_11 = some true) ∧ Aside0 (kq ≤ k) ∧ Aside0 (Kd.R k40 40 wc w.heap.size (fun k_ => some k_ ≠ ((.slice Ao18 t110.length co18) : Value).ownBlock ∧ some k_ ≠ (v116 : Value).ownBlock ∧ some k_ ≠ (v125 : Value).ownBlock) (.slice Ao14 t102.length co14) t102) ∧ Aside0 (Kd.R (Kd.int .i64) 3 wc w.heap.size (fun _ => True) v108 t107) ∧ Aside0 (Kd.R k40 40 wc w.heap.size (fun k_ => some k_ ≠ ((.slice Ao14 t102.length co14) : Value).ownBlock ∧ some k_ ≠ (v116 : Value).ownBlock ∧ some k_ ≠ (v125 : Value).ownBlock) (.slice Ao18 t110.length co18) t110) ∧ Aside0 (Kd.R k40 40 wc w.heap.size (fun k_ => some k_ ≠ ((.slice Ao14 t102.length co14) : Value).ownBlock ∧ some k_ ≠ ((.slice Ao18 t110.length co18) : Value).ownBlock ∧ some k_ ≠ (v125 : Value).ownBlock) v116 t114) ∧ Aside0 (Kd.R k40 40 wc w.heap.size (fun k_ => some k_ ≠ ((.slice Ao14 t102.length co14) : Value).ownBlock ∧ some k_ ≠ ((.slice Ao18 t110.length co18) : Value).ownBlock ∧ some k_ ≠ (v116 : Value).ownBlock) v125 t123) ∧ Aside0 (Below w.heap.size w wc))
  case first =>
   have H := HC12.out
   clear HC12
   replace H := Option.bind_eq_some_iff.mp H
   obtain ⟨t127, A230, H⟩ := H
   replace H : (if t106 = t127 then ((spec_OnRow.f k t102 t103).bind fun t128 => ((laws_sameInts.f k t107 t128).bind fun t131 => (if t131 = true then (if (t115 != t119) = true then (laws_FnFields.j0 k t102 t103 t106 t107 t110 t111 t114 t115 t123 true) else ((laws_sameLines.f k t114 t118).bind fun t132 => (if t132 = true then ((impl_IsPrime.f k t122).bind fun t133 => ((spec_IsPrime.f k t122).bind fun t134 => (if (t133 != t134) = true then (laws_FnFields.j0 k t102 t103 t106 t107 t110 t111 t114 t115 t123 true) else ((impl_PolyAtPrime.f k t123 t124).bind fun t135 => ((spec_PolyAtPrime.f k t123 t124).bind fun t136 => (if t135 = t136 then ((impl_PointsOn.f k t110 t111).bind fun t137 => ((spec_PointsOn.f k t110 t111).bind fun t138 => (laws_FnFields.j0 k t102 t103 t106 t107 t110 t111 t114 t115 t123 (t137 != t138)))) else (laws_FnFields.j0 k t102 t103 t106 t107 t110 t111 t114 t115 t123 true))))))) else (laws_FnFields.j0 k t102 t103 t106 t107 t110 t111 t114 t115 t123 true)))) else (laws_FnFields.j0 k t102 t103 t106 t107 t110 t111 t114 t115 t123 true)))) else (laws_FnFields.j0 k t102 t103 t106 t107 t110 t111 t114 t115 t123 true)) = some true := H
   have A23 := Aside0.mk A230
   clear A230
   by_cases c24 : t106 = t127
   ·rw [if_pos c24] at H
    have c24b0 : (t106 == t127) = true := beq_iff_eq.mpr c24
    have c24b1 : (t106 != t127) = false := bne_eq_false_iff_eq.mpr c24
    clear c24
    (first | rw [c24b0] | (simp only [i64_w, i32_w]; rw [c24b0]) | skip)
    replace H := Option.bind_eq_some_iff.mp H
    obtain ⟨t128, A250, H⟩ := H
    replace H : ((laws_sameInts.f k t107 t128).bind fun t131 => (if t131 = true then (if (t115 != t119) = true then (laws_FnFields.j0 k t102 t103 t106 t107 t110 t111 t114 t115 t123 true) else ((laws_sameLines.f k t114 t118).bind fun t132 => (if t132 = true then ((impl_IsPrime.f k t122).bind fun t133 => ((spec_IsPrime.f k t122).bind fun t134 => (if (t133 != t134) = true then (laws_FnFields.j0 k t102 t103 t106 t107 t110 t111 t114 t115 t123 true) else ((impl_PolyAtPrime.f k t123 t124).bind fun t135 => ((spec_PolyAtPrime.f k t123 t124).bind fun t136 => (if t135 = t136 then ((impl_PointsOn.f k t110 t111).bind fun t137 => ((spec_PointsOn.f k t110 t111).bind fun t138 => (laws_FnFields.j0 k t102 t103 t106 t107 t110 t111 t114 t115 t123 (t137 != t138)))) else (laws_FnFields.j0 k t102 t103 t106 t107 t110 t111 t114 t115 t123 true))))))) else (laws_FnFields.j0 k t102 t103 t106 t107 t110 t111 t114 t115 t123 true)))) else (laws_FnFields.j0 k t102 t103 t106 t107 t110 t111 t114 t115 t123 true))) = some true := H
    have A25 := Aside0.mk A250
    clear A250
    replace H := Option.bind_eq_some_iff.mp H
    obtain ⟨t131, A260, H⟩ := H
    replace H : (if t131 = true then (if (t115 != t119) = true then (laws_FnFields.j0 k t102 t103 t106 t107 t110 t111 t114 t115 t123 true) else ((laws_sameLines.f k t114 t118).bind fun t132 => (if t132 = true then ((impl_IsPrime.f k t122).bind fun t133 => ((spec_IsPrime.f k t122).bind fun t134 => (if (t133 != t134) = true then (laws_FnFields.j0 k t102 t103 t106 t107 t110 t111 t114 t115 t123 true) else ((impl_PolyAtPrime.f k t123 t124).bind fun t135 => ((spec_PolyAtPrime.f k t123 t124).bind fun t136 => (if t135 = t136 then ((impl_PointsOn.f k t110 t111).bind fun t137 => ((spec_PointsOn.f k t110 t111).bind fun t138 => (laws_FnFields.j0 k t102 t103 t106 t107 t110 t111 t114 t115 t123 (t137 != t138)))) else (laws_FnFields.j0 k t102 t103 t106 t107 t110 t111 t114 t115 t123 true))))))) else (laws_FnFields.j0 k t102 t103 t106 t107 t110 t111 t114 t115 t123 true)))) else (laws_FnFields.j0 k t102 t103 t106 t107 t110 t111 t114 t115 t123 true)) = some true := H
    have A26 := Aside0.mk A260
    clear A260
    by_cases c27 : t131 = true
    ·subst c27
     have H1 : (if (t115 != t119) = true then (laws_FnFields.j0 k t102 t103 t106 t107 t110 t111 t114 t115 t123 true) else ((laws_sameLines.f k t114 t118).bind fun t132 => (if t132 = true then ((impl_IsPrime.f k t122).bind fun t133 => ((spec_IsPrime.f k t122).bind fun t134 => (if (t133 != t134) = true then (laws_FnFields.j0 k t102 t103 t106 t107 t110 t111 t114 t115 t123 true) else ((impl_PolyAtPrime.f k t123 t124).bind fun t135 => ((spec_PolyAtPrime.f k t123 t124).bind fun t136 => (if t135 = t136 then ((impl_PointsOn.f k t110 t111).bind fun t137 => ((spec_PointsOn.f k t110 t111).bind fun t138 => (laws_FnFields.j0 k t102 t103 t106 t107 t110 t111 t114 t115 t123 (t137 != t138)))) else (laws_FnFields.j0 k t102 t103 t106 t107 t110 t111 t114 t115 t123 true))))))) else (laws_FnFields.j0 k t102 t103 t106 t107 t110 t111 t114 t115 t123 true)))) = some true := by rw [if_pos rfl] at H; exact H
     clear H
     have H := H1
     clear H1
     by_cases c28 : (t115 != t119) = true
     ·rw [if_pos c28] at H
      exact absurd H (laws_FnFields.j0_no _ _ _ _ _ _ _ _ _ _)
     ·rw [if_neg c28] at H
      obtain rfl : t115 = t119 := by simpa using c28
      have c28b0 : (t115 != t115) = false := bne_self_eq_false _
      clear c28
      replace H := Option.bind_eq_some_iff.mp H
      obtain ⟨t132, A330, H⟩ := H
      replace H : (if t132 = true then ((impl_IsPrime.f k t122).bind fun t133 => ((spec_IsPrime.f k t122).bind fun t134 => (if (t133 != t134) = true then (laws_FnFields.j0 k t102 t103 t106 t107 t110 t111 t114 t115 t123 true) else ((impl_PolyAtPrime.f k t123 t124).bind fun t135 => ((spec_PolyAtPrime.f k t123 t124).bind fun t136 => (if t135 = t136 then ((impl_PointsOn.f k t110 t111).bind fun t137 => ((spec_PointsOn.f k t110 t111).bind fun t138 => (laws_FnFields.j0 k t102 t103 t106 t107 t110 t111 t114 t115 t123 (t137 != t138)))) else (laws_FnFields.j0 k t102 t103 t106 t107 t110 t111 t114 t115 t123 true))))))) else (laws_FnFields.j0 k t102 t103 t106 t107 t110 t111 t114 t115 t123 true)) = some true := H
      have A33 := Aside0.mk A330
      clear A330
      by_cases c34 : t132 = true
      ·subst c34
       have H1 : ((impl_IsPrime.f k t122).bind fun t133 => ((spec_IsPrime.f k t122).bind fun t134 => (if (t133 != t134) = true then (laws_FnFields.j0 k t102 t103 t106 t107 t110 t111 t114 t115 t123 true) else ((impl_PolyAtPrime.f k t123 t124).bind fun t135 => ((spec_PolyAtPrime.f k t123 t124).bind fun t136 => (if t135 = t136 then ((impl_PointsOn.f k t110 t111).bind fun t137 => ((spec_PointsOn.f k t110 t111).bind fun t138 => (laws_FnFields.j0 k t102 t103 t106 t107 t110 t111 t114 t115 t123 (t137 != t138)))) else (laws_FnFields.j0 k t102 t103 t106 t107 t110 t111 t114 t115 t123 true))))))) = some true := by rw [if_pos rfl] at H; exact H
       clear H
       have H := H1
       clear H1
       replace H := Option.bind_eq_some_iff.mp H
       obtain ⟨t133, A350, H⟩ := H
       replace H : ((spec_IsPrime.f k t122).bind fun t134 => (if (t133 != t134) = true then (laws_FnFields.j0 k t102 t103 t106 t107 t110 t111 t114 t115 t123 true) else ((impl_PolyAtPrime.f k t123 t124).bind fun t135 => ((spec_PolyAtPrime.f k t123 t124).bind fun t136 => (if t135 = t136 then ((impl_PointsOn.f k t110 t111).bind fun t137 => ((spec_PointsOn.f k t110 t111).bind fun t138 => (laws_FnFields.j0 k t102 t103 t106 t107 t110 t111 t114 t115 t123 (t137 != t138)))) else (laws_FnFields.j0 k t102 t103 t106 t107 t110 t111 t114 t115 t123 true)))))) = some true := H
       have A35 := Aside0.mk A350
       clear A350
       replace H := Option.bind_eq_some_iff.mp H
       obtain ⟨t134, A360, H⟩ := H
       replace H : (if (t133 != t134) = true then (laws_FnFields.j0 k t102 t103 t106 t107 t110 t111 t114 t115 t123 true) else ((impl_PolyAtPrime.f k t123 t124).bind fun t135 => ((spec_PolyAtPrime.f k t123 t124).bind fun t136 => (if t135 = t136 then ((impl_PointsOn.f k t110 t111).bind fun t137 => ((spec_PointsOn.f k t110 t111).bind fun t138 => (laws_FnFields.j0 k t102 t103 t106 t107 t110 t111 t114 t115 t123 (t137 != t138)))) else (laws_FnFields.j0 k t102 t103 t106 t107 t110 t111 t114 t115 t123 true))))) = some true := H
       have A36 := Aside0.mk A360
       clear A360
       by_cases c37 : (t133 != t134) = true
       ·rw [if_pos c37] at H
        exact absurd H (laws_FnFields.j0_no _ _ _ _ _ _ _ _ _ _)
       ·rw [if_neg c37] at H
        obtain rfl : t133 = t134 := by simpa using c37
        have c37b0 : (t133 != t133) = false := bne_self_eq_false _
        clear c37
        replace H := Option.bind_eq_some_iff.mp H
        obtain ⟨t135, A440, H⟩ := H
        replace H : ((spec_PolyAtPrime.f k t123 t124).bind fun t136 => (if t135 = t136 then ((impl_PointsOn.f k t110 t111).bind fun t137 => ((spec_PointsOn.f k t110 t111).bind fun t138 => (laws_FnFields.j0 k t102 t103 t106 t107 t110 t111 t114 t115 t123 (t137 != t138)))) else (laws_FnFields.j0 k t102 t103 t106 t107 t110 t111 t114 t115 t123 true))) = some true := H
        have A44 := Aside0.mk A440
        clear A440
        replace H := Option.bind_eq_some_iff.mp H
        obtain ⟨t136, A450, H⟩ := H
        replace H : (if t135 = t136 then ((impl_PointsOn.f k t110 t111).bind fun t137 => ((spec_PointsOn.f k t110 t111).bind fun t138 => (laws_FnFields.j0 k t102 t103 t106 t107 t110 t111 t114 t115 t123 (t137 != t138)))) else (laws_FnFields.j0 k t102 t103 t106 t107 t110 t111 t114 t115 t123 true)) = some true := H
        have A45 := Aside0.mk A450
        clear A450
        by_cases c46 : t135 = t136
        ·rw [if_pos c46] at H
         have c46b0 : (t135 == t136) = true := beq_iff_eq.mpr c46
         have c46b1 : (t135 != t136) = false := bne_eq_false_iff_eq.mpr c46
         clear c46
         replace H := Option.bind_eq_some_iff.mp H
         obtain ⟨t137, A470, H⟩ := H
         replace H : ((spec_PointsOn.f k t110 t111).bind fun t138 => (laws_FnFields.j0 k t102 t103 t106 t107 t110 t111 t114 t115 t123 (t137 != t138))) = some true := H
         have A47 := Aside0.mk A470
         clear A470
         replace H := Option.bind_eq_some_iff.mp H
         obtain ⟨t138, A480, H⟩ := H
         replace H : (laws_FnFields.j0 k t102 t103 t106 t107 t110 t111 t114 t115 t123 (t137 != t138)) = some true := H
         have A48 := Aside0.mk A480
         clear A480
         have H' := Aside0.mk H
         clear H
         go_wp2_with (first | ((with_reducible refine gate_callee (f := 16) rfl ?_); refine goesL_ (some 56) rfl rfl Try.func16 (by kernel_rfl) rfl #[.slice Ao14 t102.length co14, .int .i64 t103] rfl (by (try simp only [List.map_toArray, List.map_cons, List.map_nil]); first | done | rfl | (simp only [List.length_drop, List.length_take]; rfl)) ?_; (with_reducible refine (spec_CountFree.calls k _ _ t102 t103 t127 _ ?side1 ?side2 A23.out).mono ?_); (case side1 => repeat (first | exact (Kd.R_reads' HO105.out).2.2 | (with_reducible refine Kd.C_alloc ?_ _) | (with_reducible refine Kd.C_drewN ?_ _) | (with_reducible refine Kd.C_drew ?_))); (case side2 => exact (Kd.R_reads' HO105.out).2.1); rintro e w49 ⟨rfl, hb⟩; refine ⟨_, rfl, ?_⟩; have n0_ := Aside0.mk (Kd.R_below (by (with_reducible repeat (first | apply Kd.R_alloc | apply Kd.R_drewN | apply Kd.R_drew)); exact HO105.out) hb); have n1_ := Aside0.mk (Kd.R_below (by (with_reducible repeat (first | apply Kd.R_alloc | apply Kd.R_drewN | apply Kd.R_drew)); exact HO109.out) hb); have n2_ := Aside0.mk (Kd.R_below (by (with_reducible repeat (first | apply Kd.R_alloc | apply Kd.R_drewN | apply Kd.R_drew)); exact HO113.out) hb); have n3_ := Aside0.mk (Kd.R_below (by (with_reducible repeat (first | apply Kd.R_alloc | apply Kd.R_drewN | apply Kd.R_drew)); exact HO117.out) hb); have n4_ := Aside0.mk (Kd.R_below (by (with_reducible repeat (first | apply Kd.R_alloc | apply Kd.R_drewN | apply Kd.R_drew)); exact HO121.out) hb); have n5_ := Aside0.mk (Kd.R_below (by (with_reducible repeat (first | apply Kd.R_alloc | apply Kd.R_drewN | apply Kd.R_drew)); exact HO126.out) hb); have n6_ := Aside0.mk (below_step (by repeat (first | (with_reducible first | exact HB.out | apply below_alloc | apply pw_below_drewN | apply below_drew1) | exact HB.out)) hb); clear HO105; clear HO109; clear HO113; clear HO117; clear HO121; clear HO126; clear HB; have HO105 := n0_; have HO109 := n1_; have HO113 := n2_; have HO117 := n3_; have HO121 := n4_; have HO126 := n5_; have HB := n6_; clear n0_ n1_ n2_ n3_ n4_ n5_ n6_; (try clear hb); (try clear hb2); (try clear hk); (try clear hi)) | (go_at_call 20; (with_reducible refine (spec_OnRow.calls k _ _ t102 t103 t128 _ ?side1 ?side2 A25.out).mono ?_); (case side1 => repeat (first | exact (Kd.R_reads' HO105.out).2.2 | (with_reducible refine Kd.C_alloc ?_ _) | (with_reducible refine Kd.C_drewN ?_ _) | (with_reducible refine Kd.C_drew ?_))); (case side2 => exact (Kd.R_reads' HO105.out).2.1); rintro e w50 ⟨v129, rfl, ho0, hb⟩; have n0_ := Aside0.mk (Kd.R_below (by (with_reducible repeat (first | apply Kd.R_alloc | apply Kd.R_drewN | apply Kd.R_drew)); exact HO105.out) hb); have n1_ := Aside0.mk (Kd.R_elder' (by (with_reducible repeat (first | apply Kd.R_alloc | apply Kd.R_drewN | apply Kd.R_drew)); exact HO109.out) (Kd.R_base ho0) hb); have n2_ := Aside0.mk (Kd.R_below (by (with_reducible repeat (first | apply Kd.R_alloc | apply Kd.R_drewN | apply Kd.R_drew)); exact HO113.out) hb); have n3_ := Aside0.mk (Kd.R_below (by (with_reducible repeat (first | apply Kd.R_alloc | apply Kd.R_drewN | apply Kd.R_drew)); exact HO117.out) hb); have n4_ := Aside0.mk (Kd.R_below (by (with_reducible repeat (first | apply Kd.R_alloc | apply Kd.R_drewN | apply Kd.R_drew)); exact HO121.out) hb); have n5_ := Aside0.mk (Kd.R_below (by (with_reducible repeat (first | apply Kd.R_alloc | apply Kd.R_drewN | apply Kd.R_drew)); exact HO126.out) hb); have n6_ := Aside0.mk (Kd.R_lower (Kd.R_new' ho0 (Kd.R_lt (by (with_reducible repeat (first | apply Kd.R_alloc | apply Kd.R_drewN | apply Kd.R_drew)); exact HO109.out))) (below_size (by repeat (first | (with_reducible first | exact HB.out | apply below_alloc | apply pw_below_drewN | apply below_drew1) | exact HB.out)))); have n7_ := Aside0.mk (below_step (by repeat (first | (with_reducible first | exact HB.out | apply below_alloc | apply pw_below_drewN | apply below_drew1) | exact HB.out)) hb); clear HO105; clear HO109; clear HO113; clear HO117; clear HO121; clear HO126; clear HB; have HO105 := n0_; have HO109 := n1_; have HO113 := n2_; have HO117 := n3_; have HO121 := n4_; have HO126 := n5_; have HO130 := n6_; have HB := n7_; clear n0_ n1_ n2_ n3_ n4_ n5_ n6_ n7_; (try clear hb); (try clear hb2); (try clear hk); (try clear hi); (try clear ho0); obtain ⟨Ao51, co51, eo51⟩ := Kd.R_slice HO109.out; subst eo51; obtain ⟨Ao52, co52, eo52⟩ := Kd.R_slice HO130.out; subst eo52) | (go_at_call 43; (with_reducible refine (laws_sameInts.calls k _ _ t107 _ _ t128 true _ ?side1 ?side2 ?side3 ?side4 A26.out).mono ?_); (case side1 => repeat (first | exact (Kd.R_reads' HO109.out).2.2 | (with_reducible refine Kd.C_alloc ?_ _) | (with_reducible refine Kd.C_drewN ?_ _) | (with_reducible refine Kd.C_drew ?_))); (case side2 => exact (Kd.R_reads' HO109.out).2.1); (case side3 => repeat (first | exact (Kd.R_reads' HO130.out).2.2 | (with_reducible refine Kd.C_alloc ?_ _) | (with_reducible refine Kd.C_drewN ?_ _) | (with_reducible refine Kd.C_drew ?_))); (case side4 => exact (Kd.R_reads' HO130.out).2.1); rintro e w' ⟨rfl, ⟨nd, rfl⟩⟩; obtain ⟨Ao53, co53, eo53⟩ := Kd.R_slice HO117.out; subst eo53; obtain ⟨Ao54, co54, eo54⟩ := Kd.R_slice HO121.out; subst eo54) | (go_at_call 46; (with_reducible refine (laws_sameLines.calls k _ _ t114 _ _ t118 true _ ?side1 ?side2 ?side3 ?side4 A33.out).mono ?_); (case side1 => repeat (first | exact (Kd.R_reads' HO117.out).2.2 | (with_reducible refine Kd.C_alloc ?_ _) | (with_reducible refine Kd.C_drewN ?_ _) | (with_reducible refine Kd.C_drew ?_))); (case side2 => exact (Kd.R_reads' HO117.out).2.1); (case side3 => repeat (first | exact (Kd.R_reads' HO121.out).2.2 | (with_reducible refine Kd.C_alloc ?_ _) | (with_reducible refine Kd.C_drewN ?_ _) | (with_reducible refine Kd.C_drew ?_))); (case side4 => exact (Kd.R_reads' HO121.out).2.1); rintro e w' ⟨rfl, ⟨nd, rfl⟩⟩) | (go_at_call 61; (with_reducible refine (impl_IsPrime.calls k t122 t133 _ A35.out).mono ?_); rintro e w' ⟨rfl, ⟨nd, rfl⟩⟩) | (go_at_call 62; (with_reducible refine (spec_IsPrime.calls k t122 t133 _ A36.out).mono ?_); rintro e w' ⟨rfl, ⟨nd, rfl⟩⟩; obtain ⟨Ao55, co55, eo55⟩ := Kd.R_slice HO126.out; subst eo55) | (go_at_call 29; (with_reducible refine (impl_PolyAtPrime.calls k _ _ t123 t124 t135 _ ?side1 ?side2 A44.out).mono ?_); (case side1 => repeat (first | exact (Kd.R_reads' HO126.out).2.2 | (with_reducible refine Kd.C_alloc ?_ _) | (with_reducible refine Kd.C_drewN ?_ _) | (with_reducible refine Kd.C_drew ?_))); (case side2 => exact (Kd.R_reads' HO126.out).2.1); rintro e w56 ⟨rfl, hb⟩; have n0_ := Aside0.mk (Kd.R_below (by (with_reducible repeat (first | apply Kd.R_alloc | apply Kd.R_drewN | apply Kd.R_drew)); exact HO105.out) hb); have n1_ := Aside0.mk (Kd.R_below (by (with_reducible repeat (first | apply Kd.R_alloc | apply Kd.R_drewN | apply Kd.R_drew)); exact HO109.out) hb); have n2_ := Aside0.mk (Kd.R_below (by (with_reducible repeat (first | apply Kd.R_alloc | apply Kd.R_drewN | apply Kd.R_drew)); exact HO113.out) hb); have n3_ := Aside0.mk (Kd.R_below (by (with_reducible repeat (first | apply Kd.R_alloc | apply Kd.R_drewN | apply Kd.R_drew)); exact HO117.out) hb); have n4_ := Aside0.mk (Kd.R_below (by (with_reducible repeat (first | apply Kd.R_alloc | apply Kd.R_drewN | apply Kd.R_drew)); exact HO121.out) hb); have n5_ := Aside0.mk (Kd.R_below (by (with_reducible repeat (first | apply Kd.R_alloc | apply Kd.R_drewN | apply Kd.R_drew)); exact HO126.out) hb); have n6_ := Aside0.mk (Kd.R_below (by (with_reducible repeat (first | apply Kd.R_alloc | apply Kd.R_drewN | apply Kd.R_drew)); exact HO130.out) hb); have n7_ := Aside0.mk (below_step (by repeat (first | (with_reducible first | exact HB.out | apply below_alloc | apply pw_below_drewN | apply below_drew1) | exact HB.out)) hb); clear HO105; clear HO109; clear HO113; clear HO117; clear HO121; clear HO126; clear HO130; clear HB; have HO105 := n0_; have HO109 := n1_; have HO113 := n2_; have HO117 := n3_; have HO121 := n4_; have HO126 := n5_; have HO130 := n6_; have HB := n7_; clear n0_ n1_ n2_ n3_ n4_ n5_ n6_ n7_; (try clear hb); (try clear hb2); (try clear hk); (try clear hi)) | (go_at_call 28; (with_reducible refine (spec_PolyAtPrime.calls k _ _ t123 t124 t136 _ ?side1 ?side2 A45.out).mono ?_); (case side1 => repeat (first | exact (Kd.R_reads' HO126.out).2.2 | (with_reducible refine Kd.C_alloc ?_ _) | (with_reducible refine Kd.C_drewN ?_ _) | (with_reducible refine Kd.C_drew ?_))); (case side2 => exact (Kd.R_reads' HO126.out).2.1); rintro e w57 ⟨rfl, hb⟩; have n0_ := Aside0.mk (Kd.R_below (by (with_reducible repeat (first | apply Kd.R_alloc | apply Kd.R_drewN | apply Kd.R_drew)); exact HO105.out) hb); have n1_ := Aside0.mk (Kd.R_below (by (with_reducible repeat (first | apply Kd.R_alloc | apply Kd.R_drewN | apply Kd.R_drew)); exact HO109.out) hb); have n2_ := Aside0.mk (Kd.R_below (by (with_reducible repeat (first | apply Kd.R_alloc | apply Kd.R_drewN | apply Kd.R_drew)); exact HO113.out) hb); have n3_ := Aside0.mk (Kd.R_below (by (with_reducible repeat (first | apply Kd.R_alloc | apply Kd.R_drewN | apply Kd.R_drew)); exact HO117.out) hb); have n4_ := Aside0.mk (Kd.R_below (by (with_reducible repeat (first | apply Kd.R_alloc | apply Kd.R_drewN | apply Kd.R_drew)); exact HO121.out) hb); have n5_ := Aside0.mk (Kd.R_below (by (with_reducible repeat (first | apply Kd.R_alloc | apply Kd.R_drewN | apply Kd.R_drew)); exact HO126.out) hb); have n6_ := Aside0.mk (Kd.R_below (by (with_reducible repeat (first | apply Kd.R_alloc | apply Kd.R_drewN | apply Kd.R_drew)); exact HO130.out) hb); have n7_ := Aside0.mk (below_step (by repeat (first | (with_reducible first | exact HB.out | apply below_alloc | apply pw_below_drewN | apply below_drew1) | exact HB.out)) hb); clear HO105; clear HO109; clear HO113; clear HO117; clear HO121; clear HO126; clear HO130; clear HB; have HO105 := n0_; have HO109 := n1_; have HO113 := n2_; have HO117 := n3_; have HO121 := n4_; have HO126 := n5_; have HO130 := n6_; have HB := n7_; clear n0_ n1_ n2_ n3_ n4_ n5_ n6_ n7_; (try clear hb); (try clear hb2); (try clear hk); (try clear hi)) | (go_at_call 27; (with_reducible refine (impl_PointsOn.calls k _ _ t110 t111 t137 _ ?side1 ?side2 A47.out).mono ?_); (case side1 => repeat (first | exact (Kd.R_reads' HO113.out).2.2 | (with_reducible refine Kd.C_alloc ?_ _) | (with_reducible refine Kd.C_drewN ?_ _) | (with_reducible refine Kd.C_drew ?_))); (case side2 => exact (Kd.R_reads' HO113.out).2.1); rintro e w58 ⟨rfl, hb⟩; have n0_ := Aside0.mk (Kd.R_below (by (with_reducible repeat (first | apply Kd.R_alloc | apply Kd.R_drewN | apply Kd.R_drew)); exact HO105.out) hb); have n1_ := Aside0.mk (Kd.R_below (by (with_reducible repeat (first | apply Kd.R_alloc | apply Kd.R_drewN | apply Kd.R_drew)); exact HO109.out) hb); have n2_ := Aside0.mk (Kd.R_below (by (with_reducible repeat (first | apply Kd.R_alloc | apply Kd.R_drewN | apply Kd.R_drew)); exact HO113.out) hb); have n3_ := Aside0.mk (Kd.R_below (by (with_reducible repeat (first | apply Kd.R_alloc | apply Kd.R_drewN | apply Kd.R_drew)); exact HO117.out) hb); have n4_ := Aside0.mk (Kd.R_below (by (with_reducible repeat (first | apply Kd.R_alloc | apply Kd.R_drewN | apply Kd.R_drew)); exact HO121.out) hb); have n5_ := Aside0.mk (Kd.R_below (by (with_reducible repeat (first | apply Kd.R_alloc | apply Kd.R_drewN | apply Kd.R_drew)); exact HO126.out) hb); have n6_ := Aside0.mk (Kd.R_below (by (with_reducible repeat (first | apply Kd.R_alloc | apply Kd.R_drewN | apply Kd.R_drew)); exact HO130.out) hb); have n7_ := Aside0.mk (below_step (by repeat (first | (with_reducible first | exact HB.out | apply below_alloc | apply pw_below_drewN | apply below_drew1) | exact HB.out)) hb); clear HO105; clear HO109; clear HO113; clear HO117; clear HO121; clear HO126; clear HO130; clear HB; have HO105 := n0_; have HO109 := n1_; have HO113 := n2_; have HO117 := n3_; have HO121 := n4_; have HO126 := n5_; have HO130 := n6_; have HB := n7_; clear n0_ n1_ n2_ n3_ n4_ n5_ n6_ n7_; (try clear hb); (try clear hb2); (try clear hk); (try clear hi)) | (go_at_call 26; (with_reducible refine (spec_PointsOn.calls k _ _ t110 t111 t138 _ ?side1 ?side2 A48.out).mono ?_); (case side1 => repeat (first | exact (Kd.R_reads' HO113.out).2.2 | (with_reducible refine Kd.C_alloc ?_ _) | (with_reducible refine Kd.C_drewN ?_ _) | (with_reducible refine Kd.C_drew ?_))); (case side2 => exact (Kd.R_reads' HO113.out).2.1); rintro e w59 ⟨rfl, hb⟩; have n0_ := Aside0.mk (Kd.R_below (by (with_reducible repeat (first | apply Kd.R_alloc | apply Kd.R_drewN | apply Kd.R_drew)); exact HO105.out) hb); have n1_ := Aside0.mk (Kd.R_below (by (with_reducible repeat (first | apply Kd.R_alloc | apply Kd.R_drewN | apply Kd.R_drew)); exact HO109.out) hb); have n2_ := Aside0.mk (Kd.R_below (by (with_reducible repeat (first | apply Kd.R_alloc | apply Kd.R_drewN | apply Kd.R_drew)); exact HO113.out) hb); have n3_ := Aside0.mk (Kd.R_below (by (with_reducible repeat (first | apply Kd.R_alloc | apply Kd.R_drewN | apply Kd.R_drew)); exact HO117.out) hb); have n4_ := Aside0.mk (Kd.R_below (by (with_reducible repeat (first | apply Kd.R_alloc | apply Kd.R_drewN | apply Kd.R_drew)); exact HO121.out) hb); have n5_ := Aside0.mk (Kd.R_below (by (with_reducible repeat (first | apply Kd.R_alloc | apply Kd.R_drewN | apply Kd.R_drew)); exact HO126.out) hb); have n6_ := Aside0.mk (Kd.R_below (by (with_reducible repeat (first | apply Kd.R_alloc | apply Kd.R_drewN | apply Kd.R_drew)); exact HO130.out) hb); have n7_ := Aside0.mk (below_step (by repeat (first | (with_reducible first | exact HB.out | apply below_alloc | apply pw_below_drewN | apply below_drew1) | exact HB.out)) hb); clear HO105; clear HO109; clear HO113; clear HO117; clear HO121; clear HO126; clear HO130; clear HB; have HO105 := n0_; have HO109 := n1_; have HO113 := n2_; have HO117 := n3_; have HO121 := n4_; have HO126 := n5_; have HO130 := n6_; have HB := n7_; clear n0_ n1_ n2_ n3_ n4_ n5_ n6_ n7_; (try clear hb); (try clear hb2); (try clear hk); (try clear hi)))
         go_meet
         case rel => exact ⟨_, ((t137 != t138)), (by first | rfl | (simp; done) | (simp [*]; done)), H', ⟨by first | omega | exact Nat.le_refl _⟩, ⟨by (with_reducible repeat (first | apply Kd.R_alloc | apply Kd.R_drewN | apply Kd.R_drew)); exact Kd.R_mono HO105.out (fun _ hk => ⟨hk.1.1.1.2, ⟨hk.1.1.2, hk.2⟩⟩)⟩, ⟨by (with_reducible repeat (first | apply Kd.R_alloc | apply Kd.R_drewN | apply Kd.R_drew)); exact Kd.R_mono HO109.out (fun _ hk => trivial)⟩, ⟨by (with_reducible repeat (first | apply Kd.R_alloc | apply Kd.R_drewN | apply Kd.R_drew)); exact Kd.R_mono HO113.out (fun _ hk => ⟨hk.1.1.1.2, ⟨hk.1.1.2, hk.2⟩⟩)⟩, ⟨by (with_reducible repeat (first | apply Kd.R_alloc | apply Kd.R_drewN | apply Kd.R_drew)); exact Kd.R_mono HO117.out (fun _ hk => ⟨hk.1.1.1.2, ⟨hk.1.1.2, hk.2⟩⟩)⟩, ⟨by (with_reducible repeat (first | apply Kd.R_alloc | apply Kd.R_drewN | apply Kd.R_drew)); exact Kd.R_mono HO126.out (fun _ hk => ⟨hk.1.1.1.2, ⟨hk.1.1.2, hk.1.2⟩⟩)⟩, ⟨by repeat (first | (with_reducible first | exact HB.out | apply below_alloc | apply pw_below_drewN | apply below_drew1) | exact HB.out)⟩⟩
        ·rw [if_neg c46] at H
         exact absurd H (laws_FnFields.j0_no _ _ _ _ _ _ _ _ _ _)
      ·replace c34 := Bool.eq_false_iff.mpr c34
       subst c34
       have H1 : (laws_FnFields.j0 k t102 t103 t106 t107 t110 t111 t114 t115 t123 true) = some true := by rw [if_neg (show ¬ (false = true) by decide)] at H; exact H
       exact absurd H1 (laws_FnFields.j0_no _ _ _ _ _ _ _ _ _ _)
    ·replace c27 := Bool.eq_false_iff.mpr c27
     subst c27
     have H1 : (laws_FnFields.j0 k t102 t103 t106 t107 t110 t111 t114 t115 t123 true) = some true := by rw [if_neg (show ¬ (false = true) by decide)] at H; exact H
     exact absurd H1 (laws_FnFields.j0_no _ _ _ _ _ _ _ _ _ _)
   ·rw [if_neg c24] at H
    exact absurd H (laws_FnFields.j0_no _ _ _ _ _ _ _ _ _ _)
  case rest =>
   clear HC12
   try clear c3
   try clear c24
   try clear c24b0
   try clear c24b1
   try clear c27
   try clear c28
   try clear c28b0
   try clear c34
   try clear c37
   try clear c37b0
   try clear c46
   try clear c46b0
   try clear c46b1
   obtain ⟨kq, x101_11, rfl, HA, HJ11, HO_3, HO_6, HO_7, HO_9, HO_14, HB⟩ := hcut
   cases kq with
   | zero => exact absurd HA.out (by simp [laws_FnFields.j0])
   | succ kj11 =>
    have H := HA.out
    clear HA
    simp only [laws_FnFields.j0] at H
    by_cases c80 : x101_11 = true
    ·subst c80
     have H1 : (some false) = some true := by rw [if_pos rfl] at H; exact H
     clear H
     have H := H1
     clear H1
     exact absurd H (by simp)
    ·replace c80 := Bool.eq_false_iff.mpr c80
     subst c80
     have H1 : (if t106 ≥ 0 then ((laws_total.f kj11 t107).bind fun t139 => (if t139 = (wrap64 (t103 * t103)) then (if 0 < (t107.length : Int) then (laws_FnFields.j1 kj11 t102 t103 t106 t110 t111 t114 t115 t123 ((rd t107 0) != t106)) else (none)) else (laws_FnFields.j1 kj11 t102 t103 t106 t110 t111 t114 t115 t123 true))) else (laws_FnFields.j1 kj11 t102 t103 t106 t110 t111 t114 t115 t123 false)) = some true := by rw [if_neg (show ¬ (false = true) by decide)] at H; exact H
     clear H
     have H := H1
     clear H1
     have HC81 := Aside0.mk H
     clear H
     go_upto_region 13 with (fail)
     go_cut [118] (fun v118 wc => ∃ (kq : Nat) (x118_80 : Bool), v118 = .bool x118_80 ∧ Aside0 (laws_FnFields.j1 kq t102 t103 t106 t110 t111 t114 t115 t123 x118_80 = some true) ∧ Aside0 (kq ≤ kj11) ∧ Aside0 (Kd.R k40 40 wc w.heap.size (fun k_ => some k_ ≠ ((.slice Ao18 t110.length co18) : Value).ownBlock ∧ some k_ ≠ (v116 : Value).ownBlock ∧ some k_ ≠ (v125 : Value).ownBlock) (.slice Ao14 t102.length co14) t102) ∧ Aside0 (Kd.R k40 40 wc w.heap.size (fun k_ => some k_ ≠ ((.slice Ao14 t102.length co14) : Value).ownBlock ∧ some k_ ≠ (v116 : Value).ownBlock ∧ some k_ ≠ (v125 : Value).ownBlock) (.slice Ao18 t110.length co18) t110) ∧ Aside0 (Kd.R k40 40 wc w.heap.size (fun k_ => some k_ ≠ ((.slice Ao14 t102.length co14) : Value).ownBlock ∧ some k_ ≠ ((.slice Ao18 t110.length co18) : Value).ownBlock ∧ some k_ ≠ (v125 : Value).ownBlock) v116 t114) ∧ Aside0 (Kd.R k40 40 wc w.heap.size (fun k_ => some k_ ≠ ((.slice Ao14 t102.length co14) : Value).ownBlock ∧ some k_ ≠ ((.slice Ao18 t110.length co18) : Value).ownBlock ∧ some k_ ≠ (v116 : Value).ownBlock) v125 t123) ∧ Aside0 (Below w.heap.size w wc))
     case first =>
      have H := HC81.out
      clear HC81
      by_cases c82 : t106 ≥ 0
      ·rw [if_pos c82] at H
       have c82b0 : decide (0 ≤ t106) = true := decide_eq_true c82
       clear c82
       (first | rw [c82b0] | (simp only [i64_w, i32_w]; rw [c82b0]) | skip)
       replace H := Option.bind_eq_some_iff.mp H
       obtain ⟨t139, A830, H⟩ := H
       replace H : (if t139 = (wrap64 (t103 * t103)) then (if 0 < (t107.length : Int) then (laws_FnFields.j1 kj11 t102 t103 t106 t110 t111 t114 t115 t123 ((rd t107 0) != t106)) else (none)) else (laws_FnFields.j1 kj11 t102 t103 t106 t110 t111 t114 t115 t123 true)) = some true := H
       have A83 := Aside0.mk A830
       clear A830
       by_cases c84 : t139 = (wrap64 (t103 * t103))
       ·rw [if_pos c84] at H
        have c84b0 : (t139 == (wrap64 (t103 * t103))) = true := beq_iff_eq.mpr c84
        have c84b1 : (t139 != (wrap64 (t103 * t103))) = false := bne_eq_false_iff_eq.mpr c84
        clear c84
        by_cases c85 : 0 < (t107.length : Int)
        ·rw [if_pos c85] at H
         have c85b0 : decide (0 < (t107.length : Int)) = true := decide_eq_true c85
         have c85b1 : decide (0 < t107.length) = true := decide_eq_true (by omega)
         clear c85
         have H' := Aside0.mk H
         clear H
         obtain ⟨Ao86, co86, eo86⟩ := Kd.R_slice HO_6.out
         subst eo86
         go_wp2_with (first | (go_at_call 54; (with_reducible refine (laws_total.calls kj11 _ _ t107 t139 _ ?side1 ?side2 A83.out).mono ?_); (case side1 => repeat (first | exact (Kd.R_reads' HO_6.out).2.2 | (with_reducible refine Kd.C_alloc ?_ _) | (with_reducible refine Kd.C_drewN ?_ _) | (with_reducible refine Kd.C_drew ?_))); (case side2 => exact (Kd.R_reads' HO_6.out).2.1); rintro e w' ⟨rfl, ⟨nd, rfl⟩⟩; have p140 : 0 ≤ (0 : Int) := (by omega); have q140 : 0 < (t107.length : Int) := of_decide_eq_true (by first | (with_reducible assumption) | assumption); obtain ⟨ad140, e140, hx140_0⟩ := Kd.at_int (Kd.R_reads' HO_6.out).2.2 0 p140 q140; cases e140; have qi140 : (0 < t107.length) = True := eq_true (by omega); (try rw [show ((0 : Int)).toNat = 0 from rfl] at hx140_0); (try rw [Addr.add_zero'] at hx140_0); replace p140 := eq_true p140; replace q140 := eq_true q140))
         go_meet
         case rel => exact ⟨_, (((rd t107 0) != t106)), (by first | rfl | (simp; done) | (simp [*]; done)), H', ⟨by have := HJ11.out; first | omega | exact Nat.le_refl _⟩, ⟨by (with_reducible repeat (first | apply Kd.R_alloc | apply Kd.R_drewN | apply Kd.R_drew)); exact HO_3.out⟩, ⟨by (with_reducible repeat (first | apply Kd.R_alloc | apply Kd.R_drewN | apply Kd.R_drew)); exact HO_7.out⟩, ⟨by (with_reducible repeat (first | apply Kd.R_alloc | apply Kd.R_drewN | apply Kd.R_drew)); exact HO_9.out⟩, ⟨by (with_reducible repeat (first | apply Kd.R_alloc | apply Kd.R_drewN | apply Kd.R_drew)); exact HO_14.out⟩, ⟨by repeat (first | (with_reducible first | exact HB.out | apply below_alloc | apply pw_below_drewN | apply below_drew1) | exact HB.out)⟩⟩
        ·rw [if_neg c85] at H
         exact absurd H (by simp)
       ·rw [if_neg c84] at H
        exact absurd H (laws_FnFields.j1_no _ _ _ _ _ _ _ _ _)
      ·rw [if_neg c82] at H
       have c82b0 : decide (0 ≤ t106) = false := decide_eq_false c82
       clear c82
       (first | rw [c82b0] | (simp only [i64_w, i32_w]; rw [c82b0]) | skip)
       have H' := Aside0.mk H
       clear H
       go_wp2
       go_meet
       case rel => exact ⟨_, (false), (by first | rfl | (simp; done) | (simp [*]; done)), H', ⟨by have := HJ11.out; first | omega | exact Nat.le_refl _⟩, ⟨by (with_reducible repeat (first | apply Kd.R_alloc | apply Kd.R_drewN | apply Kd.R_drew)); exact HO_3.out⟩, ⟨by (with_reducible repeat (first | apply Kd.R_alloc | apply Kd.R_drewN | apply Kd.R_drew)); exact HO_7.out⟩, ⟨by (with_reducible repeat (first | apply Kd.R_alloc | apply Kd.R_drewN | apply Kd.R_drew)); exact HO_9.out⟩, ⟨by (with_reducible repeat (first | apply Kd.R_alloc | apply Kd.R_drewN | apply Kd.R_drew)); exact HO_14.out⟩, ⟨by repeat (first | (with_reducible first | exact HB.out | apply below_alloc | apply pw_below_drewN | apply below_drew1) | exact HB.out)⟩⟩
     case rest =>
      clear HC81
      try clear c3
      try clear c24
      try clear c24b0
      try clear c24b1
      try clear c27
      try clear c28
      try clear c28b0
      try clear c34
      try clear c37
      try clear c37b0
      try clear c46
      try clear c46b0
      try clear c46b1
      try clear c80
      try clear c82
      try clear c82b0
      try clear c84
      try clear c84b0
      try clear c84b1
      try clear c85
      try clear c85b0
      try clear c85b1
      try clear hx140_0
      try clear p140
      try clear q140
      obtain ⟨kq, x118_80, rfl, HA, HJ80, HO_3, HO_7, HO_9, HO_14, HB⟩ := hcut
      cases kq with
      | zero => exact absurd HA.out (by simp [laws_FnFields.j1])
      | succ kj80 =>
       have H := HA.out
       clear HA
       simp only [laws_FnFields.j1] at H
       by_cases c88 : x118_80 = true
       ·subst c88
        have H1 : (some false) = some true := by rw [if_pos rfl] at H; exact H
        clear H
        have H := H1
        clear H1
        exact absurd H (by simp)
       ·replace c88 := Bool.eq_false_iff.mpr c88
        subst c88
        have H1 : ((spec_AreLines.f kj80 t102).bind fun t141 => (if t141 = true then (if t103 = 101 then ((impl_PolyAtPrime.f kj80 t102 101).bind fun t142 => (laws_FnFields.j2 kj80 t110 t111 t114 t115 t123 (t106 != t142))) else (laws_FnFields.j2 kj80 t110 t111 t114 t115 t123 false)) else (laws_FnFields.j2 kj80 t110 t111 t114 t115 t123 false))) = some true := by rw [if_neg (show ¬ (false = true) by decide)] at H; exact H
        clear H
        have H := H1
        clear H1
        have HC89 := Aside0.mk H
        clear H
        go_upto_region 15 with (fail)
        go_cut [130] (fun v130 wc => ∃ (kq : Nat) (x130_88 : Bool), v130 = .bool x130_88 ∧ Aside0 (laws_FnFields.j2 kq t110 t111 t114 t115 t123 x130_88 = some true) ∧ Aside0 (kq ≤ kj80) ∧ Aside0 (Kd.R k40 40 wc w.heap.size (fun k_ => some k_ ≠ (v116 : Value).ownBlock ∧ some k_ ≠ (v125 : Value).ownBlock) (.slice Ao18 t110.length co18) t110) ∧ Aside0 (Kd.R k40 40 wc w.heap.size (fun k_ => some k_ ≠ ((.slice Ao18 t110.length co18) : Value).ownBlock ∧ some k_ ≠ (v125 : Value).ownBlock) v116 t114) ∧ Aside0 (Kd.R k40 40 wc w.heap.size (fun k_ => some k_ ≠ ((.slice Ao18 t110.length co18) : Value).ownBlock ∧ some k_ ≠ (v116 : Value).ownBlock) v125 t123) ∧ Aside0 (Below w.heap.size w wc))
        case first =>
         have H := HC89.out
         clear HC89
         replace H := Option.bind_eq_some_iff.mp H
         obtain ⟨t141, A900, H⟩ := H
         replace H : (if t141 = true then (if t103 = 101 then ((impl_PolyAtPrime.f kj80 t102 101).bind fun t142 => (laws_FnFields.j2 kj80 t110 t111 t114 t115 t123 (t106 != t142))) else (laws_FnFields.j2 kj80 t110 t111 t114 t115 t123 false)) else (laws_FnFields.j2 kj80 t110 t111 t114 t115 t123 false)) = some true := H
         have A90 := Aside0.mk A900
         clear A900
         by_cases c91 : t141 = true
         ·subst c91
          have H1 : (if t103 = 101 then ((impl_PolyAtPrime.f kj80 t102 101).bind fun t142 => (laws_FnFields.j2 kj80 t110 t111 t114 t115 t123 (t106 != t142))) else (laws_FnFields.j2 kj80 t110 t111 t114 t115 t123 false)) = some true := by rw [if_pos rfl] at H; exact H
          clear H
          have H := H1
          clear H1
          by_cases c92 : t103 = 101
          ·rw [if_pos c92] at H
           have c92b0 : (t103 == 101) = true := beq_iff_eq.mpr c92
           have c92b1 : (t103 != 101) = false := bne_eq_false_iff_eq.mpr c92
           clear c92
           (first | rw [c92b0] | (simp only [i64_w, i32_w]; rw [c92b0]) | skip)
           replace H := Option.bind_eq_some_iff.mp H
           obtain ⟨t142, A930, H⟩ := H
           replace H : (laws_FnFields.j2 kj80 t110 t111 t114 t115 t123 (t106 != t142)) = some true := H
           have A93 := Aside0.mk A930
           clear A930
           have H' := Aside0.mk H
           clear H
           go_wp2_with (first | ((with_reducible refine gate_callee (f := 53) rfl ?_); refine goesL_ (some 120) rfl rfl Try.func53 (by kernel_rfl) rfl #[.slice Ao14 t102.length co14] rfl (by (try simp only [List.map_toArray, List.map_cons, List.map_nil]); first | done | rfl | (simp only [List.length_drop, List.length_take]; rfl)) ?_; (with_reducible refine (spec_AreLines.calls kj80 _ _ t102 true _ ?side1 ?side2 A90.out).mono ?_); (case side1 => repeat (first | exact (Kd.R_reads' HO_3.out).2.2 | (with_reducible refine Kd.C_alloc ?_ _) | (with_reducible refine Kd.C_drewN ?_ _) | (with_reducible refine Kd.C_drew ?_))); (case side2 => exact (Kd.R_reads' HO_3.out).2.1); rintro e w94 ⟨rfl, hb⟩; refine ⟨_, rfl, ?_⟩; have n0_ := Aside0.mk (Kd.R_below (by (with_reducible repeat (first | apply Kd.R_alloc | apply Kd.R_drewN | apply Kd.R_drew)); exact HO_3.out) hb); have n1_ := Aside0.mk (Kd.R_below (by (with_reducible repeat (first | apply Kd.R_alloc | apply Kd.R_drewN | apply Kd.R_drew)); exact HO_7.out) hb); have n2_ := Aside0.mk (Kd.R_below (by (with_reducible repeat (first | apply Kd.R_alloc | apply Kd.R_drewN | apply Kd.R_drew)); exact HO_9.out) hb); have n3_ := Aside0.mk (Kd.R_below (by (with_reducible repeat (first | apply Kd.R_alloc | apply Kd.R_drewN | apply Kd.R_drew)); exact HO_14.out) hb); have n4_ := Aside0.mk (below_step (by repeat (first | (with_reducible first | exact HB.out | apply below_alloc | apply pw_below_drewN | apply below_drew1) | exact HB.out)) hb); clear HO_3; clear HO_7; clear HO_9; clear HO_14; clear HB; have HO_3 := n0_; have HO_7 := n1_; have HO_9 := n2_; have HO_14 := n3_; have HB := n4_; clear n0_ n1_ n2_ n3_ n4_; (try clear hb); (try clear hb2); (try clear hk); (try clear hi)) | (go_at_call 29; (with_reducible refine (impl_PolyAtPrime.calls kj80 _ _ t102 101 t142 _ ?side1 ?side2 A93.out).mono ?_); (case side1 => repeat (first | exact (Kd.R_reads' HO_3.out).2.2 | (with_reducible refine Kd.C_alloc ?_ _) | (with_reducible refine Kd.C_drewN ?_ _) | (with_reducible refine Kd.C_drew ?_))); (case side2 => exact (Kd.R_reads' HO_3.out).2.1); rintro e w95 ⟨rfl, hb⟩; have n0_ := Aside0.mk (Kd.R_below (by (with_reducible repeat (first | apply Kd.R_alloc | apply Kd.R_drewN | apply Kd.R_drew)); exact HO_3.out) hb); have n1_ := Aside0.mk (Kd.R_below (by (with_reducible repeat (first | apply Kd.R_alloc | apply Kd.R_drewN | apply Kd.R_drew)); exact HO_7.out) hb); have n2_ := Aside0.mk (Kd.R_below (by (with_reducible repeat (first | apply Kd.R_alloc | apply Kd.R_drewN | apply Kd.R_drew)); exact HO_9.out) hb); have n3_ := Aside0.mk (Kd.R_below (by (with_reducible repeat (first | apply Kd.R_alloc | apply Kd.R_drewN | apply Kd.R_drew)); exact HO_14.out) hb); have n4_ := Aside0.mk (below_step (by repeat (first | (with_reducible first | exact HB.out | apply below_alloc | apply pw_below_drewN | apply below_drew1) | exact HB.out)) hb); clear HO_3; clear HO_7; clear HO_9; clear HO_14; clear HB; have HO_3 := n0_; have HO_7 := n1_; have HO_9 := n2_; have HO_14 := n3_; have HB := n4_; clear n0_ n1_ n2_ n3_ n4_; (try clear hb); (try clear hb2); (try clear hk); (try clear hi)))
           go_meet
           case rel => exact ⟨_, ((t106 != t142)), (by first | rfl | (simp; done) | (simp [*]; done)), H', ⟨by have := HJ11.out; have := HJ80.out; first | omega | exact Nat.le_refl _⟩, ⟨by (with_reducible repeat (first | apply Kd.R_alloc | apply Kd.R_drewN | apply Kd.R_drew)); exact Kd.R_mono HO_7.out (fun _ hk => ⟨hk.2.1, hk.2.2⟩)⟩, ⟨by (with_reducible repeat (first | apply Kd.R_alloc | apply Kd.R_drewN | apply Kd.R_drew)); exact Kd.R_mono HO_9.out (fun _ hk => ⟨hk.2.1, hk.2.2⟩)⟩, ⟨by (with_reducible repeat (first | apply Kd.R_alloc | apply Kd.R_drewN | apply Kd.R_drew)); exact Kd.R_mono HO_14.out (fun _ hk => ⟨hk.2.1, hk.2.2⟩)⟩, ⟨by repeat (first | (with_reducible first | exact HB.out | apply below_alloc | apply pw_below_drewN | apply below_drew1) | exact HB.out)⟩⟩
          ·rw [if_neg c92] at H
           have c92b0 : (t103 == 101) = false := beq_eq_false_iff_ne.mpr c92
           have c92b1 : (t103 != 101) = true := bne_iff_ne.mpr c92
           (first | rw [c92b0] | (simp only [i64_w, i32_w]; rw [c92b0]) | skip)
           have H' := Aside0.mk H
           clear H
           go_wp2_with (first | ((with_reducible refine gate_callee (f := 53) rfl ?_); refine goesL_ (some 120) rfl rfl Try.func53 (by kernel_rfl) rfl #[.slice Ao14 t102.length co14] rfl (by (try simp only [List.map_toArray, List.map_cons, List.map_nil]); first | done | rfl | (simp only [List.length_drop, List.length_take]; rfl)) ?_; (with_reducible refine (spec_AreLines.calls kj80 _ _ t102 true _ ?side1 ?side2 A90.out).mono ?_); (case side1 => repeat (first | exact (Kd.R_reads' HO_3.out).2.2 | (with_reducible refine Kd.C_alloc ?_ _) | (with_reducible refine Kd.C_drewN ?_ _) | (with_reducible refine Kd.C_drew ?_))); (case side2 => exact (Kd.R_reads' HO_3.out).2.1); rintro e w96 ⟨rfl, hb⟩; refine ⟨_, rfl, ?_⟩; have n0_ := Aside0.mk (Kd.R_below (by (with_reducible repeat (first | apply Kd.R_alloc | apply Kd.R_drewN | apply Kd.R_drew)); exact HO_3.out) hb); have n1_ := Aside0.mk (Kd.R_below (by (with_reducible repeat (first | apply Kd.R_alloc | apply Kd.R_drewN | apply Kd.R_drew)); exact HO_7.out) hb); have n2_ := Aside0.mk (Kd.R_below (by (with_reducible repeat (first | apply Kd.R_alloc | apply Kd.R_drewN | apply Kd.R_drew)); exact HO_9.out) hb); have n3_ := Aside0.mk (Kd.R_below (by (with_reducible repeat (first | apply Kd.R_alloc | apply Kd.R_drewN | apply Kd.R_drew)); exact HO_14.out) hb); have n4_ := Aside0.mk (below_step (by repeat (first | (with_reducible first | exact HB.out | apply below_alloc | apply pw_below_drewN | apply below_drew1) | exact HB.out)) hb); clear HO_3; clear HO_7; clear HO_9; clear HO_14; clear HB; have HO_3 := n0_; have HO_7 := n1_; have HO_9 := n2_; have HO_14 := n3_; have HB := n4_; clear n0_ n1_ n2_ n3_ n4_; (try clear hb); (try clear hb2); (try clear hk); (try clear hi)))
           go_meet
           case rel => exact ⟨_, (false), (by first | rfl | (simp; done) | (simp [*]; done)), H', ⟨by have := HJ11.out; have := HJ80.out; first | omega | exact Nat.le_refl _⟩, ⟨by (with_reducible repeat (first | apply Kd.R_alloc | apply Kd.R_drewN | apply Kd.R_drew)); exact Kd.R_mono HO_7.out (fun _ hk => ⟨hk.2.1, hk.2.2⟩)⟩, ⟨by (with_reducible repeat (first | apply Kd.R_alloc | apply Kd.R_drewN | apply Kd.R_drew)); exact Kd.R_mono HO_9.out (fun _ hk => ⟨hk.2.1, hk.2.2⟩)⟩, ⟨by (with_reducible repeat (first | apply Kd.R_alloc | apply Kd.R_drewN | apply Kd.R_drew)); exact Kd.R_mono HO_14.out (fun _ hk => ⟨hk.2.1, hk.2.2⟩)⟩, ⟨by repeat (first | (with_reducible first | exact HB.out | apply below_alloc | apply pw_below_drewN | apply below_drew1) | exact HB.out)⟩⟩
         ·replace c91 := Bool.eq_false_iff.mpr c91
          subst c91
          have H1 : (laws_FnFields.j2 kj80 t110 t111 t114 t115 t123 false) = some true := by rw [if_neg (show ¬ (false = true) by decide)] at H; exact H
          clear H
          have H := H1
          clear H1
          have H' := Aside0.mk H
          clear H
          go_wp2_with (first | ((with_reducible refine gate_callee (f := 53) rfl ?_); refine goesL_ (some 120) rfl rfl Try.func53 (by kernel_rfl) rfl #[.slice Ao14 t102.length co14] rfl (by (try simp only [List.map_toArray, List.map_cons, List.map_nil]); first | done | rfl | (simp only [List.length_drop, List.length_take]; rfl)) ?_; (with_reducible refine (spec_AreLines.calls kj80 _ _ t102 false _ ?side1 ?side2 A90.out).mono ?_); (case side1 => repeat (first | exact (Kd.R_reads' HO_3.out).2.2 | (with_reducible refine Kd.C_alloc ?_ _) | (with_reducible refine Kd.C_drewN ?_ _) | (with_reducible refine Kd.C_drew ?_))); (case side2 => exact (Kd.R_reads' HO_3.out).2.1); rintro e w97 ⟨rfl, hb⟩; refine ⟨_, rfl, ?_⟩; have n0_ := Aside0.mk (Kd.R_below (by (with_reducible repeat (first | apply Kd.R_alloc | apply Kd.R_drewN | apply Kd.R_drew)); exact HO_3.out) hb); have n1_ := Aside0.mk (Kd.R_below (by (with_reducible repeat (first | apply Kd.R_alloc | apply Kd.R_drewN | apply Kd.R_drew)); exact HO_7.out) hb); have n2_ := Aside0.mk (Kd.R_below (by (with_reducible repeat (first | apply Kd.R_alloc | apply Kd.R_drewN | apply Kd.R_drew)); exact HO_9.out) hb); have n3_ := Aside0.mk (Kd.R_below (by (with_reducible repeat (first | apply Kd.R_alloc | apply Kd.R_drewN | apply Kd.R_drew)); exact HO_14.out) hb); have n4_ := Aside0.mk (below_step (by repeat (first | (with_reducible first | exact HB.out | apply below_alloc | apply pw_below_drewN | apply below_drew1) | exact HB.out)) hb); clear HO_3; clear HO_7; clear HO_9; clear HO_14; clear HB; have HO_3 := n0_; have HO_7 := n1_; have HO_9 := n2_; have HO_14 := n3_; have HB := n4_; clear n0_ n1_ n2_ n3_ n4_; (try clear hb); (try clear hb2); (try clear hk); (try clear hi)))
          go_meet
          case rel => exact ⟨_, (false), (by first | rfl | (simp; done) | (simp [*]; done)), H', ⟨by have := HJ11.out; have := HJ80.out; first | omega | exact Nat.le_refl _⟩, ⟨by (with_reducible repeat (first | apply Kd.R_alloc | apply Kd.R_drewN | apply Kd.R_drew)); exact Kd.R_mono HO_7.out (fun _ hk => ⟨hk.2.1, hk.2.2⟩)⟩, ⟨by (with_reducible repeat (first | apply Kd.R_alloc | apply Kd.R_drewN | apply Kd.R_drew)); exact Kd.R_mono HO_9.out (fun _ hk => ⟨hk.2.1, hk.2.2⟩)⟩, ⟨by (with_reducible repeat (first | apply Kd.R_alloc | apply Kd.R_drewN | apply Kd.R_drew)); exact Kd.R_mono HO_14.out (fun _ hk => ⟨hk.2.1, hk.2.2⟩)⟩, ⟨by repeat (first | (with_reducible first | exact HB.out | apply below_alloc | apply pw_below_drewN | apply below_drew1) | exact HB.out)⟩⟩
        case rest =>
         clear HC89
         try clear c3
         try clear c24
         try clear c24b0
         try clear c24b1
         try clear c27
         try clear c28
         try clear c28b0
         try clear c34
         try clear c37
         try clear c37b0
         try clear c46
         try clear c46b0
         try clear c46b1
         try clear c80
         try clear c82
         try clear c82b0
         try clear c84
         try clear c84b0
         try clear c84b1
         try clear c85
         try clear c85b0
         try clear c85b1
         try clear c88
         try clear c91
         try clear c92
         try clear c92b0
         try clear c92b1
         try clear hx140_0
         try clear p140
         try clear q140
         obtain ⟨kq, x130_88, rfl, HA, HJ88, HO_7, HO_9, HO_14, HB⟩ := hcut
         cases kq with
         | zero => exact absurd HA.out (by simp [laws_FnFields.j2])
         | succ kj88 =>
          have H := HA.out
          clear HA
          simp only [laws_FnFields.j2] at H
          by_cases c98 : x130_88 = true
          ·subst c98
           have H1 : (some false) = some true := by rw [if_pos rfl] at H; exact H
           clear H
           have H := H1
           clear H1
           exact absurd H (by simp)
          ·replace c98 := Bool.eq_false_iff.mpr c98
           subst c98
           have H1 : (if t115 = true then ((spec_CountRegions.f kj88 t110).bind fun t143 => ((spec_CountRegions.f kj88 t114).bind fun t144 => ((impl_PointsOn.f kj88 t110 t111).bind fun t145 => (laws_FnFields.j3 kj88 t123 (t143 != (wrap64 ((wrap64 (t144 + t145)) + 1))))))) else (laws_FnFields.j3 kj88 t123 false)) = some true := by rw [if_neg (show ¬ (false = true) by decide)] at H; exact H
           clear H
           have H := H1
           clear H1
           have HC99 := Aside0.mk H
           clear H
           go_upto_region 17 with (fail)
           go_cut [143] (fun v143 wc => ∃ (kq : Nat) (x143_98 : Bool), v143 = .bool x143_98 ∧ Aside0 (laws_FnFields.j3 kq t123 x143_98 = some true) ∧ Aside0 (kq ≤ kj88) ∧ Aside0 (Kd.R k40 40 wc w.heap.size (fun _ => True) v125 t123) ∧ Aside0 (Below w.heap.size w wc))
           case first =>
            have H := HC99.out
            clear HC99
            by_cases c100 : t115 = true
            ·subst c100
             have H1 : ((spec_CountRegions.f kj88 t110).bind fun t143 => ((spec_CountRegions.f kj88 t114).bind fun t144 => ((impl_PointsOn.f kj88 t110 t111).bind fun t145 => (laws_FnFields.j3 kj88 t123 (t143 != (wrap64 ((wrap64 (t144 + t145)) + 1))))))) = some true := by rw [if_pos rfl] at H; exact H
             clear H
             have H := H1
             clear H1
             replace H := Option.bind_eq_some_iff.mp H
             obtain ⟨t143, A1010, H⟩ := H
             replace H : ((spec_CountRegions.f kj88 t114).bind fun t144 => ((impl_PointsOn.f kj88 t110 t111).bind fun t145 => (laws_FnFields.j3 kj88 t123 (t143 != (wrap64 ((wrap64 (t144 + t145)) + 1)))))) = some true := H
             have A101 := Aside0.mk A1010
             clear A1010
             replace H := Option.bind_eq_some_iff.mp H
             obtain ⟨t144, A1020, H⟩ := H
             replace H : ((impl_PointsOn.f kj88 t110 t111).bind fun t145 => (laws_FnFields.j3 kj88 t123 (t143 != (wrap64 ((wrap64 (t144 + t145)) + 1))))) = some true := H
             have A102 := Aside0.mk A1020
             clear A1020
             replace H := Option.bind_eq_some_iff.mp H
             obtain ⟨t145, A1030, H⟩ := H
             replace H : (laws_FnFields.j3 kj88 t123 (t143 != (wrap64 ((wrap64 (t144 + t145)) + 1)))) = some true := H
             have A103 := Aside0.mk A1030
             clear A1030
             have H' := Aside0.mk H
             clear H
             go_wp2_with (first | (go_at_call 51; (with_reducible refine (spec_CountRegions.calls kj88 _ _ t110 t143 _ ?side1 ?side2 A101.out).mono ?_); (case side1 => repeat (first | exact (Kd.R_reads' HO_7.out).2.2 | (with_reducible refine Kd.C_alloc ?_ _) | (with_reducible refine Kd.C_drewN ?_ _) | (with_reducible refine Kd.C_drew ?_))); (case side2 => exact (Kd.R_reads' HO_7.out).2.1); rintro e w104 ⟨rfl, hb⟩; have n0_ := Aside0.mk (Kd.R_below (by (with_reducible repeat (first | apply Kd.R_alloc | apply Kd.R_drewN | apply Kd.R_drew)); exact HO_7.out) hb); have n1_ := Aside0.mk (Kd.R_below (by (with_reducible repeat (first | apply Kd.R_alloc | apply Kd.R_drewN | apply Kd.R_drew)); exact HO_9.out) hb); have n2_ := Aside0.mk (Kd.R_below (by (with_reducible repeat (first | apply Kd.R_alloc | apply Kd.R_drewN | apply Kd.R_drew)); exact HO_14.out) hb); have n3_ := Aside0.mk (below_step (by repeat (first | (with_reducible first | exact HB.out | apply below_alloc | apply pw_below_drewN | apply below_drew1) | exact HB.out)) hb); clear HO_7; clear HO_9; clear HO_14; clear HB; have HO_7 := n0_; have HO_9 := n1_; have HO_14 := n2_; have HB := n3_; clear n0_ n1_ n2_ n3_; (try clear hb); (try clear hb2); (try clear hk); (try clear hi); obtain ⟨Ao105, co105, eo105⟩ := Kd.R_slice HO_9.out; subst eo105) | (go_at_call 51; (with_reducible refine (spec_CountRegions.calls kj88 _ _ t114 t144 _ ?side1 ?side2 A102.out).mono ?_); (case side1 => repeat (first | exact (Kd.R_reads' HO_9.out).2.2 | (with_reducible refine Kd.C_alloc ?_ _) | (with_reducible refine Kd.C_drewN ?_ _) | (with_reducible refine Kd.C_drew ?_))); (case side2 => exact (Kd.R_reads' HO_9.out).2.1); rintro e w106 ⟨rfl, hb⟩; have n0_ := Aside0.mk (Kd.R_below (by (with_reducible repeat (first | apply Kd.R_alloc | apply Kd.R_drewN | apply Kd.R_drew)); exact HO_7.out) hb); have n1_ := Aside0.mk (Kd.R_below (by (with_reducible repeat (first | apply Kd.R_alloc | apply Kd.R_drewN | apply Kd.R_drew)); exact HO_9.out) hb); have n2_ := Aside0.mk (Kd.R_below (by (with_reducible repeat (first | apply Kd.R_alloc | apply Kd.R_drewN | apply Kd.R_drew)); exact HO_14.out) hb); have n3_ := Aside0.mk (below_step (by repeat (first | (with_reducible first | exact HB.out | apply below_alloc | apply pw_below_drewN | apply below_drew1) | exact HB.out)) hb); clear HO_7; clear HO_9; clear HO_14; clear HB; have HO_7 := n0_; have HO_9 := n1_; have HO_14 := n2_; have HB := n3_; clear n0_ n1_ n2_ n3_; (try clear hb); (try clear hb2); (try clear hk); (try clear hi)) | (go_at_call 27; (with_reducible refine (impl_PointsOn.calls kj88 _ _ t110 t111 t145 _ ?side1 ?side2 A103.out).mono ?_); (case side1 => repeat (first | exact (Kd.R_reads' HO_7.out).2.2 | (with_reducible refine Kd.C_alloc ?_ _) | (with_reducible refine Kd.C_drewN ?_ _) | (with_reducible refine Kd.C_drew ?_))); (case side2 => exact (Kd.R_reads' HO_7.out).2.1); rintro e w107 ⟨rfl, hb⟩; have n0_ := Aside0.mk (Kd.R_below (by (with_reducible repeat (first | apply Kd.R_alloc | apply Kd.R_drewN | apply Kd.R_drew)); exact HO_7.out) hb); have n1_ := Aside0.mk (Kd.R_below (by (with_reducible repeat (first | apply Kd.R_alloc | apply Kd.R_drewN | apply Kd.R_drew)); exact HO_9.out) hb); have n2_ := Aside0.mk (Kd.R_below (by (with_reducible repeat (first | apply Kd.R_alloc | apply Kd.R_drewN | apply Kd.R_drew)); exact HO_14.out) hb); have n3_ := Aside0.mk (below_step (by repeat (first | (with_reducible first | exact HB.out | apply below_alloc | apply pw_below_drewN | apply below_drew1) | exact HB.out)) hb); clear HO_7; clear HO_9; clear HO_14; clear HB; have HO_7 := n0_; have HO_9 := n1_; have HO_14 := n2_; have HB := n3_; clear n0_ n1_ n2_ n3_; (try clear hb); (try clear hb2); (try clear hk); (try clear hi)))
             go_meet
             case rel => exact ⟨_, ((t143 != (wrap64 ((wrap64 (t144 + t145)) + 1)))), (by first | rfl | (simp; done) | (simp [*]; done)), H', ⟨by have := HJ11.out; have := HJ80.out; have := HJ88.out; first | omega | exact Nat.le_refl _⟩, ⟨by (with_reducible repeat (first | apply Kd.R_alloc | apply Kd.R_drewN | apply Kd.R_drew)); exact Kd.R_mono HO_14.out (fun _ hk => trivial)⟩, ⟨by repeat (first | (with_reducible first | exact HB.out | apply below_alloc | apply pw_below_drewN | apply below_drew1) | exact HB.out)⟩⟩
            ·replace c100 := Bool.eq_false_iff.mpr c100
             subst c100
             have H1 : (laws_FnFields.j3 kj88 t123 false) = some true := by rw [if_neg (show ¬ (false = true) by decide)] at H; exact H
             clear H
             have H := H1
             clear H1
             have H' := Aside0.mk H
             clear H
             go_wp2
             go_meet
             case rel => exact ⟨_, (false), (by first | rfl | (simp; done) | (simp [*]; done)), H', ⟨by have := HJ11.out; have := HJ80.out; have := HJ88.out; first | omega | exact Nat.le_refl _⟩, ⟨by (with_reducible repeat (first | apply Kd.R_alloc | apply Kd.R_drewN | apply Kd.R_drew)); exact Kd.R_mono HO_14.out (fun _ hk => trivial)⟩, ⟨by repeat (first | (with_reducible first | exact HB.out | apply below_alloc | apply pw_below_drewN | apply below_drew1) | exact HB.out)⟩⟩
           case rest =>
            clear HC99
            try clear c3
            try clear c24
            try clear c24b0
            try clear c24b1
            try clear c27
            try clear c28
            try clear c28b0
            try clear c34
            try clear c37
            try clear c37b0
            try clear c46
            try clear c46b0
            try clear c46b1
            try clear c80
            try clear c82
            try clear c82b0
            try clear c84
            try clear c84b0
            try clear c84b1
            try clear c85
            try clear c85b0
            try clear c85b1
            try clear c88
            try clear c91
            try clear c92
            try clear c92b0
            try clear c92b1
            try clear c98
            try clear c100
            try clear hx140_0
            try clear p140
            try clear q140
            obtain ⟨kq, x143_98, rfl, HA, HJ98, HO_14, HB⟩ := hcut
            cases kq with
            | zero => exact absurd HA.out (by simp [laws_FnFields.j3])
            | succ kj98 =>
             have H := HA.out
             clear HA
             simp only [laws_FnFields.j3] at H
             by_cases c108 : x143_98 = true
             ·subst c108
              have H1 : (some false) = some true := by rw [if_pos rfl] at H; exact H
              clear H
              have H := H1
              clear H1
              exact absurd H (by simp)
             ·replace c108 := Bool.eq_false_iff.mpr c108
              subst c108
              have H1 : ((spec_AreLines.f kj98 t123).bind fun t146 => (if t146 = true then ((impl_PolyAtPrime.f kj98 t123 (-1)).bind fun t147 => ((spec_CountRegions.f kj98 t123).bind fun t148 => (some (t147 == t148)))) else (some true))) = some true := by rw [if_neg (show ¬ (false = true) by decide)] at H; exact H
              clear H
              have H := H1
              clear H1
              replace H := Option.bind_eq_some_iff.mp H
              obtain ⟨t146, A1090, H⟩ := H
              replace H : (if t146 = true then ((impl_PolyAtPrime.f kj98 t123 (-1)).bind fun t147 => ((spec_CountRegions.f kj98 t123).bind fun t148 => (some (t147 == t148)))) else (some true)) = some true := H
              have A109 := Aside0.mk A1090
              clear A1090
              by_cases c110 : t146 = true
              ·subst c110
               have H1 : ((impl_PolyAtPrime.f kj98 t123 (-1)).bind fun t147 => ((spec_CountRegions.f kj98 t123).bind fun t148 => (some (t147 == t148)))) = some true := by rw [if_pos rfl] at H; exact H
               clear H
               have H := H1
               clear H1
               replace H := Option.bind_eq_some_iff.mp H
               obtain ⟨t147, A1110, H⟩ := H
               replace H : ((spec_CountRegions.f kj98 t123).bind fun t148 => (some (t147 == t148))) = some true := H
               have A111 := Aside0.mk A1110
               clear A1110
               replace H := Option.bind_eq_some_iff.mp H
               obtain ⟨t148, A1120, H⟩ := H
               replace H : (some (t147 == t148)) = some true := H
               have A112 := Aside0.mk A1120
               clear A1120
               have hz_ : (t147 == t148) = true := Option.some.inj H
               clear H
               obtain ⟨Ao113, co113, eo113⟩ := Kd.R_slice HO_14.out
               subst eo113
               go_wp2_with (first | ((with_reducible refine gate_callee (f := 53) rfl ?_); refine goesL_ (some 145) rfl rfl Try.func53 (by kernel_rfl) rfl #[.slice Ao113 t123.length co113] rfl (by (try simp only [List.map_toArray, List.map_cons, List.map_nil]); first | done | rfl | (simp only [List.length_drop, List.length_take]; rfl)) ?_; (with_reducible refine (spec_AreLines.calls kj98 _ _ t123 true _ ?side1 ?side2 A109.out).mono ?_); (case side1 => repeat (first | exact (Kd.R_reads' HO_14.out).2.2 | (with_reducible refine Kd.C_alloc ?_ _) | (with_reducible refine Kd.C_drewN ?_ _) | (with_reducible refine Kd.C_drew ?_))); (case side2 => exact (Kd.R_reads' HO_14.out).2.1); rintro e w114 ⟨rfl, hb⟩; refine ⟨_, rfl, ?_⟩; have n0_ := Aside0.mk (Kd.R_below (by (with_reducible repeat (first | apply Kd.R_alloc | apply Kd.R_drewN | apply Kd.R_drew)); exact HO_14.out) hb); have n1_ := Aside0.mk (below_step (by repeat (first | (with_reducible first | exact HB.out | apply below_alloc | apply pw_below_drewN | apply below_drew1) | exact HB.out)) hb); clear HO_14; clear HB; have HO_14 := n0_; have HB := n1_; clear n0_ n1_; (try clear hb); (try clear hb2); (try clear hk); (try clear hi)) | (go_at_call 29; (with_reducible refine (impl_PolyAtPrime.calls kj98 _ _ t123 (-1) t147 _ ?side1 ?side2 A111.out).mono ?_); (case side1 => repeat (first | exact (Kd.R_reads' HO_14.out).2.2 | (with_reducible refine Kd.C_alloc ?_ _) | (with_reducible refine Kd.C_drewN ?_ _) | (with_reducible refine Kd.C_drew ?_))); (case side2 => exact (Kd.R_reads' HO_14.out).2.1); rintro e w115 ⟨rfl, hb⟩; have n0_ := Aside0.mk (Kd.R_below (by (with_reducible repeat (first | apply Kd.R_alloc | apply Kd.R_drewN | apply Kd.R_drew)); exact HO_14.out) hb); have n1_ := Aside0.mk (below_step (by repeat (first | (with_reducible first | exact HB.out | apply below_alloc | apply pw_below_drewN | apply below_drew1) | exact HB.out)) hb); clear HO_14; clear HB; have HO_14 := n0_; have HB := n1_; clear n0_ n1_; (try clear hb); (try clear hb2); (try clear hk); (try clear hi)) | (go_at_call 51; (with_reducible refine (spec_CountRegions.calls kj98 _ _ t123 t148 _ ?side1 ?side2 A112.out).mono ?_); (case side1 => repeat (first | exact (Kd.R_reads' HO_14.out).2.2 | (with_reducible refine Kd.C_alloc ?_ _) | (with_reducible refine Kd.C_drewN ?_ _) | (with_reducible refine Kd.C_drew ?_))); (case side2 => exact (Kd.R_reads' HO_14.out).2.1); rintro e w116 ⟨rfl, hb⟩; have n0_ := Aside0.mk (Kd.R_below (by (with_reducible repeat (first | apply Kd.R_alloc | apply Kd.R_drewN | apply Kd.R_drew)); exact HO_14.out) hb); have n1_ := Aside0.mk (below_step (by repeat (first | (with_reducible first | exact HB.out | apply below_alloc | apply pw_below_drewN | apply below_drew1) | exact HB.out)) hb); clear HO_14; clear HB; have HO_14 := n0_; have HB := n1_; clear n0_ n1_; (try clear hb); (try clear hb2); (try clear hk); (try clear hi)))
               go_ret
               exact ⟨by first | rfl | (simp [errW_none, errW_some] <;> rfl) | (simp [*, errW_none, errW_some] <;> rfl), by repeat (first | (with_reducible first | exact HB.out | apply below_alloc | apply pw_below_drewN | apply below_drew1) | exact HB.out)⟩
              ·replace c110 := Bool.eq_false_iff.mpr c110
               subst c110
               have H1 : (some true : Option Bool) = some true := rfl
               clear H
               have H := H1
               clear H1
               clear H
               obtain ⟨Ao117, co117, eo117⟩ := Kd.R_slice HO_14.out
               subst eo117
               go_wp2_with (first | ((with_reducible refine gate_callee (f := 53) rfl ?_); refine goesL_ (some 145) rfl rfl Try.func53 (by kernel_rfl) rfl #[.slice Ao117 t123.length co117] rfl (by (try simp only [List.map_toArray, List.map_cons, List.map_nil]); first | done | rfl | (simp only [List.length_drop, List.length_take]; rfl)) ?_; (with_reducible refine (spec_AreLines.calls kj98 _ _ t123 false _ ?side1 ?side2 A109.out).mono ?_); (case side1 => repeat (first | exact (Kd.R_reads' HO_14.out).2.2 | (with_reducible refine Kd.C_alloc ?_ _) | (with_reducible refine Kd.C_drewN ?_ _) | (with_reducible refine Kd.C_drew ?_))); (case side2 => exact (Kd.R_reads' HO_14.out).2.1); rintro e w118 ⟨rfl, hb⟩; refine ⟨_, rfl, ?_⟩; have n0_ := Aside0.mk (Kd.R_below (by (with_reducible repeat (first | apply Kd.R_alloc | apply Kd.R_drewN | apply Kd.R_drew)); exact HO_14.out) hb); have n1_ := Aside0.mk (below_step (by repeat (first | (with_reducible first | exact HB.out | apply below_alloc | apply pw_below_drewN | apply below_drew1) | exact HB.out)) hb); clear HO_14; clear HB; have HO_14 := n0_; have HB := n1_; clear n0_ n1_; (try clear hb); (try clear hb2); (try clear hk); (try clear hi)))
               go_ret
               exact ⟨by first | rfl | (simp [errW_none, errW_some] <;> rfl) | (simp [*, errW_none, errW_some] <;> rfl), by repeat (first | (with_reducible first | exact HB.out | apply below_alloc | apply pw_below_drewN | apply below_drew1) | exact HB.out)⟩
def laws_FnFields.Pure : Prop := ∀ (x0 : List Int), (x0.length ≤ maxLen ∧ ∀ y0 ∈ x0, (Lit.int .u8 y0).wf = true) → ∃ k, laws_FnFields.f k x0 = some true
end Go.Proofs.Ytldcckcljjlglaa.P

namespace Go.Proofs.Ytldcckcljjlglaa.Com
open Go.RowKit Go.Proofs.YtldcckcljjlglaaW.PrintWords
set_option linter.unusedSimpArgs false
set_option linter.unusedVariables false

theorem w64 {x : Int} (h0 : -9223372036854775808 ≤ x) (h1 : x ≤ 9223372036854775807) : wrap64 x = x := by unfold wrap64; omega
theorem drop_cons {α : Type} (l : List α) (n : Nat) (d : α) (h : n < l.length) : l.drop n = l.getD n d :: l.drop (n + 1) := by
  rw [List.drop_eq_getElem_cons h]; simp [List.getD, List.getElem?_eq_getElem h]
theorem getD_mem {α : Type} (l : List α) (n : Nat) (d : α) (h : n < l.length) : l.getD n d ∈ l := by
  simp [List.getD, List.getElem?_eq_getElem h]
theorem getD_map {α β : Type} (f : α → β) (l : List α) (n : Nat) (d : α) (e : β) (h : n < l.length) : (l.map f).getD n e = f (l.getD n d) := by
  simp [List.getD, h]
theorem Ev.iteT {α : Type} {c : Prop} [Decidable c] {g f : Nat → Option α} {r : α} (hc : c) (h : Ev g r) : Ev (fun k => if c then g k else f k) r := by simpa only [if_pos hc] using h
theorem Ev.iteF {α : Type} {c : Prop} [Decidable c] {g f : Nat → Option α} {r : α} (hc : ¬ c) (h : Ev f r) : Ev (fun k => if c then g k else f k) r := by simpa only [if_neg hc] using h
/-- Rounds enough, told by a bound. -/
theorem Ev.from {α : Type} {g : Nat → Option α} {r : α} (K : Nat) (h : ∀ k, K ≤ k → g k = some r) : Ev g r := ⟨K, h⟩
end Go.Proofs.Ytldcckcljjlglaa.Com

namespace Go.Proofs.Ytldcckcljjlglaa.Pure
open Go.RowKit Go.Proofs.Ytldcckcljjlglaa.P Go.Proofs.YtldcckcljjlglaaW.PrintWords Go.Proofs.YtldcckcljjlglaaW.PrintLast Go.Proofs.Ytldcckcljjlglaa.Com
set_option linter.unusedSimpArgs false
set_option linter.unusedVariables false

theorem and255 (x : Int) : 0 ≤ Go.bits .and .i64 x 255 ∧ Go.bits .and .i64 x 255 ≤ 255 := by
  have h : (BitVec.ofInt 64 x &&& BitVec.ofInt 64 255).toNat ≤ 255 := by
    rw [BitVec.toNat_and]
    exact Nat.le_trans Nat.and_le_right (by decide)
  have e : Go.bits .and .i64 x 255 = IntKind.i64.wrap (((BitVec.ofInt 64 x &&& BitVec.ofInt 64 255).toNat : Nat) : Int) := rfl
  rw [e, i64_w]
  generalize (BitVec.ofInt 64 x &&& BitVec.ofInt 64 255).toNat = n at h ⊢
  rw [w64 (by omega) (by omega)]
  omega
theorem l1New_l0 (x : List Int) (hx : x.length ≤ 1099511627776) : ∀ (d : Nat) (i h : Int), 0 ≤ i → i ≤ x.length → i + d = x.length → ∃ h', Ev (fun k => spec_l1New.l0 k x h i) (x, 0, h') := by
  intro d
  induction d with
  | zero =>
    intro i h h0 h1 hd
    exact ⟨h, Ev.step (f := fun _ => some (x, 0, h)) (fun k => by simp only [spec_l1New.l0]; rw [if_neg (by omega)]) (Ev.now _)⟩
  | succ d ih =>
    intro i h h0 h1 hd
    by_cases c : i < 4000
    · obtain ⟨h', hE⟩ := ih (i + 1) (Go.bits .and .i64 (wrap64 ((wrap64 ((wrap64 (h * 131)) + (wrap64 (rd x i)))) + 7)) 1073741823) (by omega) (by omega) (by omega)
      exact ⟨h', Ev.step (fun k => by simp only [spec_l1New.l0]; rw [if_pos (by omega), if_pos c, if_pos h0, w64 (x := i + 1) (by omega) (by omega)]) hE⟩
    · exact ⟨h, Ev.step (f := fun _ => some (x, 0, h)) (fun k => by simp only [spec_l1New.l0]; rw [if_pos (by omega), if_neg c]) (Ev.now _)⟩
theorem l1New_ev (x : List Int) (hx : x.length ≤ 1099511627776) : ∃ h, Ev (fun k => spec_l1New.f k x) (x, 0, h) :=
  l1New_l0 x hx x.length 0 _ (by omega) (by omega) (by omega)
end Go.Proofs.Ytldcckcljjlglaa.Pure

namespace Go.Proofs.Ytldcckcljjlglaa.Pure
open Go.RowKit Go.Proofs.Ytldcckcljjlglaa.P Go.Proofs.YtldcckcljjlglaaW.PrintWords Go.Proofs.YtldcckcljjlglaaW.PrintLast Go.Proofs.Ytldcckcljjlglaa.Com
set_option linter.unusedSimpArgs false
set_option linter.unusedVariables false

/-- The cursor stands within. -/
def inC (x : List Int) (i : Int) : Prop := 0 ≤ i ∧ i ≤ x.length
theorem byte_at (x : List Int) (hx : x.length ≤ 1099511627776) (i h : Int) (hi : inC x i) : ∃ b j g, spec_l1Byte.f x i h = some (b, j, g) ∧ 0 ≤ b ∧ b ≤ 255 ∧ inC x j := by
  obtain ⟨h0, h1⟩ := hi
  unfold spec_l1Byte.f
  by_cases c : i < (x.length : Int)
  · rw [if_pos c, if_pos h0, w64 (x := i + 1) (by omega) (by omega)]
    exact ⟨_, _, _, rfl, (and255 _).1, (and255 _).2, by unfold inC; omega⟩
  · rw [if_neg c]
    exact ⟨_, _, _, rfl, (and255 _).1, (and255 _).2, h0, h1⟩
theorem below_at (x : List Int) (hx : x.length ≤ 1099511627776) (i h m : Int) (hi : inC x i) (hm : 0 < m) (hm2 : m ≤ 256) : ∃ v j g, spec_l1Below.f x i h m = some (v, j, g) ∧ 0 ≤ v ∧ v < m ∧ inC x j := by
  obtain ⟨b, j, g, hb, h0, h1, hj⟩ := byte_at x hx i h hi
  unfold spec_l1Below.f
  rw [if_neg (by omega), if_pos hm2, hb]
  simp only [Option.bind_some]
  rw [if_neg (by omega)]
  exact ⟨_, _, _, rfl, Int.tmod_nonneg _ h0, Int.tmod_lt_of_pos _ hm, hj⟩
theorem once_at (x : List Int) (hx : x.length ≤ 1099511627776) (i h m : Int) (hi : inC x i) (hm : 0 < m) (hm2 : m ≤ 256) : ∃ b j g, spec_l1Once.f x i h m = some (b, j, g) ∧ inC x j := by
  obtain ⟨v, j, g, hv, _, _, hj⟩ := below_at x hx i h m hi hm hm2
  unfold spec_l1Once.f
  rw [hv]
  exact ⟨_, _, _, rfl, hj⟩
theorem pick_at (x : List Int) (hx : x.length ≤ 1099511627776) (i h : Int) (hi : inC x i) (L : List Int) (h0 : 0 < L.length) (h1 : L.length ≤ 256) : ∃ v j g, spec_l1PickInt.f x i h L = some (v, j, g) ∧ v ∈ L ∧ inC x j := by
  obtain ⟨v, j, g, hv, b0, b1, hj⟩ := below_at x hx i h (L.length : Int) hi (by omega) (by omega)
  unfold spec_l1PickInt.f
  rw [hv]
  simp only [Option.bind_some]
  rw [if_pos b0, if_pos b1]
  refine ⟨_, _, _, rfl, ?_, hj⟩
  unfold rd
  rw [List.getD_eq_getElem?_getD, List.getElem?_eq_getElem (by omega), Option.getD_some]
  exact List.getElem_mem _
theorem new_at (x : List Int) (hx : x.length ≤ 1099511627776) : ∃ h, Ev (fun k => spec_l1New.f k x) (x, 0, h) ∧ inC x 0 := by
  obtain ⟨h, hE⟩ := l1New_ev x hx
  exact ⟨h, hE, by unfold inC; omega⟩
end Go.Proofs.Ytldcckcljjlglaa.Pure

namespace Go.Proofs.Ytldcckcljjlglaa.Pure
open Go.RowKit Go.Proofs.Ytldcckcljjlglaa.P Go.Proofs.YtldcckcljjlglaaW.PrintWords Go.Proofs.YtldcckcljjlglaaW.PrintLast Go.Proofs.Ytldcckcljjlglaa.Com
set_option linter.unusedSimpArgs false
set_option linter.unusedVariables false

theorem tmod_bd (a b : Int) (hb : b ≠ 0) : (Int.tmod a b).natAbs < b.natAbs := by
  rw [Int.natAbs_tmod]; exact Nat.mod_lt _ (by omega)
theorem gcd_step (a b : Int) : Int.gcd b (Int.tmod a b) = Int.gcd a b := by
  unfold Int.gcd
  rw [Int.natAbs_tmod, Nat.gcd_comm b.natAbs, ← Nat.gcd_rec, Nat.gcd_comm]
theorem mx_abs (r : Int) (h : r.natAbs ≤ 4611686018427387904) : mx r (wrap64 (-r)) = (r.natAbs : Int) := by
  rw [w64 (by omega) (by omega)]; unfold mx; omega
theorem gcdLoop (n : Nat) : ∀ (a b : Int), b.natAbs ≤ n → a.natAbs ≤ 4611686018427387904 → b.natAbs ≤ 4611686018427387904 →
    Ev (fun k => spec_l24Gcd.l0 k a b) (Int.gcd a b : Int) := by
  induction n with
  | zero =>
    intro a b hb ha _
    obtain rfl : b = 0 := by omega
    refine Ev.step (f := fun _ => some (Int.gcd a 0 : Int)) (fun k => ?_) (Ev.now _)
    simp only [spec_l24Gcd.l0, if_true, spec_l1Max.f]
    rw [w64 (by omega) (by omega)]
    have hg : Int.gcd a 0 = a.natAbs := by simp
    rw [hg]
    by_cases h : a > -a
    · rw [if_pos h]; simp only [Option.bind_some]; congr 1; omega
    · rw [if_neg h]; simp only [Option.bind_some]; congr 1; omega
  | succ n ih =>
    intro a b hb ha hb2
    by_cases h0 : b = 0
    · subst h0; exact ih a 0 (by omega) ha (by omega)
    have hlt := tmod_bd a b h0
    have := ih b (Int.tmod a b) (by omega) hb2 (by omega)
    rw [gcd_step] at this
    refine Ev.step (f := fun k => spec_l24Gcd.l0 k b (Int.tmod a b)) (fun k => ?_) this
    simp only [spec_l24Gcd.l0]
    rw [if_neg h0]
theorem l24Gcd_ev (a b : Int) (ha : a.natAbs ≤ 4611686018427387904) (hb : b.natAbs ≤ 4611686018427387904) : Ev (fun k => spec_l24Gcd.f k a b) (Int.gcd a b : Int) := gcdLoop _ a b (Nat.le_refl _) ha hb
end Go.Proofs.Ytldcckcljjlglaa.Pure

namespace Go.Proofs.Ytldcckcljjlglaa.Pure
open Go.RowKit Go.Proofs.Ytldcckcljjlglaa.P Go.Proofs.YtldcckcljjlglaaW.PrintWords Go.Proofs.YtldcckcljjlglaaW.PrintLast Go.Proofs.Ytldcckcljjlglaa.Com
set_option linter.unusedSimpArgs false
set_option linter.unusedVariables false

/-- The divisor of a list's rest, from what is divided out so far. -/
def gcdL : Nat → List Int → Nat
  | g, [] => g
  | g, x :: l => gcdL (Nat.gcd g x.natAbs) l
theorem div_inner (n : Nat) : ∀ (o x : Int) (l : List Int) (m i : Int), x.natAbs ≤ n → o.natAbs ≤ 4611686018427387904 → x.natAbs ≤ 4611686018427387904 → ∀ r : Int,
    (∀ o' : Int, o'.natAbs = Int.gcd o x → o'.natAbs ≤ 4611686018427387904 → Ev (fun k => impl_divisor.l0 k o' l m (wrap64 (i + 1))) r) → Ev (fun k => impl_divisor.l1 k o x l m i) r := by
  induction n with
  | zero =>
    intro o x l m i hx ho _ r h
    obtain rfl : x = 0 := by omega
    refine Ev.step (f := fun k => impl_divisor.l0 k o l m (wrap64 (i + 1))) (fun k => by simp only [impl_divisor.l1, if_true]) (h o (by simp) ho)
  | succ n ih =>
    intro o x l m i hx ho hx2 r h
    by_cases h0 : x = 0
    · subst h0; exact ih o 0 l m i (by omega) ho (by omega) r h
    have hlt := tmod_bd o x h0
    refine Ev.step (f := fun k => impl_divisor.l1 k x (Int.tmod o x) l m i) (fun k => by simp only [impl_divisor.l1]; rw [if_neg h0]) ?_
    exact ih x (Int.tmod o x) l m i (by omega) hx2 (by omega) r (fun o' e b => h o' (by rw [e, gcd_step]) b)
theorem gcd_le_max (o x : Int) (ho : o.natAbs ≤ 4611686018427387904) (hx : x.natAbs ≤ 4611686018427387904) : Int.gcd o x ≤ 4611686018427387904 := by
  unfold Int.gcd
  by_cases h : x.natAbs = 0
  · rw [h, Nat.gcd_zero_right]; exact ho
  · exact Nat.le_trans (Nat.le_of_dvd (by omega) (Nat.gcd_dvd_right _ _)) hx
theorem div_outer (l : List Int) (hl : l.length ≤ 1099511627776) (hb : ∀ x ∈ l, x.natAbs ≤ 4611686018427387904) (d : Nat) : ∀ (o i : Int), 0 ≤ i → i + d = l.length → o.natAbs ≤ 4611686018427387904 →
    Ev (fun k => impl_divisor.l0 k o l (l.length : Int) i) (gcdL o.natAbs (l.drop i.toNat) : Int) := by
  induction d with
  | zero =>
    intro o i h0 hi ho
    refine Ev.step (f := fun _ => some (gcdL o.natAbs (l.drop i.toNat) : Int)) (fun k => ?_) (Ev.now _)
    simp only [impl_divisor.l0]
    rw [if_neg (by omega), List.drop_of_length_le (by omega), mx_abs o ho]; rfl
  | succ d ih =>
    intro o i h0 hi ho
    have hlt : i.toNat < l.length := by omega
    have hm : rd l i ∈ l := getD_mem l i.toNat 0 hlt
    refine Ev.step (f := fun k => impl_divisor.l1 k o (rd l i) l (l.length : Int) i) (fun k => by simp only [impl_divisor.l0]; rw [if_pos (by omega), if_pos h0, if_pos (by omega)]) ?_
    refine div_inner _ o (rd l i) l _ i (Nat.le_refl _) ho (hb _ hm) _ (fun o' e b => ?_)
    have := ih o' (i + 1) (by omega) (by omega) b
    rw [w64 (by omega) (by omega), drop_cons l i.toNat 0 hlt]
    rw [show (i + 1).toNat = i.toNat + 1 from by omega] at this
    have e2 : gcdL o.natAbs (l.getD i.toNat 0 :: l.drop (i.toNat + 1)) = gcdL o'.natAbs (l.drop (i.toNat + 1)) := by
      simp only [gcdL]; rw [e]; rfl
    rw [e2]; exact this
theorem divisor_ev (l : List Int) (hl : l.length ≤ 1099511627776) (hb : ∀ x ∈ l, x.natAbs ≤ 4611686018427387904) : Ev (fun k => impl_divisor.f k l) (gcdL 0 l : Int) := by
  have := div_outer l hl hb l.length 0 0 (by omega) (by omega) (by simp)
  simpa [impl_divisor.f] using this
theorem divisor3 (x y z : Int) (hx : x.natAbs ≤ 4611686018427387904) (hy : y.natAbs ≤ 4611686018427387904) (hz : z.natAbs ≤ 4611686018427387904) : Ev (fun k => impl_divisor.f k [x, y, z]) (Int.gcd (Int.gcd x y) z : Int) := by
  have := divisor_ev [x, y, z] (by simp) (by simp [hx, hy, hz])
  simpa [gcdL, Int.gcd] using this
end Go.Proofs.Ytldcckcljjlglaa.Pure

namespace Go.Proofs.Ytldcckcljjlglaa.Pure
open Go.RowKit Go.Proofs.YtldcckcljjlglaaW.PrintWords Go.Proofs.YtldcckcljjlglaaW.PrintLast Go.Proofs.Ytldcckcljjlglaa.Com
set_option linter.unusedSimpArgs false
set_option linter.unusedVariables false

theorem ww_add_l (x y : Int) : wrap64 (wrap64 x + y) = wrap64 (x + y) := by unfold wrap64; omega
theorem ww_add_r (x y : Int) : wrap64 (x + wrap64 y) = wrap64 (x + y) := by unfold wrap64; omega
theorem ww_sub_r (x y : Int) : wrap64 (x - wrap64 y) = wrap64 (x - y) := by unfold wrap64; omega
theorem ww (x : Int) : wrap64 (wrap64 x) = wrap64 x := by unfold wrap64; omega
theorem wrap_is (x : Int) : ∃ q : Int, wrap64 x = x + q * 18446744073709551616 := ⟨-((x + 9223372036854775808) / 18446744073709551616), by unfold wrap64; omega⟩
theorem wrap_shift (x q : Int) : wrap64 (x + q * 18446744073709551616) = wrap64 x := by unfold wrap64; omega
theorem ww_mul_l (x y : Int) : wrap64 (wrap64 x * y) = wrap64 (x * y) := by
  obtain ⟨q, h⟩ := wrap_is x
  rw [h, Int.add_mul, Int.mul_assoc q, Int.mul_comm 18446744073709551616 y, ← Int.mul_assoc q, wrap_shift]
theorem abs_mul_le {a b : Int} {A B : Nat} (ha : a.natAbs ≤ A) (hb : b.natAbs ≤ B) : (a * b).natAbs ≤ A * B := by
  rw [Int.natAbs_mul]; exact Nat.mul_le_mul ha hb
theorem wrap_abs (x : Int) (h : x.natAbs ≤ 4611686018427387904) : wrap64 x = x := by unfold wrap64; omega
end Go.Proofs.Ytldcckcljjlglaa.Pure

namespace Go.Proofs.Ytldcckcljjlglaa.Pure
open Go.RowKit Go.Proofs.Ytldcckcljjlglaa.P Go.Proofs.YtldcckcljjlglaaW.PrintWords Go.Proofs.YtldcckcljjlglaaW.PrintLast Go.Proofs.Ytldcckcljjlglaa.Com
set_option linter.unusedSimpArgs false
set_option linter.unusedVariables false

def sgn (x : Int) : Int := if 0 < x then 1 else if x < 0 then -1 else 0
theorem l2Sign_eq (x : Int) : spec_l2Sign.f x = some (sgn x) := by
  unfold spec_l2Sign.f spec_l1Bit.f sgn
  by_cases h1 : 0 < x
  · have h2 : ¬ x < 0 := by omega
    simp [h1, h2, wrap64]
  · by_cases h2 : x < 0
    · simp [h1, h2, wrap64]
    · simp [h1, h2, wrap64]
theorem signOf_eq (x : Int) : impl_signOf.f x = some (sgn x) := by
  unfold impl_signOf.f cmp_Compare_int.f cmp_isNaN_int.f sgn
  by_cases h1 : 0 < x
  · have h2 : ¬ x < 0 := by omega
    simp [h1, h2]
  · by_cases h2 : x < 0
    · simp [h1, h2]
    · simp [h1, h2]
end Go.Proofs.Ytldcckcljjlglaa.Pure

namespace Go.Proofs.Ytldcckcljjlglaa.Com
open Go.RowKit Go.Proofs.YtldcckcljjlglaaW.PrintWords
set_option linter.unusedSimpArgs false
set_option linter.unusedVariables false
variable {σ τ ρ υ : Type}
/-- A fold of rounds that hand on to what follows. -/
def foldT (T : σ → τ → (σ → ρ → Prop) → ρ → Prop) (C : σ → ρ → Prop) : List τ → σ → ρ → Prop
  | [], s, r => C s r
  | t :: L, s, r => T s t (foldT T C L) r
def MonoT (T : σ → τ → (σ → ρ → Prop) → ρ → Prop) : Prop := ∀ s t (C D : σ → ρ → Prop) r, (∀ s' r', C s' r' → D s' r') → T s t C r → T s t D r
theorem foldT_mono {T : σ → τ → (σ → ρ → Prop) → ρ → Prop} (hT : MonoT T) {C D : σ → ρ → Prop} (h : ∀ s r, C s r → D s r) (L : List τ) : ∀ s r, foldT T C L s r → foldT T D L s r := by
  induction L with
  | nil => exact h
  | cons t L ih => intro s r; exact hT s t _ _ r ih
/-- A round that goes on with a new state, or ends all with a result. -/
def stepT (step : σ → τ → σ ⊕ ρ) : σ → τ → (σ → ρ → Prop) → ρ → Prop := fun s t C r =>
  match step s t with
  | .inl s' => C s' r
  | .inr r' => r = r'
theorem stepT_mono (step : σ → τ → σ ⊕ ρ) : MonoT (stepT step) := by
  intro s t C D r h hT
  unfold stepT at *
  revert hT
  cases step s t with
  | inl s' => exact fun hT => h _ _ hT
  | inr r' => exact fun hT => hT
/-- A round that is a loop itself. -/
def nestT (T : τ → σ → υ → (σ → ρ → Prop) → ρ → Prop) (L : τ → List υ) : σ → τ → (σ → ρ → Prop) → ρ → Prop := fun s t C r => foldT (T t) C (L t) s r
theorem nestT_mono {T : τ → σ → υ → (σ → ρ → Prop) → ρ → Prop} (hT : ∀ t, MonoT (T t)) (L : τ → List υ) : MonoT (nestT T L) := fun s t C D r h hh => foldT_mono (hT t) h (L t) s r hh
theorem foldT_append (T : σ → τ → (σ → ρ → Prop) → ρ → Prop) (C : σ → ρ → Prop) (A B : List τ) : ∀ s r, foldT T C (A ++ B) s r ↔ foldT T (foldT T C B) A s r := by
  induction A with
  | nil => intro s r; rfl
  | cons t A ih =>
    intro s r
    have e : foldT T C (A ++ B) = foldT T (foldT T C B) A := by funext s r; exact propext (ih s r)
    show T s t (foldT T C (A ++ B)) r ↔ T s t (foldT T (foldT T C B) A) r
    rw [e]
theorem nest_flat (step : σ → υ → σ ⊕ ρ) (L : τ → List υ) (C : σ → ρ → Prop) (J : List τ) : foldT (nestT (fun _ => stepT step) L) C J = foldT (stepT step) C (J.flatMap L) := by
  induction J with
  | nil => rfl
  | cons t J ih =>
    funext s r
    rw [List.flatMap_cons]
    apply propext
    rw [foldT_append]
    show foldT (stepT step) (foldT (nestT (fun _ => stepT step) L) C J) (L t) s r ↔ _
    rw [ih]
def foldX (step : σ → τ → σ ⊕ ρ) (fin : σ → ρ) : List τ → σ → ρ
  | [], s => fin s
  | t :: L, s => match step s t with
    | .inl s' => foldX step fin L s'
    | .inr r => r
theorem foldX_T (step : σ → τ → σ ⊕ ρ) (fin : σ → ρ) {C : σ → ρ → Prop} (hC : ∀ s, C s (fin s)) (L : List τ) : ∀ s, foldT (stepT step) C L s (foldX step fin L s) := by
  induction L with
  | nil => exact hC
  | cons t L ih =>
    intro s
    show stepT step s t _ _
    unfold stepT foldX
    cases h : step s t with
    | inl s' => exact ih s'
    | inr r => rfl
/-- The whole numbers from a on, d of them. -/
def ints (a : Int) : Nat → List Int
  | 0 => []
  | d + 1 => a :: ints (a + 1) d
/-- A loop that counts from a up to n. -/
theorem rangeLoop {l : Nat → σ → Int → Option ρ} (n : Int) {T : σ → Int → (σ → ρ → Prop) → ρ → Prop} (hT : MonoT T) {C : σ → ρ → Prop} (a0 : Int)
    (hs : ∀ s i, a0 ≤ i → i < n → ∀ r, T s i (fun s' r' => Ev (fun k => l k s' (i + 1)) r') r → Ev (fun k => l k s i) r)
    (he : ∀ s r, C s r → Ev (fun k => l k s n) r) (d : Nat) : ∀ (a : Int), a0 ≤ a → a + d = n → ∀ s r, foldT T C (ints a d) s r → Ev (fun k => l k s a) r := by
  induction d with
  | zero =>
    intro a h0 ha s r h
    obtain rfl : a = n := by omega
    exact he s r h
  | succ d ih =>
    intro a h0 ha s r h
    exact hs s a h0 (by omega) r (hT s a _ _ r (fun s' r' h' => ih (a + 1) (by omega) (by omega) s' r' h') h)
/-- A loop over a list, by its index. -/
theorem listLoop {l : Nat → σ → Int → Option ρ} (L : List τ) (z : τ) {T : σ → τ → (σ → ρ → Prop) → ρ → Prop} (hT : MonoT T) {C : σ → ρ → Prop}
    (hs : ∀ s (i : Int), 0 ≤ i → i < L.length → ∀ r, T s (L.getD i.toNat z) (fun s' r' => Ev (fun k => l k s' (i + 1)) r') r → Ev (fun k => l k s i) r)
    (he : ∀ s r, C s r → Ev (fun k => l k s (L.length : Int)) r) (d : Nat) : ∀ (a : Int), 0 ≤ a → a + d = L.length → ∀ s r, foldT T C (L.drop a.toNat) s r → Ev (fun k => l k s a) r := by
  induction d with
  | zero =>
    intro a h0 ha s r h
    obtain rfl : a = L.length := by omega
    rw [List.drop_of_length_le (by omega)] at h
    exact he s r h
  | succ d ih =>
    intro a h0 ha s r h
    rw [drop_cons L a.toNat z (by omega)] at h
    refine hs s a h0 (by omega) r (hT s _ _ _ r (fun s' r' h' => ih (a + 1) (by omega) (by omega) s' r' ?_) h)
    rw [show (a + 1).toNat = a.toNat + 1 from by omega]
    exact h'
theorem listLoop0 {l : Nat → σ → Int → Option ρ} (L : List τ) (z : τ) {T : σ → τ → (σ → ρ → Prop) → ρ → Prop} (hT : MonoT T) {C : σ → ρ → Prop}
    (hs : ∀ s (i : Int), 0 ≤ i → i < L.length → ∀ r, T s (L.getD i.toNat z) (fun s' r' => Ev (fun k => l k s' (i + 1)) r') r → Ev (fun k => l k s i) r)
    (he : ∀ s r, C s r → Ev (fun k => l k s (L.length : Int)) r) (s : σ) (r : ρ) (h : foldT T C L s r) : Ev (fun k => l k s 0) r :=
  listLoop L z hT hs he L.length 0 (by omega) (by omega) s r (by simpa using h)
theorem foldT_map (step : σ → τ → σ ⊕ ρ) (f : υ → τ) (C : σ → ρ → Prop) (L : List υ) : foldT (stepT step) C (L.map f) = foldT (stepT fun s u => step s (f u)) C L := by
  induction L with
  | nil => rfl
  | cons t L ih => funext s r; show stepT step s (f t) (foldT (stepT step) C (L.map f)) r = stepT (fun s u => step s (f u)) s t _ r; rw [ih]; rfl
/-- A round that only looks. -/
def allT (p : τ → Bool) : Unit → τ → (Unit → Bool → Prop) → Bool → Prop := fun _ t C r => if p t = true then C () r else r = false
theorem allT_mono (p : τ → Bool) : MonoT (allT p) := by
  intro s t C D r h hT
  unfold allT at *
  cases hp : p t with
  | true => rw [hp] at hT; exact h () r (by simpa using hT)
  | false => rw [hp] at hT; simpa using hT
theorem allT_fold (p : τ → Bool) (C : Unit → Bool → Prop) (L : List τ) : ∀ r, foldT (allT p) C L () r ↔ (if L.all p = true then C () r else r = false) := by
  induction L with
  | nil => intro r; simp [foldT]
  | cons t L ih =>
    intro r
    show (if p t = true then foldT (allT p) C L () r else r = false) ↔ _
    cases hp : p t with
    | true => rw [if_pos rfl, ih]; simp [hp]
    | false => simp [hp]
theorem ints_mem_iff {a x : Int} {d : Nat} : x ∈ ints a d ↔ a ≤ x ∧ x < a + d := by
  induction d generalizing a with
  | zero => simp only [ints, List.not_mem_nil, false_iff]; omega
  | succ d ih => simp only [ints, List.mem_cons, ih]; omega
/-- Two loops in each other, each over all numbers below a bound. -/
theorem gridLoop {l0 : Nat → σ → Int → Option ρ} {l1 : Nat → σ → Int → Int → Option ρ} (n m : Nat) (step : σ → (Int × Int) → σ ⊕ ρ) (fin : σ → ρ)
    (h1 : ∀ s i j, 0 ≤ i → i < (n : Int) → 0 ≤ j → j < (m : Int) → ∀ r, stepT step s (i, j) (fun s' r' => Ev (fun q => l1 q s' i (j + 1)) r') r → Ev (fun q => l1 q s i j) r)
    (h1e : ∀ s i, 0 ≤ i → i < (n : Int) → ∀ r, Ev (fun q => l0 q s (i + 1)) r → Ev (fun q => l1 q s i m) r)
    (h0 : ∀ s i, 0 ≤ i → i < (n : Int) → ∀ r, Ev (fun q => l1 q s i 0) r → Ev (fun q => l0 q s i) r)
    (h0e : ∀ s, Ev (fun q => l0 q s n) (fin s)) (s : σ) : Ev (fun q => l0 q s 0) (foldX step fin ((ints 0 n).flatMap fun i => (ints 0 m).map fun j => (i, j)) s) := by
  have hT := foldX_T step fin (C := fun s r => r = fin s) (fun _ => rfl) ((ints 0 n).flatMap fun i => (ints 0 m).map fun j => (i, j)) s
  rw [← nest_flat] at hT
  refine rangeLoop (l := l0) (n : Int) (nestT_mono (fun _ => stepT_mono step) _) (C := fun s r => r = fin s) 0 ?_ (fun s r h => by subst h; exact h0e s) n 0 (by omega) (by omega) s _ hT
  intro s i hi0 hin r hT
  refine h0 s i hi0 hin r ?_
  unfold nestT at hT
  rw [foldT_map] at hT
  refine rangeLoop (l := fun q s j => l1 q s i j) (m : Int) (stepT_mono _) 0 ?_ (fun s r h => h1e s i hi0 hin r h) m 0 (by omega) (by omega) s r hT
  intro s j hj0 hjn r hT
  exact h1 s i j hi0 hin hj0 hjn r hT
theorem stepT_inl {step : σ → τ → σ ⊕ ρ} {s : σ} {t : τ} {C : σ → ρ → Prop} {r : ρ} {s' : σ} (h : stepT step s t C r) (e : step s t = .inl s') : C s' r := by unfold stepT at h; rw [e] at h; exact h
theorem foldT_foldl (g : σ → τ → σ) (C : σ → ρ → Prop) (L : List τ) : ∀ s r, foldT (stepT fun s t => .inl (g s t)) C L s r ↔ C (L.foldl g s) r := by
  induction L with
  | nil => intro s r; exact Iff.rfl
  | cons t L ih => intro s r; exact ih (g s t) r
theorem foldX_foldl (g : σ → τ → σ) (fin : σ → ρ) (L : List τ) : ∀ s, foldX (fun s t => .inl (g s t)) fin L s = fin (L.foldl g s) := by
  induction L with
  | nil => intro s; rfl
  | cons t L ih => intro s; exact ih (g s t)
theorem ints_len (a : Int) (d : Nat) : (ints a d).length = d := by
  induction d generalizing a with
  | zero => rfl
  | succ d ih => simp [ints, ih]
end Go.Proofs.Ytldcckcljjlglaa.Com

namespace Go.Proofs.Ytldcckcljjlglaa.Pure
open Go.RowKit Go.Proofs.Ytldcckcljjlglaa.P Go.Proofs.YtldcckcljjlglaaW.PrintWords Go.Proofs.YtldcckcljjlglaaW.PrintLast Go.Proofs.Ytldcckcljjlglaa.Com
set_option linter.unusedSimpArgs false
set_option linter.unusedVariables false

def inB (n m : Int) : Bool := decide (-m ≤ n ∧ n ≤ m)
theorem inB_iff {n m : Int} : inB n m = true ↔ -m ≤ n ∧ n ≤ m := by simp [inB]
theorem l1In_eq (a lo hi : Int) : spec_l1In.f a lo hi = some (decide (lo ≤ a ∧ a ≤ hi)) := by
  unfold spec_l1In.f
  by_cases h : a ≥ lo
  · rw [if_pos h]; congr 1; simp only [decide_eq_decide]; omega
  · rw [if_neg h]; congr 1; symm; simp only [decide_eq_false_iff_not]; omega
end Go.Proofs.Ytldcckcljjlglaa.Pure

