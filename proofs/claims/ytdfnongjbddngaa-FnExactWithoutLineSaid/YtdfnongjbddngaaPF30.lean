-- Written by a program of this session (wip/tools/pmore.py) for this claim; Lean checks it.
import Derived.Test.YtdfnongjbddngaaP0
namespace Go.Proofs.Ytdfnongjbddngaa.P
open Go.RowKit Go.Proofs.YtdfnongjbddngaaW.PrintWords Go.Proofs.YtdfnongjbddngaaW.PrintLast Go.Proofs.YtdfnongjbddngaaW.PrintMore
attribute [local go_sem] max2_int min2_int max_two min_two max_three min_three max_four min_four   -- for this text's walks alone
set_option linter.unusedVariables false
set_option linter.unusedSimpArgs false

/-! ### impl_Line_30: function 30 -/
def impl_Line_30.f (l0 : List S48) (a1 a2 : Int) : Option (List S48) := if 0 ≤ a1 ∧ a2 = a1 + 1 ∧ a2 ≤ l0.length then some (l0.eraseIdx a1.toNat) else none
/-- A store behind the row's elements. -/
theorem pw_R_tail {α : Type} {d : Kd α} {e base g n c j : Nat} {w : World} {ok : Nat → Prop} {xs : List α} (h : d.R e w base ok (.slice (some ⟨g, 0, none⟩) n c) xs) (hj : n * d.sz ≤ j) (u : Value) : d.R e (w.setCell ⟨g, j, none⟩ u) base ok (.slice (some ⟨g, 0, none⟩) n c) xs := by
  obtain ⟨hn, _, _⟩ := Kd.R_reads' h
  subst hn
  obtain ⟨hok, inner, ho, hr⟩ := h
  refine ⟨hok, inner, ?_, hr.imp_ (fun x cs hp => Kd.M_far (p := ⟨g, j, none⟩) hp (fun k hk he => hk.2 (by rw [he]; rfl)) u)⟩
  rcases ho with ⟨h1, ⟨hv, _⟩ | ⟨g', cap, cur, hv, hb, hh, h2, h3, h4, h5⟩⟩
  · cases hv
  · obtain ⟨rfl, rfl⟩ : g = g' ∧ c = cap := by
      injection hv with ha _ hc
      injection ha with ha
      injection ha with ha
      exact ⟨ha, hc⟩
    refine ⟨h1, .inr ⟨g, c, _, rfl, hb, blk_set hh j u, h2, h3, by rw [Array.size_setIfInBounds]; exact h4, ?_⟩⟩
    rw [Array.toList_setIfInBounds, List.take_set_of_le hj]
    exact h5
/-- clear of one element. -/
theorem pw_run_clear_one {P : Program} (w : World) (t e ty : TypeId) (z : Value) (cs : List Value) (ht : P.underlying t = some (.slice e)) (hv : ∀ w, (zeroValue e).run P w = .ok z w) (hz : z.cells.toList = cs) (h1 : ∀ v ∈ cs, v.oneCell' = true) (b o c : Nat)
    (hc : ∀ j, j < cs.length → (w.cell? ⟨b, o + j, none⟩).isSome = true) (hf : ∀ j, j < cs.length → w.frozen? ⟨b, o + j, none⟩ = false) :
    (Builtin.clear_ #[t] ty #[.slice (some ⟨b, o, none⟩) 1 c]).run P w = .ok (.tuple #[]) (w.setCells b o cs) := by
  have hzc : (Builtin.zeroCells z.cells 1).toList = cs := by
    rw [← hz]
    apply List.ext_getElem
    · simp [Builtin.zeroCells]
    · intro i h1 h2
      simp at h2
      simp [Builtin.zeroCells, Nat.mod_eq_of_lt h2, getElem!_pos, h2]
  have hst := run_storeCells_cells (P := P) b o cs 0 w (by simpa using hc) (by simpa using hf) h1
  simp only [Nat.add_zero] at hst
  simp [Builtin.clear_, run_underlying ht, hv, hzc, hst]
def impl_Line_30.T5 : Bool × List (List Nat × List Nat) := (true, [([], []), ([], []), ([0, 1], [0, 1]), ([], []), ([], []), ([3, 4], [3, 4]), ([2, 5], [2, 5]), ([6, 6, 0, 1, 2, 3, 4, 5, 6], [0, 3, 6])])
theorem impl_Line_30.tab5 : rtab .any (opsOf Try.f30 5) = impl_Line_30.T5 := by kernel_rfl
set_option maxHeartbeats 4000000 in
set_option maxRecDepth 100000 in
theorem impl_Line_30.calls (P0_ : Nat → Prop) (u9000_ : Value) (l0 : List S48) (a1 a2 : Int) (r : List S48) (w0 w : World) (hB : Below w0.heap.size w0 w) (ho0 : Kd.R k48 48 w w0.heap.size P0_ u9000_ l0) (h : impl_Line_30.f l0 a1 a2 = some r) :
    Calls Try.prog 30 #[u9000_, .int .i64 a1, .int .i64 a2] w fun e w' => ∃ v0_ : Value, e = .returned (v0_) ∧ Kd.R k48 48 w' w0.heap.size (fun k_ => (P0_ k_ ∨ w.heap.size ≤ k_)) v0_ r ∧ Below w0.heap.size w0 w' ∧ Kept w w' (fun k_ => P0_ k_) := by
  unfold impl_Line_30.f at h
  by_cases hlim : 0 ≤ a1 ∧ a2 = a1 + 1 ∧ a2 ≤ l0.length
  case neg => rw [if_neg hlim] at h; cases h
  rw [if_pos hlim] at h
  obtain rfl := Option.some.inj h
  obtain ⟨h0, h1, h2⟩ := hlim
  obtain ⟨g, cap, hu, hgb, hgl, cells, hg⟩ := Kd.R_form ho0 (by omega)
  subst hu
  obtain ⟨_, hcap, _⟩ := Kd.R_reads' ho0
  have hgP : P0_ g := ho0.1 g rfl
  obtain ⟨n0, hn0⟩ : ∃ n : Nat, n = l0.length := ⟨_, rfl⟩
  rw [← hn0] at h2 hcap ho0 ⊢
  have hsz : ∃ i, Try.prog.info? 48 = some i ∧ i.size = 3 := by
    obtain ⟨i, hi, he⟩ := Option.map_eq_some_iff.1 info48
    simp only [Prod.mk.injEq] at he
    exact ⟨i, hi, he.2.1⟩
  obtain ⟨inf, hinf, hinfs⟩ := hsz
  have hel : Try.prog.elem 24 = 48 := by simp [Program.elem, Try.underlying24]
  have hu : Try.prog.underlying 24 = some (.slice (Try.prog.elem 24)) := by rw [hel]; exact Try.underlying24
  have hcut1 : ∀ W : World, (Instr.slice 24 (.slice (some ⟨g, 0, none⟩) n0 cap) (some (.int .i64 a1)) (some (.int .i64 a2)) (some (.int .i64 (n0 : Int)))).run Try.prog W = .ok (sliced (some ⟨g, 0, none⟩) a1.toNat a2.toNat n0 3) W := by
    intro W
    rw [run_slice_lhm W 24 _ n0 cap hu .i64 .i64 .i64 a1 a2 n0 h0 (by omega) (by omega) (by omega), hel]
    simp [sizeOf, typeInfo, hinf, hinfs, Result.andThen]
  have hcut2 := cut_to (P := Try.prog) 24 48 .i64 Try.underlying24 hinf (some ⟨g, 0, none⟩) n0 cap a1 h0 (by omega) hcap
  have hcut5 := cut_from (P := Try.prog) 24 48 .i64 Try.underlying24 hinf 3 hinfs (some ⟨g, 0, none⟩) n0 cap a2 (by omega) h2
  obtain ⟨A5, hA5⟩ : ∃ A, A = (if cap = a2.toNat then (some ⟨g, 0, none⟩ : Option Addr) else (some (⟨g, 0, none⟩ : Addr)).map (·.add (a2.toNat * 3))) := ⟨_, rfl⟩
  obtain ⟨m5, hm5⟩ : ∃ m, m = n0 - a2.toNat := ⟨_, rfl⟩
  obtain ⟨c5, hc5⟩ : ∃ c, c = cap - a2.toNat := ⟨_, rfl⟩
  obtain ⟨i0, hi0⟩ : ∃ i, i = a1.toNat := ⟨_, rfl⟩
  obtain ⟨n1, hn1⟩ : ∃ n, n = n0 - 1 := ⟨_, rfl⟩
  obtain ⟨cut1, hcc1⟩ : ∃ v, v = sliced (some ⟨g, 0, none⟩) a1.toNat a2.toNat n0 3 := ⟨_, rfl⟩
  rw [← hA5, ← hm5, ← hc5] at hcut5
  rw [← hi0] at hcut2
  rw [← hcc1] at hcut1
  have hcut6 : ∀ W : World, (Instr.slice 24 (.slice (some ⟨g, 0, none⟩) n1 cap) (some (.int .i64 (n1 : Int))) (some (.int .i64 (n0 : Int))) none).run Try.prog W = .ok (.slice (some ⟨g, n1 * 3, none⟩) 1 (cap - n1)) W := by
    intro W
    rw [run_slice_lh W 24 _ n1 cap hu .i64 .i64 n1 n0 (by omega) (by omega) (by omega), hel]
    have e1 : n0 - n1 = 1 := by omega
    have e2 : cap ≠ n1 := by omega
    simp [sizeOf, typeInfo, hinf, hinfs, Result.andThen, sliced, e1, e2, add_plain]

  have HI := Aside0.mk (show a1.toNat = i0 ∧ a2.toNat = i0 + 1 ∧ i0 < n0 ∧ n1 = n0 - 1 ∧ n0 ≤ cap from ⟨hi0.symm, by omega, by omega, hn1, hcap⟩)
  have HA5 := Aside0.mk hA5
  have HM5 := Aside0.mk hm5
  have HO := Aside0.mk ho0
  have HB := Aside0.mk hB
  have HGP := Aside0.mk hgP
  have HGB := Aside0.mk hgb
  have HN0 := Aside0.mk hn0
  have HK := Aside0.mk (Kept.refl w P0_)
  have q1 : (a1 == a2) = false := beq_eq_false_iff_ne.2 (by omega)
  clear hA5 hm5 hc5 hi0 hn1 hcc1 h h0 h1 h2 hcap ho0 hB hgP hgb hgl hg hn0 hel hu hinf hinfs
  go_enter Try.func30, Try.ntmps30
  go_wp2_with fail
  refine start_ (n := 8) (S := fun _ => True) (ds := []) (bm 8 0) (by kernel_rfl) rfl rfl trivial (fun hHeld => ?_); refine with_tab impl_Line_30.tab5 (fun HT_ => ?_)
  have HO := Aside0.mk (Kd.R_drew HO.out)
  have HB := Aside0.mk (below_drew1 HB.out)
  have HK := Aside0.mk (Kept.drew HK.out)
  generalize w.drew = w26 at HO HB HK ⊢
  refine plan_ ((0, 0, 20, 1) :: (0, 1, 21, 3) :: (0, 2, 22, 7) :: (0, 3, 23, 15) :: (0, 4, 24, 31) :: (0, 5, 25, 63) :: []) ?_
  iterate 6 (refine planV_ ?_ ?_ rfl rfl (any_of HT_.out (by kernel_rfl)) (fun _ _ _ h => h) (Or.inl ⟨by rfl, ?_⟩) ?_ ?_; rotate_left 2; (· intro w'; go_simp; with_reducible rfl); (· simp only [Act.put, List.setIfInBounds_toArray, List.set_cons_zero, List.set_cons_succ, i64_w, i32_w]; rfl))
  refine planEnd_ ?_
  refine one_ (i := 6) (N := some 26) (bm 8 127) rfl rfl (one_of HT_.out (by kernel_rfl)) (by decide) (fun K hK => ?_)
  refine Kd.R_delete_step k48 (w0 := w0) w0.heap.size (by rfl) (.tmp 22) (.tmp 25) 24 48 rfl Try.underlying24 (by kernel_rfl) (g := g) (n := n0) (c := cap) (k := i0) (m := m5) (c2 := c5) (A := A5) (xs := l0) (ok := P0_) rfl rfl ?hA ?hm HO.out HI.out.2.2.1 HB.out (below_size HB.out) ?_
  case hA => rw [HA5.out, HI.out.2.1]; rfl
  case hm => rw [HM5.out, HI.out.2.1]
  intro w1 hR hB1 hG
  rw [show n0 - 1 = n1 from HI.out.2.2.2.1.symm] at hR ⊢
  have HO1 := Aside0.mk hR
  have HB1 := Aside0.mk hB1
  have HK1 := Aside0.mk (Kept.of_grown hG HK.out (fun k_ e_ => .inl (by injection e_ with e_; rw [← e_]; exact HGP.out)))
  have HCL : (Builtin.clear_ #[24] 0 #[.slice (some ⟨g, n1 * 3, none⟩) 1 (cap - n1)]).run Try.prog w1 = .ok (.tuple #[]) (w1.setCells g (n1 * 3) [.int .i64 0, .int .i64 0, .int .i64 0]) := by
    obtain ⟨inner, ho, _⟩ := hR.2
    rcases ho.2 with ⟨hv, _⟩ | ⟨g', cap', cur, hv, _, hh, _, _, hcs, _⟩
    · cases hv
    · obtain ⟨rfl, rfl⟩ : g = g' ∧ cap = cap' := by
        injection hv with ha _ hc
        injection ha with ha
        injection ha with ha
        exact ⟨ha, hc⟩
      have hI := HI.out
      refine pw_run_clear_one w1 24 48 0 (.agg #[.int .i64 0, .int .i64 0, .int .i64 0]) [.int .i64 0, .int .i64 0, .int .i64 0] Try.underlying24 Try.zeroValue48 rfl (by intro v hv; simp at hv; subst hv; rfl) g (n1 * 3) (cap - n1) (fun j hj => ?_) (fun j hj => blk_frozen hh _)
      rw [blk_cell hh]
      have hj3 : j < 3 := hj
      have hcs3 : cur.size = cap * 3 := hcs
      rw [Array.getElem?_eq_getElem (by omega)]
      rfl
  refine hK.out _ _ trivial (fun hHeld => ?_)
  clear hK K hR hB1 hG HO HB HK hcut1 hcut2 hcut5
  refine norm_ (a' := ?_) ?_ ?_
  rotate_left
  · show Act.put _ (some 26) _ = _
    simp only [Act.put, List.setIfInBounds_toArray, List.set_cons_zero, List.set_cons_succ, i64_w, i32_w]
    rfl
  refine plan_ ((0, 7, 0, 255) :: []) ?_
  iterate 1 (refine planV_ ?_ ?_ rfl rfl (any_of HT_.out (by kernel_rfl)) (fun _ _ _ h => h) (Or.inl ⟨by rfl, ?_⟩) ?_ ?_; rotate_left 2; (· intro w'; go_simp; with_reducible rfl); (· simp only [Act.put, List.setIfInBounds_toArray, List.set_cons_zero, List.set_cons_succ, i64_w, i32_w]; rfl))
  refine planEnd_ ?_
  refine done_ (done_of HT_.out (by kernel_rfl)) ?_
  clear HT_ hHeld
  go_wp2
  go_ret
  simp only [World.setCells]
  rw [HI.out.1]
  exact ⟨_, rfl, Kd.R_mono (pw_R_tail (pw_R_tail (pw_R_tail HO1.out (show n1 * 3 ≤ n1 * 3 from Nat.le_refl _) _) (show n1 * 3 ≤ n1 * 3 + 1 by omega) _) (show n1 * 3 ≤ n1 * 3 + 1 + 1 by omega) _) (fun k_ hk_ => .inl hk_), below_set (below_set (below_set HB1.out HGB.out) HGB.out) HGB.out, Kept.setCell (p := ⟨g, n1 * 3 + 1 + 1, none⟩) (Kept.setCell (p := ⟨g, n1 * 3 + 1, none⟩) (Kept.setCell (p := ⟨g, n1 * 3, none⟩) HK1.out (.inl HGP.out) _) (.inl HGP.out) _) (.inl HGP.out) _⟩

end Go.Proofs.Ytdfnongjbddngaa.P
