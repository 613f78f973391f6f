-- Written by a program of this session (wip/tools/pmore.py) for this claim; Lean checks it.
import Derived.Test.YtdfnongjbddngaaP0
import Derived.Test.YtdfnongjbddngaaPF33
import Derived.Test.YtdfnongjbddngaaPF49
import Derived.Test.YtdfnongjbddngaaPF50
import Derived.Test.YtdfnongjbddngaaPF34
namespace Go.Proofs.Ytdfnongjbddngaa.P
open Go.RowKit Go.Proofs.YtdfnongjbddngaaW.PrintWords Go.Proofs.YtdfnongjbddngaaW.PrintLast Go.Proofs.YtdfnongjbddngaaW.PrintMore
attribute [local go_sem] max2_int min2_int max_two min_two max_three min_three max_four min_four   -- for this text's walks alone
set_option linter.unusedVariables false
set_option linter.unusedSimpArgs false

/-! ### impl_ConvexSigns: function 15 -/
theorem chi_ix58 (g : Nat) (x : Int) (hx : 0 ≤ x ∧ x < 7) (W : World) (o : Nat) : (Instr.indexAt 58 (.pointer (some ⟨g, o, none⟩)) (.int .i64 x)).run Try.prog W = .ok (.pointer (some ⟨g, o + x.toNat * 49, none⟩)) W := by
  have hu : Try.prog.underlying 58 = some (.array (Try.prog.arrayLen 58) (Try.prog.elem 58)) := by kernel_rfl
  have hl : Try.prog.arrayLen 58 = 7 := by kernel_rfl
  have he : Try.prog.elem 58 = 57 := by kernel_rfl
  have hz : (Try.prog.info? 57).map (·.size) = some 49 := by kernel_rfl
  obtain ⟨inf, hinf, hinfs⟩ := Option.map_eq_some_iff.1 hz
  rw [run_indexAt_array _ _ _ _ _ hu, hl, he]
  simp [sizeOf, typeInfo, hinf, hinfs, Result.andThen, hx.1, hx.2, Addr.add]
theorem chi_ix57 (g : Nat) (x : Int) (hx : 0 ≤ x ∧ x < 7) (W : World) (o : Nat) : (Instr.indexAt 57 (.pointer (some ⟨g, o, none⟩)) (.int .i64 x)).run Try.prog W = .ok (.pointer (some ⟨g, o + x.toNat * 7, none⟩)) W := by
  have hu : Try.prog.underlying 57 = some (.array (Try.prog.arrayLen 57) (Try.prog.elem 57)) := by kernel_rfl
  have hl : Try.prog.arrayLen 57 = 7 := by kernel_rfl
  have he : Try.prog.elem 57 = 56 := by kernel_rfl
  have hz : (Try.prog.info? 56).map (·.size) = some 7 := by kernel_rfl
  obtain ⟨inf, hinf, hinfs⟩ := Option.map_eq_some_iff.1 hz
  rw [run_indexAt_array _ _ _ _ _ hu, hl, he]
  simp [sizeOf, typeInfo, hinf, hinfs, Result.andThen, hx.1, hx.2, Addr.add]
theorem chi_ix56 (g : Nat) (x : Int) (hx : 0 ≤ x ∧ x < 7) (W : World) (o : Nat) : (Instr.indexAt 56 (.pointer (some ⟨g, o, none⟩)) (.int .i64 x)).run Try.prog W = .ok (.pointer (some ⟨g, o + x.toNat, none⟩)) W := by
  have hu : Try.prog.underlying 56 = some (.array (Try.prog.arrayLen 56) (Try.prog.elem 56)) := by kernel_rfl
  have hl : Try.prog.arrayLen 56 = 7 := by kernel_rfl
  have he : Try.prog.elem 56 = 3 := by kernel_rfl
  have hz : (Try.prog.info? 3).map (·.size) = some 1 := by kernel_rfl
  obtain ⟨inf, hinf, hinfs⟩ := Option.map_eq_some_iff.1 hz
  rw [run_indexAt_array _ _ _ _ _ hu, hl, he]
  simp [sizeOf, typeInfo, hinf, hinfs, Result.andThen, hx.1, hx.2, Addr.add]
theorem chi_store2 {P : Program} {ops : Array Oper} {o : Oper} {a : Act} {Q : Exit → Act → World → Prop} {W : World} {Kc : Act → World → Prop} {g : Nat} {e : TypeId} {cur : Array Value} (hN : o.dst = none) (hw : Region.wanted o (yielded ops a.tmps) = true) (t : TypeId) (p x : Operand) (ho : o.op = .store t p x) (u u1 u2 : Value)
    (haddr : a.eval p = .pointer (some ⟨g, 0, none⟩)) (hx : a.eval x = u) (hu : u.cells.toList = [u1, u2]) (ht : (P.info? t).map (·.size) = some 2) (h1 : ∀ q ∈ [u1, u2], q.oneCell' = true) (hh : W.heap[g]? = some (.cells cur e (0, 0))) (hj : 2 ≤ cur.size)
    (h : Kc a ((W.setCell ⟨g, 0, none⟩ u1).setCell ⟨g, 1, none⟩ u2)) : if Region.wanted o (yielded ops a.tmps) = true then Oper.wp P o a W Kc Q else Kc (a.put none undef) W := by
  have hrun := run_store_run (P := P) (o := 0) t u [u1, u2] hh hu ht (by simpa using hj) h1
  rw [if_pos hw]
  unfold Oper.wp execOp
  simp only [ho, haddr, hx, Sem.run_bind, Sem.run_pure, Result.andThen_ok, hrun]
  show Kc (a.put o.dst undef) _
  rw [hN]
  exact h
def chiT5 : Bool × List (List Nat × List Nat) := (true, [([], []), ([], []), ([1], [1]), ([], []), ([3], [3]), ([], []), ([5], [5]), ([0], [0]), ([7], [7]), ([8, 2], [2, 8]), ([9, 4], [4, 9]), ([10, 6], [6, 10]), ([11], [11]), ([12], [12])])
def chiB5 : List Nat := [0, 0, 2, 0, 8, 0, 32, 1, 129, 391, 927, 2047, 4095, 8191]
theorem chi_tab5 : rtab .any (opsOf Try.f35 5) = chiT5 := by kernel_rfl
theorem chi_bits5 : waitsOk chiT5.2 chiB5 = true := by kernel_rfl
def chiT9 : Bool × List (List Nat × List Nat) := (true, [([], []), ([0], [0]), ([1], [1]), ([2], [2]), ([], []), ([4], [4]), ([3, 5], [3, 5]), ([6, 0, 1, 2, 3, 4, 5, 6], [6])])
def chiB9 : List Nat := [0, 1, 3, 7, 0, 16, 63, 127]
theorem chi_tab9 : rtab .any (opsOf Try.f35 9) = chiT9 := by kernel_rfl
theorem chi_bits9 : waitsOk chiT9.2 chiB9 = true := by kernel_rfl
theorem chi_info5 : (Try.prog.info? 5).map (fun i => (i.zero, i.size, i.bytes)) = some (some (.int .u8 0), 1, 1) := by kernel_rfl
set_option maxHeartbeats 8000000 in
set_option maxRecDepth 100000 in
theorem chi_signs_calls (K : Nat) (w : World) (g : Nat) (cur : Array Value) (n : Int) (r : List S75) (hr : impl_triplesOf.f K n = some r) (hlen : r.length ≤ 35) (hasc : ∀ t ∈ r, chiAsc t) (hh : w.heap[g]? = some (.cells cur 60 (0, 0))) (hc0 : cur[0]? = some (.int .i64 n)) (hone : ∀ t ∈ r, cur[chiIx t.f0 t.f1 t.f2]? = some (.int .i64 1)) :
    Calls Try.prog 35 #[.pointer (some ⟨g, 0, none⟩)] w fun e' w' => e' = .returned (.agg #[.int .i64 n, .string (strOfNums (List.replicate r.length 43))]) ∧ Below w.heap.size w w' := by
  have hu75 := Try.underlying75
  have HB := Aside0.mk (Below.refl w.heap.size w)
  have HH := Aside0.mk (show ∀ w' : World, Below w.heap.size w w' → w'.heap[g]? = some (.cells cur 60 (0, 0)) from fun w' h => blk_below hh h)
  have HR := Aside0.mk hr
  have HC := Aside0.mk hc0
  have HL := Aside0.mk hlen
  have HA := Aside0.mk hasc
  have H1 := Aside0.mk hone
  have HGL := Aside0.mk (blk_lt hh)
  clear hh hr hc0 hlen hasc hone
  go_enter Try.func35, Try.ntmps35
  go_wp2_with (first | ((with_reducible refine gate_dst (N := 2) rfl ?_); refine box_event ?hg (N := 2) ?hd (cs := #[.int .i64 0, .string (⟨#[]⟩ : ByteArray)]) (t := 32) ?hr ?_; (case hd => rfl); (case hg => rfl); (case hr => first | (go_simp; done) | (go_simp; rfl)); intro gb101 hg w4 hbox hb; have n0_ := Aside0.mk (below_step (by repeat (first | (with_reducible first | exact HB.out | apply below_alloc | apply pw_below_drewN | apply below_drew1) | exact HB.out)) hb); have n1_ := Aside0.mk (hbox); have n3_ := Aside0.mk ((by rw [hg]; exact (below_size (by repeat (first | (with_reducible first | exact HB.out | apply below_alloc | apply pw_below_drewN | apply below_drew1) | exact HB.out))) : w.heap.size ≤ gb101)); clear HB; have HB := n0_; have BK101 := n1_; have GE101 := n3_; clear n0_ n1_ n3_; clear hb hbox hg; have hcz0 : w4.cell? ⟨g, 0, none⟩ = some (.int .i64 n) := (blk_cell (HH.out _ HB.out) 0).trans HC.out) | ((with_reducible refine gate_callee (f := 49) rfl ?_); refine goesL_ (some 10) rfl rfl Try.func49 (by kernel_rfl) rfl #[.int .i64 n] rfl (by (try simp only [List.map_toArray, List.map_cons, List.map_nil]); first | done | rfl | (simp only [List.length_drop, List.length_take]; rfl)) ?_; (with_reducible refine (impl_triplesOf.calls K n r _ HR.out).mono ?_); rintro e w3 ⟨v102, rfl, ho0, hb⟩; refine ⟨_, rfl, ?_⟩; have n0_ := Aside0.mk (Kd.R_lower ho0 (below_size (by repeat (first | (with_reducible first | exact HB.out | apply below_alloc | apply pw_below_drewN | apply below_drew1) | exact HB.out)))); have n1_ := Aside0.mk (below_step (by repeat (first | (with_reducible first | exact HB.out | apply below_alloc | apply pw_below_drewN | apply below_drew1) | exact HB.out)) hb); have n2_ := Aside0.mk (blk_below (g := gb101) (o := .cells #[.int .i64 0, .string (⟨#[]⟩ : ByteArray)] 32 (0, 0)) (by (with_reducible repeat (first | refine blk_drewN ?_ _ | refine blk_drew ?_ | refine blk_alloc ?_ _)); exact BK101.out) hb); clear HB BK101 hcz0; have HO_8 := n0_; have HB := n1_; have BK101 := n2_; clear n0_ n1_ n2_ hb ho0; obtain ⟨Ao4, co4, eo4⟩ := Kd.R_slice HO_8.out; subst eo4))
  go_loopg [3, 12] r.length (fun kq v3 v12 w' => ∃ (x : Int) (ix : Nat) (tx : List Int), v12 = .int .i64 x ∧ Aside0 (x = (ix : Int)) ∧ Aside0 (kq + ix = r.length) ∧ Aside0 (tx = List.replicate ix 43) ∧ Aside0 (w'.heap[gb101]? = some (.cells #[.int .i64 0, .string (⟨#[]⟩ : ByteArray)] 32 (0, 0))) ∧ Aside0 (Kd.R (Kd.int .u8) 5 w' w.heap.size (fun _ => True) v3 tx) ∧ Aside0 (Kd.R k75 75 w' w.heap.size (fun _ => True) (.slice Ao4 r.length co4) r) ∧ Aside0 (Below w.heap.size w w'))
  case atStart => exact ⟨0, 0, [], rfl, ⟨rfl⟩, ⟨rfl⟩, ⟨rfl⟩, ⟨BK101.out⟩, ⟨Kd.R_nil _ _ _ _ _⟩, HO_8, HB⟩
  case round =>
    clear BK101 HO_8 HB
    obtain ⟨x, ix, tx, rfl, HX, HK1, HT, BK101, HO_3, HO_8, HB⟩ := hrel
    by_cases c5 : x < (r.length : Int)
    · have c5b0 : decide (x < (r.length : Int)) = true := decide_eq_true c5
      have hx := HX.out
      have p104 : 0 ≤ x := by omega
      have q104 := c5
      have hixn : ix < r.length := by omega
      have hrd : rd_T75 r x = r[ix] := by rw [hx]; simp [rd_T75, hixn]
      have hmem : rd_T75 r x ∈ r := by rw [hrd]; exact List.getElem_mem hixn
      have HASC := Aside0.mk (HA.out _ hmem)
      have HONE := Aside0.mk (H1.out _ hmem)
      have HIX := Aside0.mk hixn
      have HW : wrap64 (x + 1) = ((ix + 1 : Nat) : Int) := by have := HL.out; unfold wrap64; omega
      have HW := Aside0.mk HW
      clear c5 hrd hmem hixn hx
      obtain ⟨ad104, e104, hx104_0, hx104_1, hx104_2⟩ := at_T75 (Kd.R_reads' HO_8.out).2.2 x p104 q104
      cases e104
      replace p104 := eq_true p104
      replace q104 := eq_true q104
      go_wp2_with ((with_reducible refine gate_dst (N := 5) rfl ?_); refine box_event ?hg (N := 5) ?hd (cs := #[.int .i64 0, .int .i64 0, .int .i64 0]) (t := 75) ?hr ?_; (case hd => rfl); (case hg => rfl); (case hr => first | (go_simp; done) | (go_simp; rfl)); intro gb105 hg w8 hbox hb; have n0_ := Aside0.mk (Kd.R_below (Kd.R_elderB (by (with_reducible repeat (first | apply Kd.R_alloc | apply Kd.R_drewN | apply Kd.R_drew)); exact HO_3.out) gb105 (Nat.le_of_eq hg.symm)) hb); have n1_ := Aside0.mk (Kd.R_below (Kd.R_elderB (by (with_reducible repeat (first | apply Kd.R_alloc | apply Kd.R_drewN | apply Kd.R_drew)); exact HO_8.out) gb105 (Nat.le_of_eq hg.symm)) hb); have n2_ := Aside0.mk (below_step (by repeat (first | (with_reducible first | exact HB.out | apply below_alloc | apply pw_below_drewN | apply below_drew1) | exact HB.out)) hb); have n3_ := Aside0.mk (hbox); have n4_ := Aside0.mk (show gb105 ≠ gb101 by have := blk_lt BK101.out; rw [hg]; show _ ≠ gb101; exact Nat.ne_of_gt this); have n5_ := Aside0.mk ((by rw [hg]; exact (below_size (by repeat (first | (with_reducible first | exact HB.out | apply below_alloc | apply pw_below_drewN | apply below_drew1) | exact HB.out))) : w.heap.size ≤ gb105)); have n6_ := Aside0.mk (blk_below (g := gb101) (o := .cells #[.int .i64 0, .string (⟨#[]⟩ : ByteArray)] 32 (0, 0)) (by (with_reducible repeat (first | refine blk_drewN ?_ _ | refine blk_drew ?_ | refine blk_alloc ?_ _)); exact BK101.out) hb); clear HO_3; clear HO_8; clear HB; clear BK101; have HO_3 := n0_; have HO_8 := n1_; have HB := n2_; have BK105 := n3_; have GW105 := n4_; have GE105 := n5_; have BK101 := n6_; clear n0_ n1_ n2_ n3_ n4_ n5_ n6_; clear hb hbox hg; have hcz9_0 : w8.cell? ⟨gb105, 0, none⟩ = some (.int .i64 0) := (blk_cell BK105.out 0).trans rfl; have hcz9_1 : w8.cell? ⟨gb105, 1, none⟩ = some (.int .i64 0) := (blk_cell BK105.out 1).trans rfl; have hcz9_2 : w8.cell? ⟨gb105, 2, none⟩ = some (.int .i64 0) := (blk_cell BK105.out 2).trans rfl; have hfz9_0 := blk_frozen BK105.out 0; have hfz9_1 := blk_frozen BK105.out 1; have hfz9_2 := blk_frozen BK105.out 2)

      have hN := Ne.symm GW105.out
      have T75 := Aside0.mk (show (((w8.setCell ⟨gb105, 0, none⟩ (.int .i64 (rd_T75 r x).f0)).setCell ⟨gb105, 1, none⟩ (.int .i64 (rd_T75 r x).f1)).setCell ⟨gb105, 2, none⟩ (.int .i64 (rd_T75 r x).f2)).heap[gb105]? = some (.cells #[.int .i64 (rd_T75 r x).f0, .int .i64 (rd_T75 r x).f1, .int .i64 (rd_T75 r x).f2] 75 (0, 0)) by
        refine blk_put (cs := #[.int .i64 (rd_T75 r x).f0, .int .i64 (rd_T75 r x).f1, .int .i64 0]) ?_ 2 _ rfl
        refine blk_put (cs := #[.int .i64 (rd_T75 r x).f0, .int .i64 0, .int .i64 0]) ?_ 1 _ rfl
        refine blk_put (cs := #[.int .i64 0, .int .i64 0, .int .i64 0]) ?_ 0 _ rfl
        exact BK105.out)
      have m1_ := Aside0.mk ((Below.heap_setCell (w8.setCell ⟨gb105, 0, none⟩ (.int .i64 (rd_T75 r x).f0) |>.setCell ⟨gb105, 1, none⟩ (.int .i64 (rd_T75 r x).f1)) ⟨gb105, 2, none⟩ (.int .i64 (rd_T75 r x).f2) gb101 hN).trans ((Below.heap_setCell _ _ _ _ hN).trans ((Below.heap_setCell _ _ _ _ hN).trans BK101.out)))
      have m2_ := Aside0.mk (below_set (v := (.int .i64 (rd_T75 r x).f2)) (j := 2) (below_set (v := (.int .i64 (rd_T75 r x).f1)) (j := 1) (below_set (v := (.int .i64 (rd_T75 r x).f0)) (j := 0) HB.out GE105.out) GE105.out) GE105.out)
      have m3_ := Aside0.mk (Kd.R_far (p := ⟨gb105, 2, none⟩) (Kd.R_far (p := ⟨gb105, 1, none⟩) (Kd.R_far (p := ⟨gb105, 0, none⟩) HO_3.out (fun _ hk => hk.2) (.int .i64 ((rd_T75 r x).f0))) (fun _ hk => hk.2) (.int .i64 ((rd_T75 r x).f1))) (fun _ hk => hk.2) (.int .i64 ((rd_T75 r x).f2)))
      have m4_ := Aside0.mk (Kd.R_far (p := ⟨gb105, 2, none⟩) (Kd.R_far (p := ⟨gb105, 1, none⟩) (Kd.R_far (p := ⟨gb105, 0, none⟩) HO_8.out (fun _ hk => hk.2) (.int .i64 ((rd_T75 r x).f0))) (fun _ hk => hk.2) (.int .i64 ((rd_T75 r x).f1))) (fun _ hk => hk.2) (.int .i64 ((rd_T75 r x).f2)))
      clear BK101 HB HO_3 HO_8 BK105 hcz9_0 hcz9_1 hcz9_2 hfz9_0 hfz9_1 hfz9_2 hx104_0 hx104_1 hx104_2 hN
      generalize ((w8.setCell ⟨gb105, 0, none⟩ (.int .i64 (rd_T75 r x).f0)).setCell ⟨gb105, 1, none⟩ (.int .i64 (rd_T75 r x).f1)).setCell ⟨gb105, 2, none⟩ (.int .i64 (rd_T75 r x).f2) = wA at T75 m1_ m2_ m3_ m4_ ⊢
      have BK101 := m1_
      have HB := m2_
      have HO_3 := Aside0.mk (Kd.R_drew (Kd.R_mono (ok' := fun _ => True) m3_.out (fun _ _ => trivial)))
      have HO_8 := Aside0.mk (Kd.R_drew (Kd.R_mono (ok' := fun _ => True) m4_.out (fun _ _ => trivial)))
      clear m1_ m2_ m3_ m4_
      have hA := HASC.out
      unfold chiAsc at hA
      have I58 := chi_ix58 g (rd_T75 r x).f0 (by omega)
      have I57 := chi_ix57 g (rd_T75 r x).f1 (by omega)
      have I56 := chi_ix56 g (rd_T75 r x).f2 (by omega)
      clear hA
      refine start_ (n := 14) (S := fun w' => w'.cell? ⟨gb105, 0, none⟩ = some (.int .i64 (rd_T75 r x).f0) ∧ w'.cell? ⟨gb105, 1, none⟩ = some (.int .i64 (rd_T75 r x).f1) ∧ w'.cell? ⟨gb105, 2, none⟩ = some (.int .i64 (rd_T75 r x).f2) ∧ w'.cell? ⟨g, 1 + (rd_T75 r x).f0.toNat * 49 + (rd_T75 r x).f1.toNat * 7 + (rd_T75 r x).f2.toNat, none⟩ = some (.int .i64 1)) (ds := []) (bm 14 0) (by kernel_rfl) rfl rfl ⟨(blk_cell (w := wA) T75.out 0).trans rfl, (blk_cell (w := wA) T75.out 1).trans rfl, (blk_cell (w := wA) T75.out 2).trans rfl, (blk_cell (w := wA) (HH.out wA HB.out) _).trans HONE.out⟩ (fun hHeld => ?_); refine with_tabW chi_tab5 chi_bits5 (fun HT_ HW_ => ?_)
      have HB := Aside0.mk (below_drew1 HB.out)
      have BK101 := Aside0.mk (show wA.drew.heap[gb101]? = _ from BK101.out)
      clear T75
      generalize wA.drew = wB at HB BK101 HO_3 HO_8 hHeld ⊢
      refine plan_ ((0, 0, 16, 1) :: (0, 1, 17, 3) :: (0, 3, 19, 11) :: (0, 5, 21, 43) :: (0, 7, 23, 171) :: (0, 8, 24, 427) :: (2, 2, 18, 431) :: (2, 4, 20, 447) :: (2, 6, 22, 511) :: (0, 9, 25, 1023) :: (0, 10, 26, 2047) :: (0, 11, 27, 4095) :: (2, 12, 28, 8191) :: (0, 13, 29, 16383) :: []) ?_
      iterate 14 (first | (refine planV_ ?_ ?_ rfl rfl (any_of HT_.out (by kernel_rfl)) (fun _ _ _ h => h) (Or.inl ⟨by rfl, ?_⟩) ?_ ?_; rotate_left 2; (· intro w'; go_simp; with_reducible rfl); (· simp only [Act.put, List.setIfInBounds_toArray, List.set_cons_zero, List.set_cons_succ, i64_w, i32_w]; rfl)) | (refine planT_ ?_ ?_ rfl rfl (take_ofW HT_.out HW_.out (by kernel_rfl)) (fun _ _ _ h => h) (Or.inl ⟨by rfl, ?_⟩) hHeld ?_ ?_; rotate_left 2; (· rintro w' ⟨s0, s1, s2, s3⟩; go_simp; with_reducible rfl); (· simp only [Act.put, List.setIfInBounds_toArray, List.set_cons_zero, List.set_cons_succ, i64_w, i32_w]; rfl)))
      refine planEnd_ ?_
      refine done_ (done_of HT_.out (by kernel_rfl)) ?_
      clear HT_ HW_ hHeld I58 I57 I56
      go_wp2_with ((with_reducible refine gate_builtin (b := .append) (xs := #[.tmp 30, .tmp 31]) rfl ?_); at_builtin; refine Kd.R_append (Kd.int .u8) (w0 := w) w.heap.size rfl (.tmp 30) (.tmp 31) 80 5 (.int .u8 0) 1 rfl Try.underlying80 chi_info5 rfl (by decide) (by omega) u3 tx 43 [.int .u8 43] (fun _ => True) (fun _ => False) rfl rfl ?aP (fun _ hk => hk.elim) ?aF ?aO ?aB ?aS ?aL ?_; (case aP => exact rfl); (case aB => exact (by repeat (first | (with_reducible first | exact HB.out | apply below_alloc | apply pw_below_drewN | apply below_drew1) | exact HB.out))); (case aF => exact (fun _ _ => trivial)); (case aO => exact (by (with_reducible repeat (first | apply Kd.R_alloc | apply Kd.R_drewN | apply Kd.R_drew)); exact HO_3.out)); (case aS => exact (below_size (by repeat (first | (with_reducible first | exact HB.out | apply below_alloc | apply pw_below_drewN | apply below_drew1) | exact HB.out)))); (case aL => have h1 := HL.out; have h2 := HIX.out; rw [HT.out, List.length_replicate]; omega); intro v102 w7 ho hb hg hat; have n0_ := Aside0.mk (Kd.R_over' (by (with_reducible repeat (first | apply Kd.R_alloc | apply Kd.R_drewN | apply Kd.R_drew)); exact HO_8.out) (Kd.R_typed (by (with_reducible repeat (first | apply Kd.R_alloc | apply Kd.R_drewN | apply Kd.R_drew)); exact HO_3.out)) (by decide) hg); have n1_ := Aside0.mk (blk_grown (g := gb101) (o := .cells #[.int .i64 0, .string (⟨#[]⟩ : ByteArray)] 32 (0, 0)) (by (with_reducible repeat (first | refine blk_drewN ?_ _ | refine blk_drew ?_ | refine blk_alloc ?_ _)); exact BK101.out) hg (Kd.R_ne HO_3.out BK101.out (by decide))); have n2_ := Aside0.mk (hb); have n3_ := Aside0.mk (ho); clear HO_8; clear BK101; clear HB; clear HO_3; have HO_8 := n0_; have BK101 := n1_; have HB := n2_; have HO_3 := n3_; clear n0_ n1_ n2_ n3_; clear ho hb hg hat)
      go_roundg (gk - 1)
      case measure => have := HK1.out; have := HIX.out; omega
      case rel => exact ⟨wrap64 (x + 1), ix + 1, tx ++ [43], (by first | rfl | (simp; done)), ⟨HW.out⟩, ⟨by have := HK1.out; have := HIX.out; omega⟩, ⟨by rw [HT.out, List.replicate_succ']⟩, ⟨BK101.out⟩, ⟨HO_3.out⟩, ⟨HO_8.out⟩, ⟨HB.out⟩⟩
    · have c5b0 : decide (x < (r.length : Int)) = false := decide_eq_false c5
      have HE := Aside0.mk (show ix = r.length by have := HK1.out; have := HX.out; omega)
      clear c5
      go_wp2_with fail
      have hcv : ∀ w' : World, Kd.R (Kd.int .u8) 5 w' w.heap.size (fun _ => True) u3 tx → (convert 80 9 u3).run Try.prog w' = .ok (.string (strOfNums tx)) w' := fun w' h => own_string (P := Try.prog) Try.underlying80 Try.underlying5 Try.underlying9 (Kd.own_of_R h)
      refine start_ (n := 8) (S := fun w' => w'.cell? ⟨g, 0, none⟩ = some (.int .i64 n) ∧ (convert 80 9 u3).run Try.prog w' = .ok (.string (strOfNums tx)) w') (ds := []) (bm 8 0) (by kernel_rfl) rfl rfl ⟨(blk_cell (HH.out _ HB.out) 0).trans HC.out, hcv _ (Kd.R_drew HO_3.out)⟩ (fun hHeld => ?_); refine with_tabW chi_tab9 chi_bits9 (fun HT_ HW_ => ?_)
      have HB := Aside0.mk (below_drew1 HB.out)
      have BK101 := Aside0.mk (show wr.drew.heap[gb101]? = _ from BK101.out)
      have HO_3 := Aside0.mk (Kd.R_drew HO_3.out)
      have HCV := Aside0.mk hcv
      clear hcv HO_8
      generalize wr.drew = wB at HB BK101 HO_3 hHeld ⊢
      refine plan_ ((0, 0, 37, 1) :: (0, 1, 38, 3) :: (0, 2, 39, 7) :: (0, 4, 41, 23) :: (2, 3, 40, 31) :: (2, 5, 42, 63) :: (0, 6, 43, 127) :: []) ?_
      iterate 7 (first | (refine planV_ ?_ ?_ rfl rfl (any_of HT_.out (by kernel_rfl)) (fun _ _ _ h => h) (Or.inl ⟨by rfl, ?_⟩) ?_ ?_; rotate_left 2; (· intro w'; go_simp; with_reducible rfl); (· simp only [Act.put, List.setIfInBounds_toArray, List.set_cons_zero, List.set_cons_succ, i64_w, i32_w]; rfl)) | (refine planT_ ?_ ?_ rfl rfl (take_ofW HT_.out HW_.out (by kernel_rfl)) (fun _ _ _ h => h) (Or.inl ⟨by rfl, ?_⟩) hHeld ?_ ?_; rotate_left 2; (· rintro w' ⟨s0, s1⟩; go_simp; with_reducible rfl); (· simp only [Act.put, List.setIfInBounds_toArray, List.set_cons_zero, List.set_cons_succ, i64_w, i32_w]; rfl)))
      refine planEnd_ ?_
      refine one_ (i := 7) (N := none) (bm 8 255) rfl rfl (one_of HT_.out (by kernel_rfl)) (by decide) (fun K hK => ?_)
      refine chi_store2 (g := gb101) rfl (by rfl) 32 (.tmp 2) (.tmp 43) rfl (.agg #[.int .i64 n, .string (strOfNums tx)]) (.int .i64 n) (.string (strOfNums tx)) rfl rfl rfl (by kernel_rfl) (by intro q hq; simp at hq; rcases hq with rfl | rfl <;> rfl) BK101.out (by decide) ?_
      refine hK.out _ _ ⟨(blk_cell (HH.out _ (below_set (below_set HB.out GE101.out) GE101.out)) 0).trans HC.out, HCV.out _ (Kd.R_mono (Kd.R_far (p := ⟨gb101, 1, none⟩) (Kd.R_far (p := ⟨gb101, 0, none⟩) (Kd.R_types HO_3.out BK101.out (by decide)) (fun _ hk => hk.2) _) (fun _ hk => hk.2) _) (fun _ _ => trivial))⟩ (fun hHeld => ?_)
      clear hK K
      refine done_ (done_of HT_.out (by kernel_rfl)) ?_
      clear HT_ HW_ hHeld
      go_wp2
      refine bodyPost_ret (results_cell_row rfl _ _ gb101 32 #[.int .i64 n, .string (strOfNums tx)] (0, 0) _ rfl (by refine blk_put (cs := #[.int .i64 n, .string (⟨#[]⟩ : ByteArray)]) ?_ 1 _ rfl; refine blk_put (cs := #[.int .i64 0, .string (⟨#[]⟩ : ByteArray)]) ?_ 0 _ rfl; exact BK101.out) Try.underlying32 rfl (by kernel_rfl)) rfl ?_
      exact ⟨by rw [HT.out, HE.out], below_set (below_set HB.out GE101.out) GE101.out⟩
theorem chi_zsize : Try.zeroCells60.size = 344 := by kernel_rfl
def chiList (n : Int) : List S75 := (impl_triplesOf.f 300 n).getD []
theorem chi_list (n : Int) (h : 3 ≤ n ∧ n ≤ 7) : impl_triplesOf.f 300 n = some (chiList n) ∧ (chiList n).length ≤ 35 ∧ ∀ t ∈ chiList n, chiAsc t := by
  obtain ⟨h1, h2⟩ := h
  have hn : n = 3 ∨ n = 4 ∨ n = 5 ∨ n = 6 ∨ n = 7 := by omega
  have hd : ∀ l : List S75, l.all (fun t => decide (0 ≤ t.f0) && decide (t.f0 < t.f1) && decide (t.f1 < t.f2) && decide (t.f2 < 7)) = true → ∀ t ∈ l, chiAsc t := by
    intro l hl t ht
    have := List.all_eq_true.1 hl t ht
    simp only [Bool.and_eq_true, decide_eq_true_eq] at this
    exact ⟨this.1.1.1, this.1.1.2, this.1.2, this.2⟩
  rcases hn with rfl | rfl | rfl | rfl | rfl
  · exact ⟨by kernel_rfl, of_decide_eq_true (by kernel_rfl), hd _ (by kernel_rfl)⟩
  · exact ⟨by kernel_rfl, of_decide_eq_true (by kernel_rfl), hd _ (by kernel_rfl)⟩
  · exact ⟨by kernel_rfl, of_decide_eq_true (by kernel_rfl), hd _ (by kernel_rfl)⟩
  · exact ⟨by kernel_rfl, of_decide_eq_true (by kernel_rfl), hd _ (by kernel_rfl)⟩
  · exact ⟨by kernel_rfl, of_decide_eq_true (by kernel_rfl), hd _ (by kernel_rfl)⟩
def impl_ConvexSigns.f (a0 : Int) : Option (Int × ByteArray × Bool) := if 3 ≤ a0 ∧ a0 ≤ 7 then some (a0, strOfNums (List.replicate (chiList a0).length 43), true) else some (0, (⟨#[]⟩ : ByteArray), false)
set_option maxHeartbeats 8000000 in
set_option maxRecDepth 100000 in
theorem impl_ConvexSigns.calls (a0 : Int) (r1 : Int) (r2 : ByteArray) (r3 : Bool) (w : World) (h : impl_ConvexSigns.f a0 = some (r1, r2, r3)) :
    Calls Try.prog 15 #[.int .i64 a0] w fun e w' => e = .returned (.tuple #[.agg #[.int .i64 r1, .string r2], .bool r3]) ∧ Below w.heap.size w w' := by
  have hu32 := Try.underlying32
  have HB := Aside0.mk (Below.refl w.heap.size w)
  unfold impl_ConvexSigns.f at h
  by_cases c : 3 ≤ a0 ∧ a0 ≤ 7
  · rw [if_pos c] at h
    simp only [Option.some.injEq, Prod.mk.injEq] at h
    obtain ⟨rfl, rfl, rfl⟩ := h
    have HCT := Aside0.mk (show impl_isCount.f a0 = some true by unfold impl_isCount.f; rw [if_pos c.1, decide_eq_true c.2])
    have HLS := Aside0.mk (chi_list a0 c)
    clear c
    go_enter Try.func15, Try.ntmps15
    go_wp2_with (first | ((with_reducible refine gate_dst (N := 2) rfl ?_); refine box_event ?hg (N := 2) ?hd (cs := #[.int .i64 0, .string (⟨#[]⟩ : ByteArray)]) (t := 32) ?hr ?_; (case hd => rfl); (case hg => rfl); (case hr => first | (go_simp; done) | (go_simp; rfl)); intro gb101 hg w4 hbox hb; have n0_ := Aside0.mk (below_step (by repeat (first | (with_reducible first | exact HB.out | apply below_alloc | apply pw_below_drewN | apply below_drew1) | exact HB.out)) hb); have n1_ := Aside0.mk (hbox); have n3_ := Aside0.mk ((by rw [hg]; exact (below_size (by repeat (first | (with_reducible first | exact HB.out | apply below_alloc | apply pw_below_drewN | apply below_drew1) | exact HB.out))) : w.heap.size ≤ gb101)); clear HB; have HB := n0_; have BK101 := n1_; have GE101 := n3_; clear n0_ n1_ n3_; clear hb hbox hg) | ((with_reducible refine gate_callee (f := 33) rfl ?_); refine goesL_ (some 5) rfl rfl Try.func33 (by kernel_rfl) rfl #[.int .i64 a0] rfl (by (try simp only [List.map_toArray, List.map_cons, List.map_nil]); first | done | rfl) ?_; (with_reducible refine (impl_isCount.calls a0 true _ HCT.out).mono ?_); rintro e w5 ⟨rfl, ⟨nd, rfl⟩⟩; refine ⟨_, rfl, ?_⟩) | ((with_reducible refine gate_callee (f := 34) rfl ?_); refine goesL_ (some 11) rfl rfl Try.func34 (by kernel_rfl) rfl #[.pointer (some ⟨w4.heap.size, 0, none⟩), .int .i64 1] rfl (by (try simp only [List.map_toArray, List.map_cons, List.map_nil]); first | done | rfl) ?_; refine (chi_all_calls 300 (w4.drewN nd) ((w4.drewN nd).alloc (.cells (Try.zeroCells60.setIfInBounds 0 (.int .i64 a0)) 60)) w4.heap.size (Try.zeroCells60.setIfInBounds 0 (.int .i64 a0)) a0 (chiList a0) HLS.out.1 HLS.out.2.1 HLS.out.2.2 (blk_new (w4.drewN nd) _) (by rw [Array.size_setIfInBounds]; exact chi_zsize) (by rw [Array.getElem?_setIfInBounds, if_pos rfl, if_pos (by rw [chi_zsize]; decide)]) (below_alloc (Below.refl _ _) _) (Nat.le_refl _)).mono ?_; rintro e' w6 ⟨rfl, ⟨cur', hh6, hs6, hc6, ho6⟩, hb⟩; refine ⟨_, rfl, ?_⟩; have n0_ := Aside0.mk (below_step (pw_below_drewN HB.out nd) hb); have n1_ := Aside0.mk (blk_below (g := gb101) (o := .cells #[.int .i64 0, .string (⟨#[]⟩ : ByteArray)] 32 (0, 0)) (blk_drewN BK101.out nd) hb); have HH6 := Aside0.mk hh6; have HC6 := Aside0.mk hc6; have HO6 := Aside0.mk ho6; clear HB BK101; have HB := n0_; have BK101 := n1_; clear n0_ n1_ hb hh6 hs6 hc6 ho6) | ((with_reducible refine gate_callee (f := 35) rfl ?_); refine goesL_ (some 12) rfl rfl Try.func35 (by kernel_rfl) rfl #[.pointer (some ⟨w4.heap.size, 0, none⟩)] rfl (by (try simp only [List.map_toArray, List.map_cons, List.map_nil]); first | done | rfl) ?_; refine (chi_signs_calls 300 _ w4.heap.size cur' a0 (chiList a0) HLS.out.1 HLS.out.2.1 HLS.out.2.2 HH6.out HC6.out HO6.out).mono ?_; rintro e' w7 ⟨rfl, hb⟩; refine ⟨_, rfl, ?_⟩; have n0_ := Aside0.mk (below_step HB.out hb); have n1_ := Aside0.mk (blk_below (g := gb101) (o := .cells #[.int .i64 0, .string (⟨#[]⟩ : ByteArray)] 32 (0, 0)) BK101.out hb); clear HB BK101; have HB := n0_; have BK101 := n1_; clear n0_ n1_ hb; have hcz14_0 : w7.cell? ⟨gb101, 0, none⟩ = some (.int .i64 0) := (blk_cell BK101.out 0).trans rfl; have hcz14_1 : w7.cell? ⟨gb101, 1, none⟩ = some (.string (⟨#[]⟩ : ByteArray)) := (blk_cell BK101.out 1).trans rfl; have hfz14_0 := blk_frozen BK101.out 0; have hfz14_1 := blk_frozen BK101.out 1))
    refine bodyPost_ret (results_ct rfl _ _ gb101 32 #[.int .i64 a0, .string (strOfNums (List.replicate (chiList a0).length 43))] (0, 0) _ rfl (by refine blk_put (cs := #[.int .i64 a0, .string (⟨#[]⟩ : ByteArray)]) ?_ 1 _ rfl; refine blk_put (cs := #[.int .i64 0, .string (⟨#[]⟩ : ByteArray)]) ?_ 0 _ rfl; exact BK101.out) Try.underlying32 rfl (by kernel_rfl)) rfl ?_
    exact ⟨by first | rfl | (simp [errW_none, errW_some] <;> rfl) | (simp [*, errW_none, errW_some] <;> rfl), by repeat (first | (with_reducible first | exact HB.out | apply below_alloc | apply pw_below_drewN | apply below_drew1 | refine below_set ?_ GE101.out) | exact HB.out)⟩
  · rw [if_neg c] at h
    simp only [Option.some.injEq, Prod.mk.injEq] at h
    obtain ⟨rfl, rfl, rfl⟩ := h
    have HCT := Aside0.mk (show impl_isCount.f a0 = some false by unfold impl_isCount.f; by_cases c1 : a0 ≥ 3 <;> simp [c1] <;> omega)
    clear c
    go_enter Try.func15, Try.ntmps15
    go_wp2_with (first | ((with_reducible refine gate_dst (N := 2) rfl ?_); refine box_event ?hg (N := 2) ?hd (cs := #[.int .i64 0, .string (⟨#[]⟩ : ByteArray)]) (t := 32) ?hr ?_; (case hd => rfl); (case hg => rfl); (case hr => first | (go_simp; done) | (go_simp; rfl)); intro gb101 hg w4 hbox hb; have n0_ := Aside0.mk (below_step (by repeat (first | (with_reducible first | exact HB.out | apply below_alloc | apply pw_below_drewN | apply below_drew1) | exact HB.out)) hb); have n1_ := Aside0.mk (hbox); have n3_ := Aside0.mk ((by rw [hg]; exact (below_size (by repeat (first | (with_reducible first | exact HB.out | apply below_alloc | apply pw_below_drewN | apply below_drew1) | exact HB.out))) : w.heap.size ≤ gb101)); clear HB; have HB := n0_; have BK101 := n1_; have GE101 := n3_; clear n0_ n1_ n3_; clear hb hbox hg; have hcz14_0 : w4.cell? ⟨gb101, 0, none⟩ = some (.int .i64 0) := (blk_cell BK101.out 0).trans rfl; have hcz14_1 : w4.cell? ⟨gb101, 1, none⟩ = some (.string (⟨#[]⟩ : ByteArray)) := (blk_cell BK101.out 1).trans rfl; have hfz14_0 := blk_frozen BK101.out 0; have hfz14_1 := blk_frozen BK101.out 1) | ((with_reducible refine gate_callee (f := 33) rfl ?_); refine goesL_ (some 5) rfl rfl Try.func33 (by kernel_rfl) rfl #[.int .i64 a0] rfl (by (try simp only [List.map_toArray, List.map_cons, List.map_nil]); first | done | rfl) ?_; (with_reducible refine (impl_isCount.calls a0 false _ HCT.out).mono ?_); rintro e w5 ⟨rfl, ⟨nd, rfl⟩⟩; refine ⟨_, rfl, ?_⟩))
    refine bodyPost_ret (results_ct rfl _ _ gb101 32 #[.int .i64 0, .string (⟨#[]⟩ : ByteArray)] (0, 0) _ rfl (by (with_reducible repeat (first | refine blk_drewN ?_ _ | refine blk_drew ?_ | refine blk_alloc ?_ _)); refine blk_put (cs := #[.int .i64 0, .string (⟨#[]⟩ : ByteArray)]) ?_ 1 _ rfl; (with_reducible repeat (first | refine blk_drewN ?_ _ | refine blk_drew ?_ | refine blk_alloc ?_ _)); refine blk_put (cs := #[.int .i64 0, .string (⟨#[]⟩ : ByteArray)]) ?_ 0 _ rfl; (with_reducible repeat (first | refine blk_drewN ?_ _ | refine blk_drew ?_ | refine blk_alloc ?_ _)); exact BK101.out) Try.underlying32 rfl (by kernel_rfl)) rfl ?_
    exact ⟨by first | rfl | (simp [errW_none, errW_some] <;> rfl) | (simp [*, errW_none, errW_some] <;> rfl), by repeat (first | (with_reducible first | exact HB.out | apply below_alloc | apply pw_below_drewN | apply below_drew1 | refine below_set ?_ GE101.out) | exact HB.out)⟩

end Go.Proofs.Ytdfnongjbddngaa.P
