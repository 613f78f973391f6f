/- For every list of numbers and every number the program's CanAdd returns what the reference's returns, a new list, and leaves the list as it was; no condition. -/
import Derived.Test.YtijgjpfbhbggdaaZFnExactCanAdd0
import Derived.Test.YtijgjpfbhbggdaaRows
import Derived.Test.YtijgjpfbhbggdaaProg
import Derived.Below
import Derived.Deep.Draws
import Derived.Deep.AppendLies
import Derived.Maps.AppendAt
import Derived.OwnWalk
import Derived.Laws.BytesArg
import Derived.Laws.MakeOwn
import Derived.Laws.OwnMore
import Derived.Deep.OwnRows
import Derived.Tactics
import Derived.Lib.ConvBytes
import Derived.Laws.Slices
import Derived.WalkKit
import Derived.KernelRfl
import Derived.RowKit3
import Derived.Deep.LoopGhost
import Derived.Deep.QuietTactic
import Derived.BigQuiet
import Derived.WideLaws
import Derived.Deep.DeepCutAuto
import Derived.Deep.CutBlock
import Derived.Deep.RegionHeld3
import Derived.Laws.Rows
import Derived.Lib.AppendStr
import Derived.ArgAppend
import Derived.Laws.IdiomCopy
import Derived.OrdersHeld
import Derived.Laws.BitsLemmas
import Derived.RowKit
import Derived.Shelf.Abstract
import Derived.Test.YtijgjpfbhbggdaaWWords
import Derived.Test.YtijgjpfbhbggdaaWLast
import Derived.Test.YtijgjpfbhbggdaaWTab
import Derived.Test.YtijgjpfbhbggdaaWQPut
import Derived.Test.YtijgjpfbhbggdaaWApart
import Derived.Test.YtijgjpfbhbggdaaWArr
import Derived.Test.YtijgjpfbhbggdaaWZeros
import Derived.Test.YtijgjpfbhbggdaaWFoot
import Derived.Test.YtijgjpfbhbggdaaWKept
import Derived.Test.YtijgjpfbhbggdaaWShare
import Derived.Test.YtijgjpfbhbggdaaWN
import Derived.Test.YtijgjpfbhbggdaaWEqStruct
import Derived.Test.YtijgjpfbhbggdaaWRepsOne
import Derived.Test.YtijgjpfbhbggdaaWNEv
import Derived.Test.YtijgjpfbhbggdaaWMore
import Derived.Deep.Slices
import Derived.ChangeOld
import Derived.Carry
import Derived.ProofKit
import Derived.OpenShut
import Derived.ShutString
import Derived.SizedLaws
namespace Go.Proofs.Ytijgjpfbhbggdaa.P
open Go.RowKit Go.Proofs.YtijgjpfbhbggdaaW.PrintWords Go.Proofs.YtijgjpfbhbggdaaW.PrintLast Go.Proofs.YtijgjpfbhbggdaaW.PrintMore
attribute [local go_sem] max2_int min2_int max_two min_two max_three min_three max_four min_four   -- for this text's walks alone
set_option linter.unusedVariables false
set_option linter.unusedSimpArgs false

/-! ### impl_CanAdd: function 44 -/
/-- Is one of the list not apart from a? -/
def anyNot (k : Nat) (a : Int) : List Int → Option Bool
 | [] => some false
 | b :: l => (impl_AreApart.f k a b).bind fun r => (anyNot k a l).bind fun s => some (!r || s)
theorem anyNot_mono (k : Nat) (a : Int) (l : List Int) : LeO (anyNot k a l) (anyNot (k + 1) a l) := by
 induction l with
 | nil => exact LeO.refl _
 | cons b l ih => exact LeO.bind (impl_AreApart.mono a b k) (fun _ => LeO.bind ih (fun _ => LeO.refl _))
theorem anyNot_is (k : Nat) (a : Int) (l : List Int) : ∀ d, anyNot k a l = some d → (∀ b ∈ l, impl_AreApart.f k a b = some ((impl_AreApart.f k a b).getD false)) ∧ d = l.any (fun b => !((impl_AreApart.f k a b).getD false)) := by
 induction l with
 | nil => intro d h; exact ⟨fun b hb => (by cases hb), (Option.some.inj h).symm⟩
 | cons b l ih =>
  intro d h
  obtain ⟨r, hr, h⟩ := Option.bind_eq_some_iff.mp h
  obtain ⟨s, hs, h⟩ := Option.bind_eq_some_iff.mp h
  obtain ⟨h1, h2⟩ := ih s hs
  refine ⟨fun c hc => ?_, ?_⟩
  ·rcases List.mem_cons.1 hc with rfl | hc
   ·rw [hr]; rfl
   ·exact h1 c hc
  ·rw [← Option.some.inj h, h2, List.any_cons, hr]; rfl
def impl_CanAdd.l0 : Nat → List Int → Int → List Int → Int → Option (List Int)
 | 0, _, _, _, _ => none
 | k + 1, l, n, out, a => (impl_fullSet.f n).bind fun m => if a ≤ m then ((slices_Contains_int_int.f k l a).bind fun c => if c = true then impl_CanAdd.l0 k l n out (wrap64 (a + 1)) else ((anyNot k a l).bind fun d => if d = true then impl_CanAdd.l0 k l n out (wrap64 (a + 1)) else (if out.length < 17592186044416 then impl_CanAdd.l0 k l n (out ++ [a]) (wrap64 (a + 1)) else none))) else some out
def impl_CanAdd.f (k : Nat) (l : List Int) (n : Int) : Option (List Int) := (impl_AllApart.f k l).bind fun t => if t = true then ((impl_isWires.f n).bind fun u => if u = true then impl_CanAdd.l0 k l n [] 0 else some []) else some []
theorem impl_CanAdd.mono_l : ∀ k l n out a, LeO (impl_CanAdd.l0 k l n out a) (impl_CanAdd.l0 (k + 1) l n out a)
 | 0, _, _, _, _ => fun r h => by simp [impl_CanAdd.l0] at h
 | k + 1, l, n, out, a => by
  unfold impl_CanAdd.l0
  exact LeO.bind (LeO.refl _) (fun _ => LeO.ite (LeO.bind (slices_Contains_int_int.mono l a k) (fun _ => LeO.ite (impl_CanAdd.mono_l k _ _ _ _) (LeO.bind (anyNot_mono k a l) (fun _ => LeO.ite (impl_CanAdd.mono_l k _ _ _ _) (LeO.ite (impl_CanAdd.mono_l k _ _ _ _) (LeO.refl _)))))) (LeO.refl _))
theorem impl_CanAdd.mono : ∀ a0 a1 k, LeO (impl_CanAdd.f k a0 a1) (impl_CanAdd.f (k + 1) a0 a1) := fun a0 a1 k =>
 LeO.bind (impl_AllApart.mono a0 k) (fun _ => LeO.ite (LeO.bind (LeO.refl _) (fun _ => LeO.ite (impl_CanAdd.mono_l k _ _ _ _) (LeO.refl _))) (LeO.refl _))

def impl_CanAdd.T5 : Bool × List (List Nat × List Nat) := (true, [([], []), ([], []), ([1], [1]), ([0, 2], [0, 2])])
theorem impl_CanAdd.tab5 : rtab .any (opsOf Try.f44 5) = impl_CanAdd.T5 := by kernel_rfl
set_option maxHeartbeats 8000000 in
set_option maxRecDepth 100000 in
theorem impl_CanAdd.calls (k : Nat) (A0 : Option Addr) (c0 : Nat) (l0 : List Int) (a1 : Int) (r : List Int) (w : World) (hr0 : Kd.C (Kd.int .i64) w A0 l0.length l0) (hc0 : l0.length ≤ c0) (h : impl_CanAdd.f k l0 a1 = some r) :
  Calls Try.prog 44 #[.slice A0 l0.length c0, .int .i64 a1] w fun e w' => ∃ v0_ : Value, e = .returned (v0_) ∧ Kd.R (Kd.int .i64) 3 w' w.heap.size (fun _ => True) v0_ r ∧ Below w.heap.size w w' := by
 have eg : ∀ (args : Array Value) (w : World), (callFunc 89 args).run Try.prog w = .ok (.enter 89 args) w := enters_of Try.func89 (by kernel_rfl) rfl
 have HR := Aside0.mk hr0
 have HC := Aside0.mk hc0
 have HB := Aside0.mk (Below.refl w.heap.size w)
 have h_ := Option.bind_eq_some_iff.mp h
 clear h
 obtain ⟨t, ht, h⟩ := h_
 have HT := Aside0.mk ht
 clear hr0 hc0 ht
 cases t with
 | false =>
  obtain rfl : ([] : List Int) = r := by simpa using h
  clear h
  go_enter Try.func44, Try.ntmps44
  go_wp2_with (first | (go_at_call 84; (with_reducible refine (impl_AllApart.calls k _ _ l0 false _ ?side1 ?side2 HT.out).mono ?_); (case side1 => repeat (first | exact (Kd.C_below HR.out HB.out) | (with_reducible refine Kd.C_alloc ?_ _) | (with_reducible refine Kd.C_drewN ?_ _) | (with_reducible refine Kd.C_drew ?_))); (case side2 => exact HC.out); rintro e w10 ⟨rfl, hb⟩; have n2_ := Aside0.mk (below_step HB.out hb); clear HB; have HB := n2_; clear n2_ hb))
  go_ret
  exact ⟨_, rfl, Kd.R_nil _ _ _ _ _, by repeat (first | (with_reducible first | exact HB.out | apply below_alloc | apply pw_below_drewN | apply below_drew1) | exact HB.out)⟩
 | true =>
  have h_ : (impl_isWires.f a1).bind (fun u => if u = true then impl_CanAdd.l0 k l0 a1 [] 0 else some []) = some r := by simpa using h
  clear h
  have h2_ := Option.bind_eq_some_iff.mp h_
  clear h_
  obtain ⟨u, hu, h⟩ := h2_
  have HU := Aside0.mk hu
  clear hu
  cases u with
  | false =>
   obtain rfl : ([] : List Int) = r := by simpa using h
   clear h
   go_enter Try.func44, Try.ntmps44
   go_wp2_with (first | (go_at_call 84; (with_reducible refine (impl_AllApart.calls k _ _ l0 true _ ?side1 ?side2 HT.out).mono ?_); (case side1 => repeat (first | exact (Kd.C_below HR.out HB.out) | (with_reducible refine Kd.C_alloc ?_ _) | (with_reducible refine Kd.C_drewN ?_ _) | (with_reducible refine Kd.C_drew ?_))); (case side2 => exact HC.out); rintro e w10 ⟨rfl, hb⟩; have n2_ := Aside0.mk (below_step HB.out hb); clear HB; have HB := n2_; clear n2_ hb) | (go_at_call 85; (with_reducible refine (impl_isWires.calls a1 false _ HU.out).mono ?_); rintro e w11 ⟨rfl, ⟨nd, rfl⟩⟩))
   go_ret
   exact ⟨_, rfl, Kd.R_nil _ _ _ _ _, by repeat (first | (with_reducible first | exact HB.out | apply below_alloc | apply pw_below_drewN | apply below_drew1) | exact HB.out)⟩
  | true =>
   have H' := Aside0.mk (show impl_CanAdd.l0 k l0 a1 [] 0 = some r by simpa using h)
   clear h
   go_enter Try.func44, Try.ntmps44
   go_wp2_with (first | (go_at_call 84; (with_reducible refine (impl_AllApart.calls k _ _ l0 true _ ?side1 ?side2 HT.out).mono ?_); (case side1 => repeat (first | exact (Kd.C_below HR.out HB.out) | (with_reducible refine Kd.C_alloc ?_ _) | (with_reducible refine Kd.C_drewN ?_ _) | (with_reducible refine Kd.C_drew ?_))); (case side2 => exact HC.out); rintro e w10 ⟨rfl, hb⟩; have n2_ := Aside0.mk (below_step HB.out hb); clear HB; have HB := n2_; clear n2_ hb) | (go_at_call 85; (with_reducible refine (impl_isWires.calls a1 true _ HU.out).mono ?_); rintro e w11 ⟨rfl, ⟨nd, rfl⟩⟩) | ((with_reducible refine gate_dst (N := 6) rfl ?_); refine box_event ?hg (N := 6) ?hd (cs := #[.int .i64 0]) (t := 3) ?hr ?_; (case hd => rfl); (case hg => rfl); (case hr => first | (go_simp; done) | (go_simp; rfl)); intro gb101 hg w2 hbox hb; have n0_ := Aside0.mk (below_step (by repeat (first | (with_reducible first | exact HB.out | apply below_alloc | apply pw_below_drewN | apply below_drew1) | exact HB.out)) hb); have n1_ := Aside0.mk (hbox); have n2_ := Aside0.mk ((by rw [hg]; exact (below_size (by repeat (first | (with_reducible first | exact HB.out | apply below_alloc | apply pw_below_drewN | apply below_drew1) | exact HB.out))) : w.heap.size ≤ gb101)); clear HB; have HB := n0_; have BK101 := n1_; have GE101 := n2_; clear n0_ n1_ n2_; clear hb hbox hg; have hcz1 : w2.cell? ⟨gb101, 0, none⟩ = some (.int .i64 0) := (blk_cell BK101.out 0).trans rfl; have hfz1 := blk_frozen BK101.out 0))
   go_loopg [5, 6] k (fun kq v5 v6 w' => ∃ (out : List Int) (a : Int) (g : Nat), v6 = .pointer (some ⟨g, 0, none⟩) ∧ Aside0 (impl_CanAdd.l0 kq l0 a1 out a = some r) ∧ Aside0 (kq ≤ k) ∧ Aside0 (w'.heap[g]? = some (.cells #[.int .i64 a] 3 (0, 0))) ∧ Aside0 (w.heap.size ≤ g) ∧ Aside0 (Kd.R (Kd.int .i64) 3 w' w.heap.size (fun k_ => k_ ≠ g) v5 out) ∧ Aside0 (Below w.heap.size w w'))
   case atStart => exact ⟨[], 0, gb101, rfl, H', ⟨Nat.le_refl _⟩, ⟨blk_put (cs := #[.int .i64 0]) BK101.out 0 _ rfl⟩, GE101, ⟨Kd.R_nil _ _ _ _ _⟩, ⟨below_set HB.out GE101.out⟩⟩
   case round =>
    clear H' BK101 GE101 hcz1 hfz1 HB
    obtain ⟨out, a, g, rfl, HA, HK1, BK, GE, HO, HB⟩ := hrel
    cases gk with
    | zero => exact absurd HA.out (by simp [impl_CanAdd.l0])
    | succ k1 =>
     have H := HA.out
     clear HA
     simp only [impl_CanAdd.l0] at H
     have H_ := Option.bind_eq_some_iff.mp H
     clear H
     obtain ⟨m, hm, H⟩ := H_
     have HM := Aside0.mk hm
     have HH := Aside0.mk H
     clear hm H
     have BKd := Aside0.mk (blk_drew BK.out)
     have HOd := Aside0.mk (Kd.R_drew HO.out)
     have HBd := Aside0.mk (below_drew1 HB.out)
     clear BK HO HB
     have BK := BKd
     have HO := HOd
     have HB := HBd
     clear BKd HOd HBd
     go_wp2_with fail
     refine start_ (n := 4) (S := fun w' => w'.cell? ⟨g, 0, none⟩ = some (.int .i64 a)) (ds := []) (bm 4 0) (by kernel_rfl) rfl rfl ((blk_cell BK.out 0).trans rfl) (fun hHeld => ?_); refine with_tab impl_CanAdd.tab5 (fun HT_ => ?_)
     generalize wr.drew = w26 at BK HO HB hHeld ⊢
     refine plan_ ((0, 1, 16, 2) :: (2, 0, 15, 3) :: []) ?_
     iterate 2 (first | (refine planV_ ?_ ?_ rfl rfl (any_of HT_.out (by kernel_rfl)) (fun _ _ _ h => h) (Or.inl ⟨by rfl, ?_⟩) ?_ ?_; rotate_left 2; (· intro w'; go_simp; with_reducible rfl); (· simp only [Act.put, List.setIfInBounds_toArray, List.set_cons_zero, List.set_cons_succ, i64_w, i32_w]; rfl)) | (refine planT_ ?_ ?_ rfl rfl (take_of HT_.out (by kernel_rfl)) (fun _ _ _ h => h) (Or.inl ⟨by rfl, ?_⟩) hHeld ?_ ?_; rotate_left 2; (· intro w' s0; go_simp; with_reducible rfl); (· simp only [Act.put, List.setIfInBounds_toArray, List.set_cons_zero, List.set_cons_succ, i64_w, i32_w]; rfl)))
     refine planEnd_ ?_
     refine one_ (i := 2) (N := some 17) (bm 4 7) rfl rfl (one_of HT_.out (by kernel_rfl)) (by decide) (fun K hK => ?_)
     refine goes_ Try.func86 (by kernel_rfl) rfl #[.int .i64 a1] (by rfl) rfl rfl (by (try simp only [List.map_toArray, List.map_cons, List.map_nil]); first | done | rfl) ?_
     with_reducible refine (impl_fullSet.calls a1 m _ HM.out).mono ?_
     rintro e w' ⟨rfl, ⟨nd, rfl⟩⟩
     refine ⟨_, rfl, ?_⟩
     have BKd := Aside0.mk (blk_drewN BK.out nd)
     have HOd := Aside0.mk (Kd.R_drewN HO.out nd)
     have HBd : Aside0 (Below w.heap.size w (w26.drewN nd)) := ⟨pw_below_drewN HB.out nd⟩
     refine hK.out _ _ ((blk_cell BKd.out 0).trans rfl) (fun hHeld => ?_)
     clear hK K BK HO HB
     have BK := BKd
     have HO := HOd
     have HB := HBd
     clear BKd HOd HBd
     refine norm_ (a' := ?_) ?_ ?_
     rotate_left
     ·show Act.put _ (some 17) _ = _
      simp only [Act.put, List.setIfInBounds_toArray, List.set_cons_zero, List.set_cons_succ, i64_w, i32_w]
      rfl
     generalize w26.drewN nd = w27 at BK HO HB hHeld ⊢
     refine plan_ ((0, 3, 18, 15) :: []) ?_
     iterate 1 (refine planV_ ?_ ?_ rfl rfl (any_of HT_.out (by kernel_rfl)) (fun _ _ _ h => h) (Or.inl ⟨by rfl, ?_⟩) ?_ ?_; rotate_left 2; (· intro w'; go_simp; with_reducible rfl); (· simp only [Act.put, List.setIfInBounds_toArray, List.set_cons_zero, List.set_cons_succ, i64_w, i32_w]; rfl))
     refine planEnd_ ?_
     refine done_ (done_of HT_.out (by kernel_rfl)) ?_
     by_cases hle : a ≤ m
     ·clear HT_ hHeld
      have hd : decide (a ≤ m) = true := decide_eq_true hle
      obtain ⟨c, hct, H⟩ := Option.bind_eq_some_iff.mp (show (slices_Contains_int_int.f k1 l0 a).bind _ = some r by have := HH.out; rw [if_pos hle] at this; exact this)
      have HCT := Aside0.mk hct
      clear hct HH hle
      rw [hd]
      have hcz1 : w27.cell? ⟨g, 0, none⟩ = some (.int .i64 a) := (blk_cell BK.out 0).trans rfl
      cases c with
      | true =>
       have HN := Aside0.mk (show impl_CanAdd.l0 k1 l0 a1 out (wrap64 (a + 1)) = some r by simpa using H)
       clear H
       go_wp2_with (first | (go_at_call 87; (with_reducible refine (slices_Contains_int_int.calls k1 _ _ l0 a true _ ?side1 ?side2 HCT.out).mono ?_); (case side1 => exact Kd.C_below HR.out HB.out); (case side2 => exact HC.out); rintro e w' ⟨rfl, ⟨nd, rfl⟩⟩) | ((with_reducible refine gate_dst (N := 6) rfl ?_); refine box_event ?hg (N := 6) ?hd (cs := #[.int .i64 0]) (t := 3) ?hr ?_; (case hd => rfl); (case hg => rfl); (case hr => first | (go_simp; done) | (go_simp; rfl)); intro g2 hg w40 hbox hb; have n0_ := Aside0.mk (below_step (show Below w.heap.size w (w27.drewN nd) from pw_below_drewN HB.out nd) hb); have n1_ := Aside0.mk (hbox); have n2_ := Aside0.mk ((by rw [hg]; exact (below_size (show Below w.heap.size w (w27.drewN nd) from pw_below_drewN HB.out nd)) : w.heap.size ≤ g2)); have n3_ := Aside0.mk (Kd.R_elderB (show Kd.R (Kd.int .i64) 3 (w27.drewN nd) w.heap.size (fun k_ => k_ ≠ g) u5 out from Kd.R_drewN HO.out nd) g2 (by rw [hg]; exact Nat.le_refl _)); have n4_ := Aside0.mk (Kd.R_below n3_.out hb); clear HB HO BK n3_; have HB := n0_; have BK2 := n1_; have GE2 := n2_; have HO := n4_; clear n0_ n1_ n2_ n4_; clear hb hbox hg; have hcz2 : w40.cell? ⟨g2, 0, none⟩ = some (.int .i64 0) := (blk_cell BK2.out 0).trans rfl; have hfz2 := blk_frozen BK2.out 0))
       go_roundg k1
       case measure => omega
       case rel => exact ⟨out, wrap64 (a + 1), g2, rfl, HN, ⟨by have := HK1.out; omega⟩, ⟨blk_put (cs := #[.int .i64 a]) (blk_put (cs := #[.int .i64 0]) BK2.out 0 _ rfl) 0 _ rfl⟩, GE2, ⟨Kd.R_mono (Kd.R_far (p := ⟨g2, 0, none⟩) (Kd.R_far (p := ⟨g2, 0, none⟩) HO.out (fun k hk => hk.2) _) (fun k hk => hk.2) _) (fun k hk => hk.2)⟩, ⟨below_set (below_set HB.out GE2.out) GE2.out⟩⟩
      | false =>
       have H_ := Option.bind_eq_some_iff.mp (show (anyNot k1 a l0).bind (fun d => if d = true then impl_CanAdd.l0 k1 l0 a1 out (wrap64 (a + 1)) else (if out.length < 17592186044416 then impl_CanAdd.l0 k1 l0 a1 (out ++ [a]) (wrap64 (a + 1)) else none)) = some r by simpa using H)
       clear H
       obtain ⟨d, hdd, H⟩ := H_
       obtain ⟨hall, hdv⟩ := anyNot_is k1 a l0 d hdd
       have HD := Aside0.mk hdv.symm
       have HP : Aside0 (∀ nd, PredInt 89 #[.pointer (some ⟨g, 0, none⟩)] (fun b => !((impl_AreApart.f k1 a b).getD false)) l0 (w27.drewN nd)) := ⟨fun nd W x hx hb => CanAdd_lit k1 a x _ g W (pw_cell_below hb ((blk_cell (blk_drewN BK.out nd) 0).trans rfl)) (hall x hx)⟩
       clear hall hdv hdd
       cases d with
       | true =>
        have HN := Aside0.mk (show impl_CanAdd.l0 k1 l0 a1 out (wrap64 (a + 1)) = some r by simpa using H)
        clear H
        go_wp2_with (first | (go_at_call 87; (with_reducible refine (slices_Contains_int_int.calls k1 _ _ l0 a false _ ?side1 ?side2 HCT.out).mono ?_); (case side1 => exact Kd.C_below HR.out HB.out); (case side2 => exact HC.out); rintro e w' ⟨rfl, ⟨nd, rfl⟩⟩) | (go_at_call 88; (with_reducible refine (containsInt_calls 89 #[.pointer (some ⟨g, 0, none⟩)] eg (fun b => !((impl_AreApart.f k1 a b).getD false)) A0 c0 l0 _ ?side1 HC.out ?side2).mono ?_); (case side1 => exact Kd.C_below HR.out (pw_below_drewN HB.out nd)); (case side2 => exact HP.out nd); rintro e w38 ⟨rfl, hb⟩; rw [HD.out]; have n0_ := Aside0.mk (below_step (show Below w.heap.size w (w27.drewN nd) from pw_below_drewN HB.out nd) hb); have n1_ := Aside0.mk (Kd.R_below (Kd.R_drewN HO.out nd) hb); have n2_ := Aside0.mk (blk_below (blk_drewN BK.out nd) hb); clear HB HO BK hb; have HB := n0_; have HO := n1_; have BK := n2_; clear n0_ n1_ n2_; clear hcz1; have hcz3 : w38.cell? ⟨g, 0, none⟩ = some (.int .i64 a) := (blk_cell BK.out 0).trans rfl) | ((with_reducible refine gate_dst (N := 6) rfl ?_); refine box_event ?hg (N := 6) ?hd (cs := #[.int .i64 0]) (t := 3) ?hr ?_; (case hd => rfl); (case hg => rfl); (case hr => first | (go_simp; done) | (go_simp; rfl)); intro g2 hg w40 hbox hb; have n0_ := Aside0.mk (below_step (show Below w.heap.size w w38 from HB.out) hb); have n1_ := Aside0.mk (hbox); have n2_ := Aside0.mk ((by rw [hg]; exact (below_size (show Below w.heap.size w w38 from HB.out)) : w.heap.size ≤ g2)); have n3_ := Aside0.mk (Kd.R_elderB (show Kd.R (Kd.int .i64) 3 w38 w.heap.size (fun k_ => k_ ≠ g) u5 out from HO.out) g2 (by rw [hg]; exact Nat.le_refl _)); have n4_ := Aside0.mk (Kd.R_below n3_.out hb); clear HB HO BK n3_; have HB := n0_; have BK2 := n1_; have GE2 := n2_; have HO := n4_; clear n0_ n1_ n2_ n4_; clear hb hbox hg; have hcz2 : w40.cell? ⟨g2, 0, none⟩ = some (.int .i64 0) := (blk_cell BK2.out 0).trans rfl; have hfz2 := blk_frozen BK2.out 0))
        go_roundg k1
        case measure => omega
        case rel => exact ⟨out, wrap64 (a + 1), g2, rfl, HN, ⟨by have := HK1.out; omega⟩, ⟨blk_put (cs := #[.int .i64 a]) (blk_put (cs := #[.int .i64 0]) BK2.out 0 _ rfl) 0 _ rfl⟩, GE2, ⟨Kd.R_mono (Kd.R_far (p := ⟨g2, 0, none⟩) (Kd.R_far (p := ⟨g2, 0, none⟩) HO.out (fun k hk => hk.2) _) (fun k hk => hk.2) _) (fun k hk => hk.2)⟩, ⟨below_set (below_set HB.out GE2.out) GE2.out⟩⟩
       | false =>
        by_cases hlen : out.length < 17592186044416
        ·have HN := Aside0.mk (show impl_CanAdd.l0 k1 l0 a1 (out ++ [a]) (wrap64 (a + 1)) = some r by simpa [hlen] using H)
         have HLL := Aside0.mk hlen
         clear H hlen
         go_wp2_with (first | (go_at_call 87; (with_reducible refine (slices_Contains_int_int.calls k1 _ _ l0 a false _ ?side1 ?side2 HCT.out).mono ?_); (case side1 => exact Kd.C_below HR.out HB.out); (case side2 => exact HC.out); rintro e w' ⟨rfl, ⟨nd, rfl⟩⟩) | (go_at_call 88; (with_reducible refine (containsInt_calls 89 #[.pointer (some ⟨g, 0, none⟩)] eg (fun b => !((impl_AreApart.f k1 a b).getD false)) A0 c0 l0 _ ?side1 HC.out ?side2).mono ?_); (case side1 => exact Kd.C_below HR.out (pw_below_drewN HB.out nd)); (case side2 => exact HP.out nd); rintro e w38 ⟨rfl, hb⟩; rw [HD.out]; have n0_ := Aside0.mk (below_step (show Below w.heap.size w (w27.drewN nd) from pw_below_drewN HB.out nd) hb); have n1_ := Aside0.mk (Kd.R_below (Kd.R_drewN HO.out nd) hb); have n2_ := Aside0.mk (blk_below (blk_drewN BK.out nd) hb); clear HB HO BK hb; have HB := n0_; have HO := n1_; have BK := n2_; clear n0_ n1_ n2_; clear hcz1; have hcz3 : w38.cell? ⟨g, 0, none⟩ = some (.int .i64 a) := (blk_cell BK.out 0).trans rfl) | ((with_reducible refine gate_builtin (b := .append) (xs := #[.tmp 31, .tmp 33]) rfl ?_); at_builtin; refine Kd.R_append (Kd.int .i64) (w0 := w) w.heap.size rfl (.tmp 31) (.tmp 33) 33 3 (.int .i64 0) 8 rfl Try.underlying33 info3 rfl (by decide) (by omega) u5 out a [.int .i64 a] (fun k_ => k_ ≠ g) (fun _ => False) rfl rfl ?aP (fun _ hk => hk.elim) ?aF ?aO ?aB ?aS ?aL ?_; (case aP => exact rfl); (case aB => exact HB.out); (case aF => exact Kd.freshB BK.out); (case aO => exact HO.out); (case aS => exact below_size HB.out); (case aL => have := HLL.out; omega); intro v110 w21 ho hb hg hat; have n0_ := Aside0.mk hb; have n1_ := Aside0.mk ho; have n2_ := Aside0.mk (blk_grown BK.out hg (Kd.R_away HO.out (fun k hk => hk))); clear HB HO BK hcz3; have HB := n0_; have HO := n1_; have BK := n2_; clear n0_ n1_ n2_; clear ho hb hg hat; have hcz4 : w21.cell? ⟨g, 0, none⟩ = some (.int .i64 a) := (blk_cell BK.out 0).trans rfl) | ((with_reducible refine gate_dst (N := 6) rfl ?_); refine box_event ?hg (N := 6) ?hd (cs := #[.int .i64 0]) (t := 3) ?hr ?_; (case hd => rfl); (case hg => rfl); (case hr => first | (go_simp; done) | (go_simp; rfl)); intro g2 hg w40 hbox hb; have n0_ := Aside0.mk (below_step (show Below w.heap.size w w21 from HB.out) hb); have n1_ := Aside0.mk (hbox); have n2_ := Aside0.mk ((by rw [hg]; exact (below_size (show Below w.heap.size w w21 from HB.out)) : w.heap.size ≤ g2)); have n3_ := Aside0.mk (Kd.R_elderB (show Kd.R (Kd.int .i64) 3 w21 w.heap.size (fun k_ => k_ ≠ g) v110 (out ++ [a]) from HO.out) g2 (by rw [hg]; exact Nat.le_refl _)); have n4_ := Aside0.mk (Kd.R_below n3_.out hb); clear HB HO BK n3_; have HB := n0_; have BK2 := n1_; have GE2 := n2_; have HO := n4_; clear n0_ n1_ n2_ n4_; clear hb hbox hg; have hcz2 : w40.cell? ⟨g2, 0, none⟩ = some (.int .i64 0) := (blk_cell BK2.out 0).trans rfl; have hfz2 := blk_frozen BK2.out 0))
         go_roundg k1
         case measure => omega
         case rel => exact ⟨(out ++ [a]), wrap64 (a + 1), g2, rfl, HN, ⟨by have := HK1.out; omega⟩, ⟨blk_put (cs := #[.int .i64 a]) (blk_put (cs := #[.int .i64 0]) BK2.out 0 _ rfl) 0 _ rfl⟩, GE2, ⟨Kd.R_mono (Kd.R_far (p := ⟨g2, 0, none⟩) (Kd.R_far (p := ⟨g2, 0, none⟩) HO.out (fun k hk => hk.2) _) (fun k hk => hk.2) _) (fun k hk => hk.2)⟩, ⟨below_set (below_set HB.out GE2.out) GE2.out⟩⟩
        ·exact absurd (show (none : Option (List Int)) = some r by simp [hlen] at H) (by simp)
     ·have hd : decide (a ≤ m) = false := decide_eq_false hle
      have hr : out = r := by have := HH.out; rw [if_neg hle] at this; exact Option.some.inj this
      subst hr
      clear hle HH
      rw [hd]
      go_wp2
      go_ret
      exact ⟨_, rfl, Kd.R_mono HO.out (fun _ _ => trivial), HB.out⟩

end Go.Proofs.Ytijgjpfbhbggdaa.P

namespace Go.Proofs.Ytijgjpfbhbggdaa.P
open Go.RowKit Go.Proofs.YtijgjpfbhbggdaaW.PrintWords Go.Proofs.YtijgjpfbhbggdaaW.PrintLast Go.Proofs.YtijgjpfbhbggdaaW.PrintMore
attribute [local go_sem] max2_int min2_int max_two min_two max_three min_three max_four min_four   -- for this text's walks alone
set_option linter.unusedVariables false
set_option linter.unusedSimpArgs false

/-! ### laws_FnExactCanAdd: function 11 -/
def laws_FnExactCanAdd.j0 : Nat → List Int → Int → List Int → List Int → Bool → Option (Bool)
 | 0, _, _, _, _, _ => none
 | k + 1, x0, x1, x5, x7, x43 => if x43 = true then (some false) else ((laws_markIntS.f k x7 1).bind fun bt121 => ((laws_heldIntS.f k bt121.2 1).bind fun t123 => (if t123 < 0 then (some false) else (if t123 = bt121.1 then ((laws_toIntS.f k x0).bind fun t124 => ((impl_CanAdd.f k t124 x1).bind fun t127 => ((laws_eqIntS.f k t127 x5).bind fun t130 => (if t130 = true then ((laws_heldIntS.f k bt121.2 1).bind fun t131 => (if t131 < 0 then (some false) else (if t131 = bt121.1 then (some true) else (some false)))) else (some false))))) else (some false)))))
def laws_FnExactCanAdd.f (k : Nat) (l0 : List Int) (a1 : Int) : Option (Bool) := if (l0.length : Int) > 1048576 then (some true) else ((laws_toIntS.f k l0).bind fun t101 => ((spec_CanAdd.f k t101 a1).bind fun t104 => ((laws_toIntS.f k l0).bind fun t107 => ((impl_CanAdd.f k t107 a1).bind fun t110 => ((laws_eqIntS.f k t110 t104).bind fun t113 => (if t113 = true then ((laws_toIntS.f k l0).bind fun t114 => ((laws_eqIntS.f k t107 t114).bind fun t117 => (if t117 = true then ((laws_markIntS.f k t107 1).bind fun bt118 => (if bt118.1 < 0 then (laws_FnExactCanAdd.j0 k l0 a1 t104 t110 true) else ((laws_eqIntS.f k t110 t104).bind fun t120 => (laws_FnExactCanAdd.j0 k l0 a1 t104 t110 (!t120))))) else (some false)))) else (some false)))))))
theorem laws_FnExactCanAdd.mono_l : ∀ k, (∀ y0 y1 y2 y3 y4, LeO (laws_FnExactCanAdd.j0 k y0 y1 y2 y3 y4) (laws_FnExactCanAdd.j0 (k + 1) y0 y1 y2 y3 y4))
 | 0 => fun _ _ _ _ _ r h => by simp [laws_FnExactCanAdd.j0] at h
 | k + 1 => by
  have ih0 := laws_FnExactCanAdd.mono_l k
  ·intro y0 y1 y2 y3 y4
   unfold laws_FnExactCanAdd.j0
   repeat' first
   | (with_reducible exact ih0 _ _ _ _ _)
   | (with_reducible exact impl_CanAdd.mono _ _ _)
   | (with_reducible exact laws_eqIntS.mono _ _ _)
   | (with_reducible exact laws_heldIntS.mono _ _ _)
   | (with_reducible exact laws_markIntS.mono _ _ _)
   | (with_reducible exact laws_toIntS.mono _ _)
   | (with_reducible exact spec_CanAdd.mono _ _ _)
   | (with_reducible exact LeO.refl _)
   | (with_reducible exact LeO.none _)
   | (with_reducible refine LeO.ite ?_ ?_)
   | (with_reducible refine LeO.bind ?_ (fun _ => ?_))
   | exact ih0 _ _ _ _ _
   | exact impl_CanAdd.mono _ _ _
   | exact laws_eqIntS.mono _ _ _
   | exact laws_heldIntS.mono _ _ _
   | exact laws_markIntS.mono _ _ _
   | exact laws_toIntS.mono _ _
   | exact spec_CanAdd.mono _ _ _
   | exact LeO.none _
   | refine LeO.ite ?_ ?_
   | refine LeO.bind ?_ (fun _ => ?_)
theorem laws_FnExactCanAdd.mono : ∀ a0 a1 k, LeO (laws_FnExactCanAdd.f k a0 a1) (laws_FnExactCanAdd.f (k + 1) a0 a1) := by
 intro a0 a1 k
 have ih0 := laws_FnExactCanAdd.mono_l k
 unfold laws_FnExactCanAdd.f
 repeat' first
   | (with_reducible exact ih0 _ _ _ _ _)
   | (with_reducible exact impl_CanAdd.mono _ _ _)
   | (with_reducible exact laws_eqIntS.mono _ _ _)
   | (with_reducible exact laws_heldIntS.mono _ _ _)
   | (with_reducible exact laws_markIntS.mono _ _ _)
   | (with_reducible exact laws_toIntS.mono _ _)
   | (with_reducible exact spec_CanAdd.mono _ _ _)
   | (with_reducible exact LeO.refl _)
   | (with_reducible exact LeO.none _)
   | (with_reducible refine LeO.ite ?_ ?_)
   | (with_reducible refine LeO.bind ?_ (fun _ => ?_))
   | exact ih0 _ _ _ _ _
   | exact impl_CanAdd.mono _ _ _
   | exact laws_eqIntS.mono _ _ _
   | exact laws_heldIntS.mono _ _ _
   | exact laws_markIntS.mono _ _ _
   | exact laws_toIntS.mono _ _
   | exact spec_CanAdd.mono _ _ _
   | exact LeO.none _
   | refine LeO.ite ?_ ?_
   | refine LeO.bind ?_ (fun _ => ?_)
set_option maxHeartbeats 8000000 in
set_option maxRecDepth 100000 in
theorem laws_FnExactCanAdd.calls (k : Nat) (A0 : Option Addr) (c0 : Nat) (l0 : List Int) (a1 : Int) (r : Bool) (w : World) (hr0 : Kd.C (Kd.int .i64) w A0 l0.length l0) (hc0 : l0.length ≤ c0) (h : laws_FnExactCanAdd.f k l0 a1 = some true) :
  Calls Try.prog 11 #[.slice A0 l0.length c0, .int .i64 a1] w fun e w' => e = .returned (.bool true) ∧ Below w.heap.size w w' := by
 have HR0 := Aside0.mk hr0
 have HC0 := Aside0.mk hc0
 clear hr0 hc0
 have HB := Aside0.mk (Below.refl w.heap.size w)
 have H : (if (l0.length : Int) > 1048576 then (some true) else ((laws_toIntS.f k l0).bind fun t101 => ((spec_CanAdd.f k t101 a1).bind fun t104 => ((laws_toIntS.f k l0).bind fun t107 => ((impl_CanAdd.f k t107 a1).bind fun t110 => ((laws_eqIntS.f k t110 t104).bind fun t113 => (if t113 = true then ((laws_toIntS.f k l0).bind fun t114 => ((laws_eqIntS.f k t107 t114).bind fun t117 => (if t117 = true then ((laws_markIntS.f k t107 1).bind fun bt118 => (if bt118.1 < 0 then (laws_FnExactCanAdd.j0 k l0 a1 t104 t110 true) else ((laws_eqIntS.f k t110 t104).bind fun t120 => (laws_FnExactCanAdd.j0 k l0 a1 t104 t110 (!t120))))) else (some false)))) else (some false)))))))) = some true := h
 clear h
 by_cases c3 : (l0.length : Int) > 1048576
 ·rw [if_pos c3] at H
  have c3b0 : decide (1048576 < (l0.length : Int)) = true := decide_eq_true c3
  have c3b1 : decide (1048576 < l0.length) = true := decide_eq_true (by omega)
  clear c3
  clear H
  go_enter Try.func11, Try.ntmps11
  go_wp2
  go_ret
  exact ⟨by first | rfl | (simp [errW_none, errW_some] <;> rfl) | (simp [*, errW_none, errW_some] <;> rfl), by repeat (first | (with_reducible first | exact HB.out | apply below_alloc | apply pw_below_drewN | apply below_drew1) | exact HB.out)⟩
 ·rw [if_neg c3] at H
  have c3b0 : decide (1048576 < (l0.length : Int)) = false := decide_eq_false c3
  have c3b1 : decide (1048576 < l0.length) = false := decide_eq_false (by omega)
  clear c3
  replace H := Option.bind_eq_some_iff.mp H
  obtain ⟨t101, A40, H⟩ := H
  replace H : ((spec_CanAdd.f k t101 a1).bind fun t104 => ((laws_toIntS.f k l0).bind fun t107 => ((impl_CanAdd.f k t107 a1).bind fun t110 => ((laws_eqIntS.f k t110 t104).bind fun t113 => (if t113 = true then ((laws_toIntS.f k l0).bind fun t114 => ((laws_eqIntS.f k t107 t114).bind fun t117 => (if t117 = true then ((laws_markIntS.f k t107 1).bind fun bt118 => (if bt118.1 < 0 then (laws_FnExactCanAdd.j0 k l0 a1 t104 t110 true) else ((laws_eqIntS.f k t110 t104).bind fun t120 => (laws_FnExactCanAdd.j0 k l0 a1 t104 t110 (!t120))))) else (some false)))) else (some false)))))) = some true := H
  have A4 := Aside0.mk A40
  clear A40
  replace H := Option.bind_eq_some_iff.mp H
  obtain ⟨t104, A50, H⟩ := H
  replace H : ((laws_toIntS.f k l0).bind fun t107 => ((impl_CanAdd.f k t107 a1).bind fun t110 => ((laws_eqIntS.f k t110 t104).bind fun t113 => (if t113 = true then ((laws_toIntS.f k l0).bind fun t114 => ((laws_eqIntS.f k t107 t114).bind fun t117 => (if t117 = true then ((laws_markIntS.f k t107 1).bind fun bt118 => (if bt118.1 < 0 then (laws_FnExactCanAdd.j0 k l0 a1 t104 t110 true) else ((laws_eqIntS.f k t110 t104).bind fun t120 => (laws_FnExactCanAdd.j0 k l0 a1 t104 t110 (!t120))))) else (some false)))) else (some false))))) = some true := H
  have A5 := Aside0.mk A50
  clear A50
  replace H := Option.bind_eq_some_iff.mp H
  obtain ⟨t107, A60, H⟩ := H
  replace H : ((impl_CanAdd.f k t107 a1).bind fun t110 => ((laws_eqIntS.f k t110 t104).bind fun t113 => (if t113 = true then ((laws_toIntS.f k l0).bind fun t114 => ((laws_eqIntS.f k t107 t114).bind fun t117 => (if t117 = true then ((laws_markIntS.f k t107 1).bind fun bt118 => (if bt118.1 < 0 then (laws_FnExactCanAdd.j0 k l0 a1 t104 t110 true) else ((laws_eqIntS.f k t110 t104).bind fun t120 => (laws_FnExactCanAdd.j0 k l0 a1 t104 t110 (!t120))))) else (some false)))) else (some false)))) = some true := H
  have A6 := Aside0.mk A60
  clear A60
  replace H := Option.bind_eq_some_iff.mp H
  obtain ⟨t110, A70, H⟩ := H
  replace H : ((laws_eqIntS.f k t110 t104).bind fun t113 => (if t113 = true then ((laws_toIntS.f k l0).bind fun t114 => ((laws_eqIntS.f k t107 t114).bind fun t117 => (if t117 = true then ((laws_markIntS.f k t107 1).bind fun bt118 => (if bt118.1 < 0 then (laws_FnExactCanAdd.j0 k l0 a1 t104 t110 true) else ((laws_eqIntS.f k t110 t104).bind fun t120 => (laws_FnExactCanAdd.j0 k l0 a1 t104 t110 (!t120))))) else (some false)))) else (some false))) = some true := H
  have A7 := Aside0.mk A70
  clear A70
  replace H := Option.bind_eq_some_iff.mp H
  obtain ⟨t113, A80, H⟩ := H
  replace H : (if t113 = true then ((laws_toIntS.f k l0).bind fun t114 => ((laws_eqIntS.f k t107 t114).bind fun t117 => (if t117 = true then ((laws_markIntS.f k t107 1).bind fun bt118 => (if bt118.1 < 0 then (laws_FnExactCanAdd.j0 k l0 a1 t104 t110 true) else ((laws_eqIntS.f k t110 t104).bind fun t120 => (laws_FnExactCanAdd.j0 k l0 a1 t104 t110 (!t120))))) else (some false)))) else (some false)) = some true := H
  have A8 := Aside0.mk A80
  clear A80
  by_cases c9 : t113 = true
  ·subst c9
   have H1 : ((laws_toIntS.f k l0).bind fun t114 => ((laws_eqIntS.f k t107 t114).bind fun t117 => (if t117 = true then ((laws_markIntS.f k t107 1).bind fun bt118 => (if bt118.1 < 0 then (laws_FnExactCanAdd.j0 k l0 a1 t104 t110 true) else ((laws_eqIntS.f k t110 t104).bind fun t120 => (laws_FnExactCanAdd.j0 k l0 a1 t104 t110 (!t120))))) else (some false)))) = some true := by rw [if_pos rfl] at H; exact H
   clear H
   have H := H1
   clear H1
   replace H := Option.bind_eq_some_iff.mp H
   obtain ⟨t114, A100, H⟩ := H
   replace H : ((laws_eqIntS.f k t107 t114).bind fun t117 => (if t117 = true then ((laws_markIntS.f k t107 1).bind fun bt118 => (if bt118.1 < 0 then (laws_FnExactCanAdd.j0 k l0 a1 t104 t110 true) else ((laws_eqIntS.f k t110 t104).bind fun t120 => (laws_FnExactCanAdd.j0 k l0 a1 t104 t110 (!t120))))) else (some false))) = some true := H
   have A10 := Aside0.mk A100
   clear A100
   replace H := Option.bind_eq_some_iff.mp H
   obtain ⟨t117, A110, H⟩ := H
   replace H : (if t117 = true then ((laws_markIntS.f k t107 1).bind fun bt118 => (if bt118.1 < 0 then (laws_FnExactCanAdd.j0 k l0 a1 t104 t110 true) else ((laws_eqIntS.f k t110 t104).bind fun t120 => (laws_FnExactCanAdd.j0 k l0 a1 t104 t110 (!t120))))) else (some false)) = some true := H
   have A11 := Aside0.mk A110
   clear A110
   by_cases c12 : t117 = true
   ·subst c12
    have H1 : ((laws_markIntS.f k t107 1).bind fun bt118 => (if bt118.1 < 0 then (laws_FnExactCanAdd.j0 k l0 a1 t104 t110 true) else ((laws_eqIntS.f k t110 t104).bind fun t120 => (laws_FnExactCanAdd.j0 k l0 a1 t104 t110 (!t120))))) = some true := by rw [if_pos rfl] at H; exact H
    clear H
    have H := H1
    clear H1
    replace H := Option.bind_eq_some_iff.mp H
    obtain ⟨⟨t118, t119⟩, A130, H⟩ := H
    replace H : (if t118 < 0 then (laws_FnExactCanAdd.j0 k l0 a1 t104 t110 true) else ((laws_eqIntS.f k t110 t104).bind fun t120 => (laws_FnExactCanAdd.j0 k l0 a1 t104 t110 (!t120)))) = some true := H
    have A13 := Aside0.mk A130
    clear A130
    have HC14 := Aside0.mk H
    clear H
    go_enter Try.func11, Try.ntmps11
    go_upto_region 12 with (first | ((with_reducible refine gate_callee (f := 43) rfl ?_); refine goesL_ (some 16) rfl rfl Try.func43 (by kernel_rfl) rfl #[.slice A0 l0.length c0] rfl (by (try simp only [List.map_toArray, List.map_cons, List.map_nil]); first | done | rfl | (simp only [List.length_drop, List.length_take]; rfl)) ?_; (with_reducible refine (laws_toIntS.calls k _ _ l0 t101 _ ?side1 ?side2 A4.out).mono ?_); (case side1 => repeat (first | exact HR0.out | (with_reducible refine Kd.C_alloc ?_ _) | (with_reducible refine Kd.C_drewN ?_ _) | (with_reducible refine Kd.C_drew ?_))); (case side2 => exact HC0.out); rintro e w15 ⟨v102, rfl, ho0, hb⟩; refine ⟨_, rfl, ?_⟩; have n0_ := Aside0.mk (Kd.R_lower ho0 (below_size (by repeat (first | (with_reducible first | exact HB.out | apply below_alloc | apply pw_below_drewN | apply below_drew1) | exact HB.out)))); have n1_ := Aside0.mk (below_step (by repeat (first | (with_reducible first | exact HB.out | apply below_alloc | apply pw_below_drewN | apply below_drew1) | exact HB.out)) hb); clear HB; have HO103 := n0_; have HB := n1_; clear n0_ n1_; (try clear hb); (try clear hb2); (try clear hk); (try clear hi); (try clear ho0); obtain ⟨Ao16, co16, eo16⟩ := Kd.R_slice HO103.out; subst eo16) | ((with_reducible refine gate_callee (f := 42) rfl ?_); refine goesL_ (some 18) rfl rfl Try.func42 (by kernel_rfl) rfl #[.slice Ao16 t101.length co16, .int .i64 a1] rfl (by (try simp only [List.map_toArray, List.map_cons, List.map_nil]); first | done | rfl | (simp only [List.length_drop, List.length_take]; rfl)) ?_; (with_reducible refine (spec_CanAdd.calls k _ _ t101 a1 t104 _ ?side1 ?side2 A5.out).mono ?_); (case side1 => repeat (first | exact (Kd.R_reads' HO103.out).2.2 | (with_reducible refine Kd.C_alloc ?_ _) | (with_reducible refine Kd.C_drewN ?_ _) | (with_reducible refine Kd.C_drew ?_))); (case side2 => exact (Kd.R_reads' HO103.out).2.1); rintro e w17 ⟨v105, rfl, ho0, hb⟩; refine ⟨_, rfl, ?_⟩; have n0_ := Aside0.mk (Kd.R_elder' (by (with_reducible repeat (first | apply Kd.R_alloc | apply Kd.R_drewN | apply Kd.R_drew)); exact HO103.out) (Kd.R_base ho0) hb); have n1_ := Aside0.mk (Kd.R_lower (Kd.R_new' ho0 (Kd.R_lt (by (with_reducible repeat (first | apply Kd.R_alloc | apply Kd.R_drewN | apply Kd.R_drew)); exact HO103.out))) (below_size (by repeat (first | (with_reducible first | exact HB.out | apply below_alloc | apply pw_below_drewN | apply below_drew1) | exact HB.out)))); have n2_ := Aside0.mk (below_step (by repeat (first | (with_reducible first | exact HB.out | apply below_alloc | apply pw_below_drewN | apply below_drew1) | exact HB.out)) hb); clear HO103; clear HB; have HO103 := n0_; have HO106 := n1_; have HB := n2_; clear n0_ n1_ n2_; (try clear hb); (try clear hb2); (try clear hk); (try clear hi); (try clear ho0)) | ((with_reducible refine gate_callee (f := 43) rfl ?_); refine goesL_ (some 20) rfl rfl Try.func43 (by kernel_rfl) rfl #[.slice A0 l0.length c0] rfl (by (try simp only [List.map_toArray, List.map_cons, List.map_nil]); first | done | rfl | (simp only [List.length_drop, List.length_take]; rfl)) ?_; (with_reducible refine (laws_toIntS.calls k _ _ l0 t107 _ ?side1 ?side2 A6.out).mono ?_); (case side1 => repeat (first | exact (Kd.C_below HR0.out HB.out) | (with_reducible refine Kd.C_alloc ?_ _) | (with_reducible refine Kd.C_drewN ?_ _) | (with_reducible refine Kd.C_drew ?_))); (case side2 => exact HC0.out); rintro e w18 ⟨v108, rfl, ho0, hb⟩; refine ⟨_, rfl, ?_⟩; have n0_ := Aside0.mk (Kd.R_elder' (by (with_reducible repeat (first | apply Kd.R_alloc | apply Kd.R_drewN | apply Kd.R_drew)); exact HO103.out) (Kd.R_base ho0) hb); have n1_ := Aside0.mk (Kd.R_elder' (by (with_reducible repeat (first | apply Kd.R_alloc | apply Kd.R_drewN | apply Kd.R_drew)); exact HO106.out) (Kd.R_base ho0) hb); have n2_ := Aside0.mk (Kd.R_lower (Kd.R_new' (Kd.R_new' ho0 (Kd.R_lt (by (with_reducible repeat (first | apply Kd.R_alloc | apply Kd.R_drewN | apply Kd.R_drew)); exact HO103.out))) (Kd.R_lt (by (with_reducible repeat (first | apply Kd.R_alloc | apply Kd.R_drewN | apply Kd.R_drew)); exact HO106.out))) (below_size (by repeat (first | (with_reducible first | exact HB.out | apply below_alloc | apply pw_below_drewN | apply below_drew1) | exact HB.out)))); have n3_ := Aside0.mk (below_step (by repeat (first | (with_reducible first | exact HB.out | apply below_alloc | apply pw_below_drewN | apply below_drew1) | exact HB.out)) hb); clear HO103; clear HO106; clear HB; have HO103 := n0_; have HO106 := n1_; have HO109 := n2_; have HB := n3_; clear n0_ n1_ n2_ n3_; (try clear hb); (try clear hb2); (try clear hk); (try clear hi); (try clear ho0); obtain ⟨Ao19, co19, eo19⟩ := Kd.R_slice HO109.out; subst eo19) | ((with_reducible refine gate_callee (f := 44) rfl ?_); refine goesL_ (some 23) rfl rfl Try.func44 (by kernel_rfl) rfl #[.slice Ao19 t107.length co19, .int .i64 a1] rfl (by (try simp only [List.map_toArray, List.map_cons, List.map_nil]); first | done | rfl | (simp only [List.length_drop, List.length_take]; rfl)) ?_; (with_reducible refine (impl_CanAdd.calls k _ _ t107 a1 t110 _ ?side1 ?side2 A7.out).mono ?_); (case side1 => repeat (first | exact (Kd.R_reads' HO109.out).2.2 | (with_reducible refine Kd.C_alloc ?_ _) | (with_reducible refine Kd.C_drewN ?_ _) | (with_reducible refine Kd.C_drew ?_))); (case side2 => exact (Kd.R_reads' HO109.out).2.1); rintro e w20 ⟨v111, rfl, ho0, hb⟩; refine ⟨_, rfl, ?_⟩; have n0_ := Aside0.mk (Kd.R_elder' (by (with_reducible repeat (first | apply Kd.R_alloc | apply Kd.R_drewN | apply Kd.R_drew)); exact HO103.out) (Kd.R_base ho0) hb); have n1_ := Aside0.mk (Kd.R_elder' (by (with_reducible repeat (first | apply Kd.R_alloc | apply Kd.R_drewN | apply Kd.R_drew)); exact HO106.out) (Kd.R_base ho0) hb); have n2_ := Aside0.mk (Kd.R_elder' (by (with_reducible repeat (first | apply Kd.R_alloc | apply Kd.R_drewN | apply Kd.R_drew)); exact HO109.out) (Kd.R_base ho0) hb); have n3_ := Aside0.mk (Kd.R_lower (Kd.R_new' (Kd.R_new' (Kd.R_new' ho0 (Kd.R_lt (by (with_reducible repeat (first | apply Kd.R_alloc | apply Kd.R_drewN | apply Kd.R_drew)); exact HO103.out))) (Kd.R_lt (by (with_reducible repeat (first | apply Kd.R_alloc | apply Kd.R_drewN | apply Kd.R_drew)); exact HO106.out))) (Kd.R_lt (by (with_reducible repeat (first | apply Kd.R_alloc | apply Kd.R_drewN | apply Kd.R_drew)); exact HO109.out))) (below_size (by repeat (first | (with_reducible first | exact HB.out | apply below_alloc | apply pw_below_drewN | apply below_drew1) | exact HB.out)))); have n4_ := Aside0.mk (below_step (by repeat (first | (with_reducible first | exact HB.out | apply below_alloc | apply pw_below_drewN | apply below_drew1) | exact HB.out)) hb); clear HO103; clear HO106; clear HO109; clear HB; have HO103 := n0_; have HO106 := n1_; have HO109 := n2_; have HO112 := n3_; have HB := n4_; clear n0_ n1_ n2_ n3_ n4_; (try clear hb); (try clear hb2); (try clear hk); (try clear hi); (try clear ho0); obtain ⟨Ao21, co21, eo21⟩ := Kd.R_slice HO112.out; subst eo21; obtain ⟨Ao22, co22, eo22⟩ := Kd.R_slice HO106.out; subst eo22) | ((with_reducible refine gate_callee (f := 25) rfl ?_); refine goesL_ (some 26) rfl rfl Try.func25 (by kernel_rfl) rfl #[.slice Ao21 t110.length co21, .slice Ao22 t104.length co22] rfl (by (try simp only [List.map_toArray, List.map_cons, List.map_nil]); first | done | rfl | (simp only [List.length_drop, List.length_take]; rfl)) ?_; (with_reducible refine (laws_eqIntS.calls k _ _ t110 _ _ t104 true _ ?side1 ?side2 ?side3 ?side4 A8.out).mono ?_); (case side1 => repeat (first | exact (Kd.R_reads' HO112.out).2.2 | (with_reducible refine Kd.C_alloc ?_ _) | (with_reducible refine Kd.C_drewN ?_ _) | (with_reducible refine Kd.C_drew ?_))); (case side2 => exact (Kd.R_reads' HO112.out).2.1); (case side3 => repeat (first | exact (Kd.R_reads' HO106.out).2.2 | (with_reducible refine Kd.C_alloc ?_ _) | (with_reducible refine Kd.C_drewN ?_ _) | (with_reducible refine Kd.C_drew ?_))); (case side4 => exact (Kd.R_reads' HO106.out).2.1); rintro e w' ⟨rfl, ⟨nd, rfl⟩⟩; refine ⟨_, rfl, ?_⟩) | ((with_reducible refine gate_callee (f := 43) rfl ?_); refine goesL_ (some 30) rfl rfl Try.func43 (by kernel_rfl) rfl #[.slice A0 l0.length c0] rfl (by (try simp only [List.map_toArray, List.map_cons, List.map_nil]); first | done | rfl | (simp only [List.length_drop, List.length_take]; rfl)) ?_; (with_reducible refine (laws_toIntS.calls k _ _ l0 t114 _ ?side1 ?side2 A10.out).mono ?_); (case side1 => repeat (first | exact (Kd.C_below HR0.out (by repeat (first | (with_reducible first | exact HB.out | apply below_alloc | apply pw_below_drewN | apply below_drew1) | exact HB.out))) | (with_reducible refine Kd.C_alloc ?_ _) | (with_reducible refine Kd.C_drewN ?_ _) | (with_reducible refine Kd.C_drew ?_))); (case side2 => exact HC0.out); rintro e w23 ⟨v115, rfl, ho0, hb⟩; refine ⟨_, rfl, ?_⟩; have n0_ := Aside0.mk (Kd.R_elder' (by (with_reducible repeat (first | apply Kd.R_alloc | apply Kd.R_drewN | apply Kd.R_drew)); exact HO103.out) (Kd.R_base ho0) hb); have n1_ := Aside0.mk (Kd.R_elder' (by (with_reducible repeat (first | apply Kd.R_alloc | apply Kd.R_drewN | apply Kd.R_drew)); exact HO106.out) (Kd.R_base ho0) hb); have n2_ := Aside0.mk (Kd.R_elder' (by (with_reducible repeat (first | apply Kd.R_alloc | apply Kd.R_drewN | apply Kd.R_drew)); exact HO109.out) (Kd.R_base ho0) hb); have n3_ := Aside0.mk (Kd.R_elder' (by (with_reducible repeat (first | apply Kd.R_alloc | apply Kd.R_drewN | apply Kd.R_drew)); exact HO112.out) (Kd.R_base ho0) hb); have n4_ := Aside0.mk (Kd.R_lower (Kd.R_new' (Kd.R_new' (Kd.R_new' (Kd.R_new' ho0 (Kd.R_lt (by (with_reducible repeat (first | apply Kd.R_alloc | apply Kd.R_drewN | apply Kd.R_drew)); exact HO103.out))) (Kd.R_lt (by (with_reducible repeat (first | apply Kd.R_alloc | apply Kd.R_drewN | apply Kd.R_drew)); exact HO106.out))) (Kd.R_lt (by (with_reducible repeat (first | apply Kd.R_alloc | apply Kd.R_drewN | apply Kd.R_drew)); exact HO109.out))) (Kd.R_lt (by (with_reducible repeat (first | apply Kd.R_alloc | apply Kd.R_drewN | apply Kd.R_drew)); exact HO112.out))) (below_size (by repeat (first | (with_reducible first | exact HB.out | apply below_alloc | apply pw_below_drewN | apply below_drew1) | exact HB.out)))); have n5_ := Aside0.mk (below_step (by repeat (first | (with_reducible first | exact HB.out | apply below_alloc | apply pw_below_drewN | apply below_drew1) | exact HB.out)) hb); clear HO103; clear HO106; clear HO109; clear HO112; clear HB; have HO103 := n0_; have HO106 := n1_; have HO109 := n2_; have HO112 := n3_; have HO116 := n4_; have HB := n5_; clear n0_ n1_ n2_ n3_ n4_ n5_; (try clear hb); (try clear hb2); (try clear hk); (try clear hi); (try clear ho0); obtain ⟨Ao24, co24, eo24⟩ := Kd.R_slice HO116.out; subst eo24) | ((with_reducible refine gate_callee (f := 25) rfl ?_); refine goesL_ (some 31) rfl rfl Try.func25 (by kernel_rfl) rfl #[.slice Ao19 t107.length co19, .slice Ao24 t114.length co24] rfl (by (try simp only [List.map_toArray, List.map_cons, List.map_nil]); first | done | rfl | (simp only [List.length_drop, List.length_take]; rfl)) ?_; (with_reducible refine (laws_eqIntS.calls k _ _ t107 _ _ t114 true _ ?side1 ?side2 ?side3 ?side4 A11.out).mono ?_); (case side1 => repeat (first | exact (Kd.R_reads' HO109.out).2.2 | (with_reducible refine Kd.C_alloc ?_ _) | (with_reducible refine Kd.C_drewN ?_ _) | (with_reducible refine Kd.C_drew ?_))); (case side2 => exact (Kd.R_reads' HO109.out).2.1); (case side3 => repeat (first | exact (Kd.R_reads' HO116.out).2.2 | (with_reducible refine Kd.C_alloc ?_ _) | (with_reducible refine Kd.C_drewN ?_ _) | (with_reducible refine Kd.C_drew ?_))); (case side4 => exact (Kd.R_reads' HO116.out).2.1); rintro e w' ⟨rfl, ⟨nd, rfl⟩⟩; refine ⟨_, rfl, ?_⟩) | ((with_reducible refine gate_callee (f := 27) rfl ?_); refine goesL_ (some 35) rfl rfl Try.func27 (by kernel_rfl) rfl #[.slice Ao19 t107.length co19, .int .i64 1] rfl (by (try simp only [List.map_toArray, List.map_cons, List.map_nil]); first | done | rfl | (simp only [List.length_drop, List.length_take]; rfl)) ?_; (with_reducible refine (laws_markIntS.calls k (fun k_ => some k_ = (.slice Ao19 t107.length co19 : Value).ownBlock) (.slice Ao19 t107.length co19) t107 1 t118 t119 w _ ?side1 ?side2 A13.out).mono ?_); (case side1 => repeat (first | (with_reducible first | exact HB.out | apply below_alloc | apply pw_below_drewN | apply below_drew1) | exact HB.out)); (case side2 => exact Kd.R_tight rfl HO109.out); rintro e w25 ⟨rfl, hy0, hb, hkp⟩; refine ⟨_, rfl, ?_⟩; have n0_ := Aside0.mk (Kd.R_mono (ok' := fun k_ => some k_ ≠ (.slice Ao22 t104.length co22 : Value).ownBlock ∧ some k_ ≠ (.slice Ao19 t107.length co19 : Value).ownBlock ∧ some k_ ≠ (.slice Ao21 t110.length co21 : Value).ownBlock ∧ some k_ ≠ (.slice Ao24 t114.length co24 : Value).ownBlock) (Kd.R_keptB (HO103.out) hkp (fun k_ hk_ hs_ => (hk_.1.1.2) hs_)) (fun k_ hk_ => ⟨hk_.1.1.1.1.2, hk_.1.1.1.2, hk_.1.1.2, hk_.1.2⟩)); have n1_ := Aside0.mk (Kd.R_mono (ok' := fun k_ => some k_ ≠ (.slice Ao16 t101.length co16 : Value).ownBlock ∧ some k_ ≠ (.slice Ao19 t107.length co19 : Value).ownBlock ∧ some k_ ≠ (.slice Ao21 t110.length co21 : Value).ownBlock ∧ some k_ ≠ (.slice Ao24 t114.length co24 : Value).ownBlock) (Kd.R_keptB (HO106.out) hkp (fun k_ hk_ hs_ => (hk_.1.1.2) hs_)) (fun k_ hk_ => ⟨hk_.1.1.1.1.2, hk_.1.1.1.2, hk_.1.1.2, hk_.1.2⟩)); have n2_ := Aside0.mk (Kd.R_reok rfl hy0 (fun k_ e_ => HO109.out.1 k_ e_)); have n3_ := Aside0.mk (Kd.R_mono (ok' := fun k_ => some k_ ≠ (.slice Ao16 t101.length co16 : Value).ownBlock ∧ some k_ ≠ (.slice Ao22 t104.length co22 : Value).ownBlock ∧ some k_ ≠ (.slice Ao19 t107.length co19 : Value).ownBlock ∧ some k_ ≠ (.slice Ao24 t114.length co24 : Value).ownBlock) (Kd.R_keptB (HO112.out) hkp (fun k_ hk_ hs_ => (hk_.1.2) hs_)) (fun k_ hk_ => ⟨hk_.1.1.1.1.2, hk_.1.1.1.2, hk_.1.1.2, hk_.1.2⟩)); have n4_ := Aside0.mk (Kd.R_mono (ok' := fun k_ => some k_ ≠ (.slice Ao16 t101.length co16 : Value).ownBlock ∧ some k_ ≠ (.slice Ao22 t104.length co22 : Value).ownBlock ∧ some k_ ≠ (.slice Ao19 t107.length co19 : Value).ownBlock ∧ some k_ ≠ (.slice Ao21 t110.length co21 : Value).ownBlock) (Kd.R_keptB (HO116.out) hkp (fun k_ hk_ hs_ => (hk_.1.2) hs_)) (fun k_ hk_ => ⟨hk_.1.1.1.1.2, hk_.1.1.1.2, hk_.1.1.2, hk_.1.2⟩)); have n5_ := Aside0.mk (hb); clear HO103; clear HO106; clear HO109; clear HO112; clear HO116; clear HB; have HO103 := n0_; have HO106 := n1_; have HO109 := n2_; have HO112 := n3_; have HO116 := n4_; have HB := n5_; clear n0_ n1_ n2_ n3_ n4_ n5_; (try clear hb); (try clear hkp); (try clear hy0)))
    (try simp only [Act.put, List.setIfInBounds_toArray, List.set_cons_zero, List.set_cons_succ])
    go_cut [43] (fun v43 wc => ∃ (kq : Nat) (x43_13 : Bool), v43 = .bool x43_13 ∧ Aside0 (laws_FnExactCanAdd.j0 kq l0 a1 t104 t110 x43_13 = some true) ∧ Aside0 (kq ≤ k) ∧ Aside0 (Kd.R (Kd.int .i64) 3 wc w.heap.size (fun k_ => some k_ ≠ ((.slice Ao21 t110.length co21) : Value).ownBlock) (.slice Ao22 t104.length co22) t104) ∧ Aside0 (Kd.R (Kd.int .i64) 3 wc w.heap.size (fun k_ => some k_ ≠ ((.slice Ao22 t104.length co22) : Value).ownBlock) (.slice Ao21 t110.length co21) t110) ∧ Aside0 (Below w.heap.size w wc))
    case first =>
     have H := HC14.out
     clear HC14
     by_cases c26 : t118 < 0
     ·rw [if_pos c26] at H
      have c26b0 : decide (t118 < 0) = true := decide_eq_true c26
      clear c26
      (first | rw [c26b0] | (simp only [i64_w, i32_w]; rw [c26b0]) | skip)
      have H' := Aside0.mk H
      clear H
      go_wp2
      go_meet
      case rel => exact ⟨_, (true), (by first | rfl | (simp; done) | (simp [*]; done)), H', ⟨by first | omega | exact Nat.le_refl _⟩, ⟨by (with_reducible repeat (first | apply Kd.R_alloc | apply Kd.R_drewN | apply Kd.R_drew)); exact Kd.R_mono HO106.out (fun _ hk => hk.2.2.1)⟩, ⟨by (with_reducible repeat (first | apply Kd.R_alloc | apply Kd.R_drewN | apply Kd.R_drew)); exact Kd.R_mono HO112.out (fun _ hk => hk.2.1)⟩, ⟨by repeat (first | (with_reducible first | exact HB.out | apply below_alloc | apply pw_below_drewN | apply below_drew1) | exact HB.out)⟩⟩
     ·rw [if_neg c26] at H
      have c26b0 : decide (t118 < 0) = false := decide_eq_false c26
      clear c26
      (first | rw [c26b0] | (simp only [i64_w, i32_w]; rw [c26b0]) | skip)
      replace H := Option.bind_eq_some_iff.mp H
      obtain ⟨t120, A270, H⟩ := H
      replace H : (laws_FnExactCanAdd.j0 k l0 a1 t104 t110 (!t120)) = some true := H
      have A27 := Aside0.mk A270
      clear A270
      have H' := Aside0.mk H
      clear H
      go_wp2_with (first | (go_at_call 25; (with_reducible refine (laws_eqIntS.calls k _ _ t110 _ _ t104 t120 _ ?side1 ?side2 ?side3 ?side4 A27.out).mono ?_); (case side1 => repeat (first | exact (Kd.R_reads' HO112.out).2.2 | (with_reducible refine Kd.C_alloc ?_ _) | (with_reducible refine Kd.C_drewN ?_ _) | (with_reducible refine Kd.C_drew ?_))); (case side2 => exact (Kd.R_reads' HO112.out).2.1); (case side3 => repeat (first | exact (Kd.R_reads' HO106.out).2.2 | (with_reducible refine Kd.C_alloc ?_ _) | (with_reducible refine Kd.C_drewN ?_ _) | (with_reducible refine Kd.C_drew ?_))); (case side4 => exact (Kd.R_reads' HO106.out).2.1); rintro e w' ⟨rfl, ⟨nd, rfl⟩⟩))
      go_meet
      case rel => exact ⟨_, (!t120), (by first | rfl | (simp; done) | (simp [*]; done)), H', ⟨by first | omega | exact Nat.le_refl _⟩, ⟨by (with_reducible repeat (first | apply Kd.R_alloc | apply Kd.R_drewN | apply Kd.R_drew)); exact Kd.R_mono HO106.out (fun _ hk => hk.2.2.1)⟩, ⟨by (with_reducible repeat (first | apply Kd.R_alloc | apply Kd.R_drewN | apply Kd.R_drew)); exact Kd.R_mono HO112.out (fun _ hk => hk.2.1)⟩, ⟨by repeat (first | (with_reducible first | exact HB.out | apply below_alloc | apply pw_below_drewN | apply below_drew1) | exact HB.out)⟩⟩
    case rest =>
     clear HC14
     try clear c1
     try clear c2
     try clear p2
     try clear c3
     try clear c3b0
     try clear c3b1
     try clear c4
     try clear c9
     try clear c11
     try clear c12
     try clear c25
     try clear c26
     try clear c26b0
     try clear c27
     obtain ⟨kq, x43_13, rfl, HA, HJ13, HO_5, HO_7, HB⟩ := hcut
     cases kq with
     | zero => exact absurd HA.out (by simp [laws_FnExactCanAdd.j0])
     | succ kj13 =>
      have H := HA.out
      clear HA
      simp only [laws_FnExactCanAdd.j0] at H
      by_cases c28 : x43_13 = true
      ·subst c28
       have H1 : (some false) = some true := by rw [if_pos rfl] at H; exact H
       clear H
       have H := H1
       clear H1
       exact absurd H (by simp)
      ·replace c28 := Bool.eq_false_iff.mpr c28
       subst c28
       have H1 : ((laws_markIntS.f kj13 t110 1).bind fun bt121 => ((laws_heldIntS.f kj13 bt121.2 1).bind fun t123 => (if t123 < 0 then (some false) else (if t123 = bt121.1 then ((laws_toIntS.f kj13 l0).bind fun t124 => ((impl_CanAdd.f kj13 t124 a1).bind fun t127 => ((laws_eqIntS.f kj13 t127 t104).bind fun t130 => (if t130 = true then ((laws_heldIntS.f kj13 bt121.2 1).bind fun t131 => (if t131 < 0 then (some false) else (if t131 = bt121.1 then (some true) else (some false)))) else (some false))))) else (some false))))) = some true := by rw [if_neg (show ¬ (false = true) by decide)] at H; exact H
       clear H
       have H := H1
       clear H1
       replace H := Option.bind_eq_some_iff.mp H
       obtain ⟨⟨t121, t122⟩, A290, H⟩ := H
       replace H : ((laws_heldIntS.f kj13 t122 1).bind fun t123 => (if t123 < 0 then (some false) else (if t123 = t121 then ((laws_toIntS.f kj13 l0).bind fun t124 => ((impl_CanAdd.f kj13 t124 a1).bind fun t127 => ((laws_eqIntS.f kj13 t127 t104).bind fun t130 => (if t130 = true then ((laws_heldIntS.f kj13 t122 1).bind fun t131 => (if t131 < 0 then (some false) else (if t131 = t121 then (some true) else (some false)))) else (some false))))) else (some false)))) = some true := H
       have A29 := Aside0.mk A290
       clear A290
       replace H := Option.bind_eq_some_iff.mp H
       obtain ⟨t123, A300, H⟩ := H
       replace H : (if t123 < 0 then (some false) else (if t123 = t121 then ((laws_toIntS.f kj13 l0).bind fun t124 => ((impl_CanAdd.f kj13 t124 a1).bind fun t127 => ((laws_eqIntS.f kj13 t127 t104).bind fun t130 => (if t130 = true then ((laws_heldIntS.f kj13 t122 1).bind fun t131 => (if t131 < 0 then (some false) else (if t131 = t121 then (some true) else (some false)))) else (some false))))) else (some false))) = some true := H
       have A30 := Aside0.mk A300
       clear A300
       by_cases c31 : t123 < 0
       ·rw [if_pos c31] at H
        have c31b0 : decide (t123 < 0) = true := decide_eq_true c31
        clear c31
        exact absurd H (by simp)
       ·rw [if_neg c31] at H
        have c31b0 : decide (t123 < 0) = false := decide_eq_false c31
        clear c31
        by_cases c33 : t123 = t121
        ·rw [if_pos c33] at H
         have c33b0 : (t123 == t121) = true := beq_iff_eq.mpr c33
         have c33b1 : (t123 != t121) = false := bne_eq_false_iff_eq.mpr c33
         clear c33
         replace H := Option.bind_eq_some_iff.mp H
         obtain ⟨t124, A340, H⟩ := H
         replace H : ((impl_CanAdd.f kj13 t124 a1).bind fun t127 => ((laws_eqIntS.f kj13 t127 t104).bind fun t130 => (if t130 = true then ((laws_heldIntS.f kj13 t122 1).bind fun t131 => (if t131 < 0 then (some false) else (if t131 = t121 then (some true) else (some false)))) else (some false)))) = some true := H
         have A34 := Aside0.mk A340
         clear A340
         replace H := Option.bind_eq_some_iff.mp H
         obtain ⟨t127, A350, H⟩ := H
         replace H : ((laws_eqIntS.f kj13 t127 t104).bind fun t130 => (if t130 = true then ((laws_heldIntS.f kj13 t122 1).bind fun t131 => (if t131 < 0 then (some false) else (if t131 = t121 then (some true) else (some false)))) else (some false))) = some true := H
         have A35 := Aside0.mk A350
         clear A350
         replace H := Option.bind_eq_some_iff.mp H
         obtain ⟨t130, A360, H⟩ := H
         replace H : (if t130 = true then ((laws_heldIntS.f kj13 t122 1).bind fun t131 => (if t131 < 0 then (some false) else (if t131 = t121 then (some true) else (some false)))) else (some false)) = some true := H
         have A36 := Aside0.mk A360
         clear A360
         by_cases c37 : t130 = true
         ·subst c37
          have H1 : ((laws_heldIntS.f kj13 t122 1).bind fun t131 => (if t131 < 0 then (some false) else (if t131 = t121 then (some true) else (some false)))) = some true := by rw [if_pos rfl] at H; exact H
          clear H
          have H := H1
          clear H1
          replace H := Option.bind_eq_some_iff.mp H
          obtain ⟨t131, A380, H⟩ := H
          replace H : (if t131 < 0 then (some false) else (if t131 = t121 then (some true) else (some false))) = some true := H
          have A38 := Aside0.mk A380
          clear A380
          by_cases c39 : t131 < 0
          ·rw [if_pos c39] at H
           have c39b0 : decide (t131 < 0) = true := decide_eq_true c39
           clear c39
           exact absurd H (by simp)
          ·rw [if_neg c39] at H
           have c39b0 : decide (t131 < 0) = false := decide_eq_false c39
           clear c39
           by_cases c45 : t131 = t121
           ·rw [if_pos c45] at H
            have c45b0 : (t131 == t121) = true := beq_iff_eq.mpr c45
            have c45b1 : (t131 != t121) = false := bne_eq_false_iff_eq.mpr c45
            clear c45
            clear H
            go_wp2_with (first | ((with_reducible refine gate_callee (f := 27) rfl ?_); refine goesL_ (some 46) rfl rfl Try.func27 (by kernel_rfl) rfl #[.slice Ao21 t110.length co21, .int .i64 1] rfl (by (try simp only [List.map_toArray, List.map_cons, List.map_nil]); first | done | rfl | (simp only [List.length_drop, List.length_take]; rfl)) ?_; (with_reducible refine (laws_markIntS.calls kj13 (fun k_ => some k_ = (.slice Ao21 t110.length co21 : Value).ownBlock) (.slice Ao21 t110.length co21) t110 1 t121 t122 w _ ?side1 ?side2 A29.out).mono ?_); (case side1 => repeat (first | (with_reducible first | exact HB.out | apply below_alloc | apply pw_below_drewN | apply below_drew1) | exact HB.out)); (case side2 => exact Kd.R_tight rfl HO_7.out); rintro e w46 ⟨rfl, hy0, hb, hkp⟩; refine ⟨_, rfl, ?_⟩; have n0_ := Aside0.mk (Kd.R_mono (ok' := fun k_ => some k_ ≠ (.slice Ao21 t110.length co21 : Value).ownBlock) (Kd.R_keptB (HO_5.out) hkp (fun k_ hk_ hs_ => (hk_) hs_)) (fun k_ hk_ => hk_.1)); have n1_ := Aside0.mk (Kd.R_reok rfl hy0 (fun k_ e_ => HO_7.out.1 k_ e_)); have n2_ := Aside0.mk (hb); clear HO_5; clear HO_7; clear HB; have HO_5 := n0_; have HO_7 := n1_; have HB := n2_; clear n0_ n1_ n2_; (try clear hb); (try clear hkp); (try clear hy0)) | ((with_reducible refine gate_callee (f := 28) rfl ?_); refine goesL_ (some 49) rfl rfl Try.func28 (by kernel_rfl) rfl #[.slice Ao21 t122.length co21, .int .i64 1] rfl (by (try simp only [List.map_toArray, List.map_cons, List.map_nil]); first | done | (rw [show t122.length = t110.length from (Kd.R_reads' HO_7.out).1.symm] <;> rfl) | rfl | (simp only [List.length_drop, List.length_take]; rfl)) ?_; (with_reducible refine (laws_heldIntS.calls kj13 _ _ t122 1 t123 _ ?side1 ?side2 A30.out).mono ?_); (case side1 => repeat (first | exact (Kd.R_reads' HO_7.out).2.2 | (with_reducible refine Kd.C_alloc ?_ _) | (with_reducible refine Kd.C_drewN ?_ _) | (with_reducible refine Kd.C_drew ?_))); (case side2 => rw [show t122.length = t110.length from (Kd.R_reads' HO_7.out).1.symm]; exact (Kd.R_reads' HO_7.out).2.1); rintro e w' ⟨rfl, ⟨nd, rfl⟩⟩; refine ⟨_, rfl, ?_⟩) | ((with_reducible refine gate_callee (f := 43) rfl ?_); refine goesL_ (some 56) rfl rfl Try.func43 (by kernel_rfl) rfl #[.slice A0 l0.length c0] rfl (by (try simp only [List.map_toArray, List.map_cons, List.map_nil]); first | done | rfl | (simp only [List.length_drop, List.length_take]; rfl)) ?_; (with_reducible refine (laws_toIntS.calls kj13 _ _ l0 t124 _ ?side1 ?side2 A34.out).mono ?_); (case side1 => repeat (first | exact (Kd.C_below HR0.out (by repeat (first | (with_reducible first | exact HB.out | apply below_alloc | apply pw_below_drewN | apply below_drew1) | exact HB.out))) | (with_reducible refine Kd.C_alloc ?_ _) | (with_reducible refine Kd.C_drewN ?_ _) | (with_reducible refine Kd.C_drew ?_))); (case side2 => exact HC0.out); rintro e w47 ⟨v125, rfl, ho0, hb⟩; refine ⟨_, rfl, ?_⟩; have n0_ := Aside0.mk (Kd.R_elder' (by (with_reducible repeat (first | apply Kd.R_alloc | apply Kd.R_drewN | apply Kd.R_drew)); exact HO_5.out) (Kd.R_base ho0) hb); have n1_ := Aside0.mk (Kd.R_elder' (by (with_reducible repeat (first | apply Kd.R_alloc | apply Kd.R_drewN | apply Kd.R_drew)); exact HO_7.out) (Kd.R_base ho0) hb); have n2_ := Aside0.mk (Kd.R_lower (Kd.R_new' (Kd.R_new' ho0 (Kd.R_lt (by (with_reducible repeat (first | apply Kd.R_alloc | apply Kd.R_drewN | apply Kd.R_drew)); exact HO_5.out))) (Kd.R_lt (by (with_reducible repeat (first | apply Kd.R_alloc | apply Kd.R_drewN | apply Kd.R_drew)); exact HO_7.out))) (below_size (by repeat (first | (with_reducible first | exact HB.out | apply below_alloc | apply pw_below_drewN | apply below_drew1) | exact HB.out)))); have n3_ := Aside0.mk (below_step (by repeat (first | (with_reducible first | exact HB.out | apply below_alloc | apply pw_below_drewN | apply below_drew1) | exact HB.out)) hb); clear HO_5; clear HO_7; clear HB; have HO_5 := n0_; have HO_7 := n1_; have HO126 := n2_; have HB := n3_; clear n0_ n1_ n2_ n3_; (try clear hb); (try clear hb2); (try clear hk); (try clear hi); (try clear ho0); obtain ⟨Ao48, co48, eo48⟩ := Kd.R_slice HO126.out; subst eo48) | ((with_reducible refine gate_callee (f := 44) rfl ?_); refine goesL_ (some 58) rfl rfl Try.func44 (by kernel_rfl) rfl #[.slice Ao48 t124.length co48, .int .i64 a1] rfl (by (try simp only [List.map_toArray, List.map_cons, List.map_nil]); first | done | rfl | (simp only [List.length_drop, List.length_take]; rfl)) ?_; (with_reducible refine (impl_CanAdd.calls kj13 _ _ t124 a1 t127 _ ?side1 ?side2 A35.out).mono ?_); (case side1 => repeat (first | exact (Kd.R_reads' HO126.out).2.2 | (with_reducible refine Kd.C_alloc ?_ _) | (with_reducible refine Kd.C_drewN ?_ _) | (with_reducible refine Kd.C_drew ?_))); (case side2 => exact (Kd.R_reads' HO126.out).2.1); rintro e w49 ⟨v128, rfl, ho0, hb⟩; refine ⟨_, rfl, ?_⟩; have n0_ := Aside0.mk (Kd.R_elder' (by (with_reducible repeat (first | apply Kd.R_alloc | apply Kd.R_drewN | apply Kd.R_drew)); exact HO_5.out) (Kd.R_base ho0) hb); have n1_ := Aside0.mk (Kd.R_elder' (by (with_reducible repeat (first | apply Kd.R_alloc | apply Kd.R_drewN | apply Kd.R_drew)); exact HO_7.out) (Kd.R_base ho0) hb); have n2_ := Aside0.mk (Kd.R_elder' (by (with_reducible repeat (first | apply Kd.R_alloc | apply Kd.R_drewN | apply Kd.R_drew)); exact HO126.out) (Kd.R_base ho0) hb); have n3_ := Aside0.mk (Kd.R_lower (Kd.R_new' (Kd.R_new' (Kd.R_new' ho0 (Kd.R_lt (by (with_reducible repeat (first | apply Kd.R_alloc | apply Kd.R_drewN | apply Kd.R_drew)); exact HO_5.out))) (Kd.R_lt (by (with_reducible repeat (first | apply Kd.R_alloc | apply Kd.R_drewN | apply Kd.R_drew)); exact HO_7.out))) (Kd.R_lt (by (with_reducible repeat (first | apply Kd.R_alloc | apply Kd.R_drewN | apply Kd.R_drew)); exact HO126.out))) (below_size (by repeat (first | (with_reducible first | exact HB.out | apply below_alloc | apply pw_below_drewN | apply below_drew1) | exact HB.out)))); have n4_ := Aside0.mk (below_step (by repeat (first | (with_reducible first | exact HB.out | apply below_alloc | apply pw_below_drewN | apply below_drew1) | exact HB.out)) hb); clear HO_5; clear HO_7; clear HO126; clear HB; have HO_5 := n0_; have HO_7 := n1_; have HO126 := n2_; have HO129 := n3_; have HB := n4_; clear n0_ n1_ n2_ n3_ n4_; (try clear hb); (try clear hb2); (try clear hk); (try clear hi); (try clear ho0); obtain ⟨Ao50, co50, eo50⟩ := Kd.R_slice HO129.out; subst eo50) | ((with_reducible refine gate_callee (f := 25) rfl ?_); refine goesL_ (some 61) rfl rfl Try.func25 (by kernel_rfl) rfl #[.slice Ao50 t127.length co50, .slice Ao22 t104.length co22] rfl (by (try simp only [List.map_toArray, List.map_cons, List.map_nil]); first | done | rfl | (simp only [List.length_drop, List.length_take]; rfl)) ?_; (with_reducible refine (laws_eqIntS.calls kj13 _ _ t127 _ _ t104 true _ ?side1 ?side2 ?side3 ?side4 A36.out).mono ?_); (case side1 => repeat (first | exact (Kd.R_reads' HO129.out).2.2 | (with_reducible refine Kd.C_alloc ?_ _) | (with_reducible refine Kd.C_drewN ?_ _) | (with_reducible refine Kd.C_drew ?_))); (case side2 => exact (Kd.R_reads' HO129.out).2.1); (case side3 => repeat (first | exact (Kd.R_reads' HO_5.out).2.2 | (with_reducible refine Kd.C_alloc ?_ _) | (with_reducible refine Kd.C_drewN ?_ _) | (with_reducible refine Kd.C_drew ?_))); (case side4 => exact (Kd.R_reads' HO_5.out).2.1); rintro e w' ⟨rfl, ⟨nd, rfl⟩⟩; refine ⟨_, rfl, ?_⟩) | ((with_reducible refine gate_callee (f := 28) rfl ?_); refine goesL_ (some 65) rfl rfl Try.func28 (by kernel_rfl) rfl #[.slice Ao21 t122.length co21, .int .i64 1] rfl (by (try simp only [List.map_toArray, List.map_cons, List.map_nil]); first | done | (rw [show t122.length = t110.length from (Kd.R_reads' HO_7.out).1.symm] <;> rfl) | rfl | (simp only [List.length_drop, List.length_take]; rfl)) ?_; (with_reducible refine (laws_heldIntS.calls kj13 _ _ t122 1 t131 _ ?side1 ?side2 A38.out).mono ?_); (case side1 => repeat (first | exact (Kd.R_reads' HO_7.out).2.2 | (with_reducible refine Kd.C_alloc ?_ _) | (with_reducible refine Kd.C_drewN ?_ _) | (with_reducible refine Kd.C_drew ?_))); (case side2 => rw [show t122.length = t110.length from (Kd.R_reads' HO_7.out).1.symm]; exact (Kd.R_reads' HO_7.out).2.1); rintro e w' ⟨rfl, ⟨nd, rfl⟩⟩; refine ⟨_, rfl, ?_⟩))
            go_ret
            exact ⟨by first | rfl | (simp [errW_none, errW_some] <;> rfl) | (simp [*, errW_none, errW_some] <;> rfl), by repeat (first | (with_reducible first | exact HB.out | apply below_alloc | apply pw_below_drewN | apply below_drew1) | exact HB.out)⟩
           ·rw [if_neg c45] at H
            have c45b0 : (t131 == t121) = false := beq_eq_false_iff_ne.mpr c45
            have c45b1 : (t131 != t121) = true := bne_iff_ne.mpr c45
            exact absurd H (by simp)
         ·replace c37 := Bool.eq_false_iff.mpr c37
          subst c37
          have H1 : (some false) = some true := by rw [if_neg (show ¬ (false = true) by decide)] at H; exact H
          clear H
          have H := H1
          clear H1
          exact absurd H (by simp)
        ·rw [if_neg c33] at H
         have c33b0 : (t123 == t121) = false := beq_eq_false_iff_ne.mpr c33
         have c33b1 : (t123 != t121) = true := bne_iff_ne.mpr c33
         exact absurd H (by simp)
   ·replace c12 := Bool.eq_false_iff.mpr c12
    subst c12
    have H1 : (some false) = some true := by rw [if_neg (show ¬ (false = true) by decide)] at H; exact H
    clear H
    have H := H1
    clear H1
    exact absurd H (by simp)
  ·replace c9 := Bool.eq_false_iff.mpr c9
   subst c9
   have H1 : (some false) = some true := by rw [if_neg (show ¬ (false = true) by decide)] at H; exact H
   clear H
   have H := H1
   clear H1
   exact absurd H (by simp)
/-- THE ONE PURE STATEMENT of laws_FnExactCanAdd. -/
def laws_FnExactCanAdd.Pure : Prop := ∀ (x0 : List Int) (x1 : Int), (x0.length ≤ maxLen ∧ ∀ y0 ∈ x0, (Lit.int .i64 y0).wf = true) → (Lit.int .i64 x1).wf = true → ∃ k, laws_FnExactCanAdd.f k x0 x1 = some true

end Go.Proofs.Ytijgjpfbhbggdaa.P

namespace Go.Proofs.Ytijgjpfbhbggdaa.Pure
open Go.RowKit Go.Proofs.Ytijgjpfbhbggdaa.P Go.Proofs.YtijgjpfbhbggdaaW.PrintWords Go.Proofs.YtijgjpfbhbggdaaW.PrintLast

set_option maxRecDepth 100000 in
theorem apart_small : ∀ a : Fin 64, ∀ b : Fin 64, (match spec_AreApart.f 100 (a.val : Int) (b.val : Int), impl_AreApart.f 100 (a.val : Int) (b.val : Int) with | some x, some y => x == y | _, _ => false) = true := by decide +kernel

theorem apart_far {a b : Int} (h : ¬ (0 ≤ a ∧ a ≤ 63 ∧ 0 ≤ b ∧ b ≤ 63)) : spec_AreApart.f 100 a b = some false ∧ impl_AreApart.f 100 a b = some false := by
  by_cases ha0 : 0 ≤ a
  · by_cases ha : a ≤ 63
    · by_cases hb0 : 0 ≤ b
      · have hb : ¬ b ≤ 63 := by omega
        constructor
        · simp [spec_AreApart.f, spec_l1In.f, ha0, ha, hb0, hb]
        · simp [impl_AreApart.f, impl_isCellSet.f, ha0, ha, hb0, hb]
      · constructor
        · simp [spec_AreApart.f, spec_l1In.f, ha0, ha, hb0]
        · simp [impl_AreApart.f, impl_isCellSet.f, ha0, ha, hb0]
    · constructor
      · simp [spec_AreApart.f, spec_l1In.f, ha0, ha]
      · simp [impl_AreApart.f, impl_isCellSet.f, ha0, ha]
  · constructor
    · simp [spec_AreApart.f, spec_l1In.f, ha0]
    · simp [impl_AreApart.f, impl_isCellSet.f, ha0]

/-- Both come to one answer, at 100 rounds. -/
theorem apart_both (a b : Int) : ∃ r, spec_AreApart.f 100 a b = some r ∧ impl_AreApart.f 100 a b = some r := by
  by_cases h : 0 ≤ a ∧ a ≤ 63 ∧ 0 ≤ b ∧ b ≤ 63
  · have z := apart_small ⟨a.toNat, by omega⟩ ⟨b.toNat, by omega⟩
    simp only [Int.toNat_of_nonneg h.1, Int.toNat_of_nonneg h.2.2.1] at z
    revert z
    cases hs : spec_AreApart.f 100 a b with
    | none => intro z; simp at z
    | some x =>
      cases hi : impl_AreApart.f 100 a b with
      | none => intro z; simp at z
      | some y =>
        intro z
        have e : x = y := by simpa using z
        subst e
        exact ⟨x, rfl, rfl⟩
  · obtain ⟨h1, h2⟩ := apart_far h
    exact ⟨false, h1, h2⟩

/-- The answer. -/
noncomputable def apart (a b : Int) : Bool := Classical.choose (apart_both a b)
theorem apart_spec {k : Nat} (hk : 100 ≤ k) (a b : Int) : spec_AreApart.f k a b = some (apart a b) := at_rounds (spec_AreApart.mono a b) hk (Classical.choose_spec (apart_both a b)).1
theorem apart_impl {k : Nat} (hk : 100 ≤ k) (a b : Int) : impl_AreApart.f k a b = some (apart a b) := at_rounds (impl_AreApart.mono a b) hk (Classical.choose_spec (apart_both a b)).2

end Go.Proofs.Ytijgjpfbhbggdaa.Pure

namespace Go.Proofs.Ytijgjpfbhbggdaa.Com
open Go.RowKit Go.Proofs.YtijgjpfbhbggdaaW.PrintWords
set_option linter.unusedSimpArgs false
set_option linter.unusedVariables false

theorem w64 {x : Int} (h0 : -9223372036854775808 ≤ x) (h1 : x ≤ 9223372036854775807) : wrap64 x = x := by unfold wrap64; omega
theorem set_take_succ {α : Type} (l : List α) (n : Nat) (v : α) (h : n < l.length) : (l.set n v).take (n + 1) = l.take n ++ [v] := by
  rw [List.take_succ_eq_append_getElem (by simpa using h), List.take_set_of_le (Nat.le_refl n)]; simp
theorem drop_cons {α : Type} (l : List α) (n : Nat) (d : α) (h : n < l.length) : l.drop n = l.getD n d :: l.drop (n + 1) := by
  rw [List.drop_eq_getElem_cons h]; simp [List.getD, List.getElem?_eq_getElem h]
theorem getD_set {α : Type} (l : List α) (n : Nat) (d v : α) (h : n < l.length) : (l.set n v).getD n d = v := by
  simp [List.getD, List.getElem?_set, h]
theorem getD_mem {α : Type} (l : List α) (n : Nat) (d : α) (h : n < l.length) : l.getD n d ∈ l := by
  simp [List.getD, List.getElem?_eq_getElem h]
theorem getD_map {α β : Type} (f : α → β) (l : List α) (n : Nat) (d : α) (e : β) (h : n < l.length) : (l.map f).getD n e = f (l.getD n d) := by
  simp [List.getD, h]
theorem succ_of_lt {d k : Nat} (h : d < k) : ∃ m, k = m + 1 ∧ d ≤ m := ⟨k - 1, by omega, by omega⟩
theorem Ev.iteT {α : Type} {c : Prop} [Decidable c] {g f : Nat → Option α} {r : α} (hc : c) (h : Ev g r) : Ev (fun k => if c then g k else f k) r := by simpa only [if_pos hc] using h
theorem Ev.iteF {α : Type} {c : Prop} [Decidable c] {g f : Nat → Option α} {r : α} (hc : ¬ c) (h : Ev f r) : Ev (fun k => if c then g k else f k) r := by simpa only [if_neg hc] using h
theorem Ev.const {α : Type} {o : Option α} {r : α} (h : o = some r) : Ev (fun _ => o) r := ⟨0, fun _ _ => h⟩
/-- Rounds enough, told by a bound. -/
theorem Ev.from {α : Type} {g : Nat → Option α} {r : α} (K : Nat) (h : ∀ k, K ≤ k → g k = some r) : Ev g r := ⟨K, h⟩
theorem Ev.bind0 {α β : Type} {o : Option α} {f : Nat → α → Option β} {a : α} {r : β} (h : o = some a) (k : Ev (fun n => f n a) r) : Ev (fun n => o.bind (f n)) r := Ev.bind ⟨0, fun _ _ => h⟩ k
end Go.Proofs.Ytijgjpfbhbggdaa.Com

namespace Go.Proofs.Ytijgjpfbhbggdaa.Pure
open Go.RowKit Go.Proofs.Ytijgjpfbhbggdaa.P Go.Proofs.YtijgjpfbhbggdaaW.PrintWords Go.Proofs.YtijgjpfbhbggdaaW.PrintLast Go.Proofs.Ytijgjpfbhbggdaa.Com
set_option linter.unusedSimpArgs false
set_option linter.unusedVariables false

theorem apart_spec_ev (a b : Int) : Ev (fun k => spec_AreApart.f k a b) (apart a b) := ⟨100, fun _ h => apart_spec h a b⟩
theorem apart_impl_ev (a b : Int) : Ev (fun k => impl_AreApart.f k a b) (apart a b) := ⟨100, fun _ h => apart_impl h a b⟩

theorem allapart_loops (l : List Int) (hl : l.length ≤ 64) (d : Nat) : ∀ i : Int, 0 ≤ i → i + d = l.length →
    ∃ r, Ev (fun k => spec_AllApart.l0 k l i) r ∧ Ev (fun k => impl_AllApart.l0 k l l (l.length : Int) i) r := by
  induction d with
  | zero =>
    intro i h0 hi
    refine ⟨true, ?_, ?_⟩
    · refine Ev.step (f := fun k => spec_AllApart.j1 k l i false) (fun k => by simp only [spec_AllApart.l0]; rw [if_neg (by omega)]) ?_
      refine Ev.step (f := fun _ => some true) (fun k => ?_) (Ev.now true)
      simp only [spec_AllApart.j1]
      rw [if_neg (by decide), decide_eq_true (by omega)]
    · refine Ev.step (f := fun _ => some true) (fun k => ?_) (Ev.now true)
      simp only [impl_AllApart.l0]
      rw [if_neg (by omega)]
  | succ d ih =>
    intro i h0 hi
    have wi : wrap64 (i + 1) = i + 1 := w64 (by omega) (by omega)
    have hlen : (l.take (i + 1).toNat).length = i.toNat + 1 := by rw [List.length_take]; omega
    obtain ⟨ro, hos, hoi⟩ := ih (i + 1) (by omega) (by omega)
    have inner : ∀ (e : Nat) (j : Int), 0 ≤ j → j + e = i + 1 →
        ∃ r, Ev (fun k => spec_AllApart.l1 k l i j) r ∧ Ev (fun k => impl_AllApart.l1 k l (rd l i) l (l.length : Int) i (l.take (i + 1).toNat) (((l.take (i + 1).toNat).length : Nat) : Int) j) r := by
      intro e
      induction e with
      | zero =>
        intro j hj0 hj
        refine ⟨ro, ?_, ?_⟩
        · refine Ev.step (f := fun k => spec_AllApart.l0 k l (i + 1)) (fun k => ?_) hos
          simp only [spec_AllApart.l1]
          rw [if_neg (by omega), wi]
        · refine Ev.step (f := fun k => impl_AllApart.l0 k l l (l.length : Int) (i + 1)) (fun k => ?_) hoi
          simp only [impl_AllApart.l1]
          rw [if_neg (by omega), wi]
      | succ e ihe =>
        intro j hj0 hj
        obtain ⟨rn, hns, hni⟩ := ihe (j + 1) (by omega) (by omega)
        have wj : wrap64 (j + 1) = j + 1 := w64 (by omega) (by omega)
        have hrd : rd (l.take (i + 1).toNat) j = rd l j := by
          unfold rd
          rw [List.getD_eq_getElem?_getD, List.getD_eq_getElem?_getD, List.getElem?_take_of_lt (by omega)]
        refine ⟨if apart (rd l i) (rd l j) = true then rn else false, ?_, ?_⟩
        · refine Ev.step (f := fun k => (spec_AreApart.f k (rd l i) (rd l j)).bind fun t => if t = true then spec_AllApart.l1 k l i (wrap64 (j + 1)) else some false) (fun k => ?_) ?_
          · simp only [spec_AllApart.l1]
            rw [if_pos (by omega), if_pos (by omega), if_pos (by omega), if_pos (by omega), if_pos (by omega)]
          · refine Ev.bind (apart_spec_ev _ _) ?_
            rw [wj]
            cases apart (rd l i) (rd l j)
            · exact Ev.now false
            · exact hns
        · refine Ev.step (f := fun k => (impl_AreApart.f k (rd l i) (rd l j)).bind fun t => if t = true then impl_AllApart.l1 k l (rd l i) l (l.length : Int) i (l.take (i + 1).toNat) (((l.take (i + 1).toNat).length : Nat) : Int) (wrap64 (j + 1)) else some false) (fun k => ?_) ?_
          · simp only [impl_AllApart.l1]
            rw [if_pos (by omega), if_pos (by omega), if_pos (by omega), hrd]
          · refine Ev.bind (apart_impl_ev _ _) ?_
            rw [wj]
            cases apart (rd l i) (rd l j)
            · exact Ev.now false
            · exact hni
    obtain ⟨r, hs, hi'⟩ := inner (i.toNat + 1) 0 (by omega) (by omega)
    refine ⟨r, ?_, ?_⟩
    · refine Ev.step (f := fun k => spec_AllApart.j1 k l i true) (fun k => by simp only [spec_AllApart.l0]; rw [if_pos (by omega), decide_eq_true (by omega)]) ?_
      refine Ev.step (f := fun k => spec_AllApart.l1 k l i 0) (fun k => by simp only [spec_AllApart.j1, if_true]) hs
    · refine Ev.step (f := fun k => impl_AllApart.l1 k l (rd l i) l (l.length : Int) i (l.take (i + 1).toNat) (((l.take (i + 1).toNat).length : Nat) : Int) 0) (fun k => ?_) hi'
      simp only [impl_AllApart.l0, wi]
      rw [if_pos (by omega), if_pos (by omega), if_pos (by omega), if_pos (by omega), if_pos (by omega)]

theorem allapart_both (l : List Int) (hl : l.length ≤ 1099511627776) : ∃ r, Ev (fun k => spec_AllApart.f k l) r ∧ Ev (fun k => impl_AllApart.f k l) r := by
  by_cases h : l.length ≤ 64
  · obtain ⟨r, h1, h2⟩ := allapart_loops l h l.length 0 (by omega) (by omega)
    refine ⟨r, h1, ?_⟩
    simp only [impl_AllApart.f]
    exact Ev.iteF (by omega) h2
  · refine ⟨false, ?_, ?_⟩
    · simp only [spec_AllApart.f]
      refine Ev.step (f := fun k => spec_AllApart.j1 k l 0 false) (fun k => by simp only [spec_AllApart.l0]; rw [if_pos (by omega), decide_eq_false (by omega)]) ?_
      refine Ev.step (f := fun _ => some false) (fun k => ?_) (Ev.now false)
      simp only [spec_AllApart.j1]
      rw [if_neg (by decide), decide_eq_false (by omega)]
    · simp only [impl_AllApart.f]
      exact Ev.iteT (by omega) (Ev.now false)
end Go.Proofs.Ytijgjpfbhbggdaa.Pure

namespace Go.Proofs.Ytijgjpfbhbggdaa.Com
open Go.RowKit Go.Proofs.YtijgjpfbhbggdaaW.PrintWords
set_option linter.unusedSimpArgs false
set_option linter.unusedVariables false
variable {σ τ ρ υ : Type}
/-- A fold of rounds that hand on to what follows. -/
def foldT (T : σ → τ → (σ → ρ → Prop) → ρ → Prop) (C : σ → ρ → Prop) : List τ → σ → ρ → Prop
  | [], s, r => C s r
  | t :: L, s, r => T s t (foldT T C L) r
def MonoT (T : σ → τ → (σ → ρ → Prop) → ρ → Prop) : Prop := ∀ s t (C D : σ → ρ → Prop) r, (∀ s' r', C s' r' → D s' r') → T s t C r → T s t D r
theorem foldT_mono {T : σ → τ → (σ → ρ → Prop) → ρ → Prop} (hT : MonoT T) {C D : σ → ρ → Prop} (h : ∀ s r, C s r → D s r) (L : List τ) : ∀ s r, foldT T C L s r → foldT T D L s r := by
  induction L with
  | nil => exact h
  | cons t L ih => intro s r; exact hT s t _ _ r ih
/-- A round that goes on with a new state, or ends all with a result. -/
def stepT (step : σ → τ → σ ⊕ ρ) : σ → τ → (σ → ρ → Prop) → ρ → Prop := fun s t C r =>
  match step s t with
  | .inl s' => C s' r
  | .inr r' => r = r'
theorem stepT_mono (step : σ → τ → σ ⊕ ρ) : MonoT (stepT step) := by
  intro s t C D r h hT
  unfold stepT at *
  revert hT
  cases step s t with
  | inl s' => exact fun hT => h _ _ hT
  | inr r' => exact fun hT => hT
/-- A round that is a loop itself. -/
def nestT (T : τ → σ → υ → (σ → ρ → Prop) → ρ → Prop) (L : τ → List υ) : σ → τ → (σ → ρ → Prop) → ρ → Prop := fun s t C r => foldT (T t) C (L t) s r
theorem nestT_mono {T : τ → σ → υ → (σ → ρ → Prop) → ρ → Prop} (hT : ∀ t, MonoT (T t)) (L : τ → List υ) : MonoT (nestT T L) := fun s t C D r h hh => foldT_mono (hT t) h (L t) s r hh
theorem foldT_append (T : σ → τ → (σ → ρ → Prop) → ρ → Prop) (C : σ → ρ → Prop) (A B : List τ) : ∀ s r, foldT T C (A ++ B) s r ↔ foldT T (foldT T C B) A s r := by
  induction A with
  | nil => intro s r; rfl
  | cons t A ih =>
    intro s r
    have e : foldT T C (A ++ B) = foldT T (foldT T C B) A := by funext s r; exact propext (ih s r)
    show T s t (foldT T C (A ++ B)) r ↔ T s t (foldT T (foldT T C B) A) r
    rw [e]
theorem nest_flat (step : σ → υ → σ ⊕ ρ) (L : τ → List υ) (C : σ → ρ → Prop) (J : List τ) : foldT (nestT (fun _ => stepT step) L) C J = foldT (stepT step) C (J.flatMap L) := by
  induction J with
  | nil => rfl
  | cons t J ih =>
    funext s r
    rw [List.flatMap_cons]
    apply propext
    rw [foldT_append]
    show foldT (stepT step) (foldT (nestT (fun _ => stepT step) L) C J) (L t) s r ↔ _
    rw [ih]
def foldX (step : σ → τ → σ ⊕ ρ) (fin : σ → ρ) : List τ → σ → ρ
  | [], s => fin s
  | t :: L, s => match step s t with
    | .inl s' => foldX step fin L s'
    | .inr r => r
theorem foldX_T (step : σ → τ → σ ⊕ ρ) (fin : σ → ρ) {C : σ → ρ → Prop} (hC : ∀ s, C s (fin s)) (L : List τ) : ∀ s, foldT (stepT step) C L s (foldX step fin L s) := by
  induction L with
  | nil => exact hC
  | cons t L ih =>
    intro s
    show stepT step s t _ _
    unfold stepT foldX
    cases h : step s t with
    | inl s' => exact ih s'
    | inr r => rfl
/-- The whole numbers from a on, d of them. -/
def ints (a : Int) : Nat → List Int
  | 0 => []
  | d + 1 => a :: ints (a + 1) d
theorem ints_mem {a x : Int} {d : Nat} (h : x ∈ ints a d) : a ≤ x ∧ x < a + d := by
  induction d generalizing a with
  | zero => simp [ints] at h
  | succ d ih =>
    rcases List.mem_cons.1 h with rfl | h
    · omega
    · have := ih h; omega
/-- A loop that counts from a up to n. -/
theorem rangeLoop {l : Nat → σ → Int → Option ρ} (n : Int) {T : σ → Int → (σ → ρ → Prop) → ρ → Prop} (hT : MonoT T) {C : σ → ρ → Prop} (a0 : Int)
    (hs : ∀ s i, a0 ≤ i → i < n → ∀ r, T s i (fun s' r' => Ev (fun k => l k s' (i + 1)) r') r → Ev (fun k => l k s i) r)
    (he : ∀ s r, C s r → Ev (fun k => l k s n) r) (d : Nat) : ∀ (a : Int), a0 ≤ a → a + d = n → ∀ s r, foldT T C (ints a d) s r → Ev (fun k => l k s a) r := by
  induction d with
  | zero =>
    intro a h0 ha s r h
    obtain rfl : a = n := by omega
    exact he s r h
  | succ d ih =>
    intro a h0 ha s r h
    exact hs s a h0 (by omega) r (hT s a _ _ r (fun s' r' h' => ih (a + 1) (by omega) (by omega) s' r' h') h)
/-- A loop over a list, by its index. -/
theorem listLoop {l : Nat → σ → Int → Option ρ} (L : List τ) (z : τ) {T : σ → τ → (σ → ρ → Prop) → ρ → Prop} (hT : MonoT T) {C : σ → ρ → Prop}
    (hs : ∀ s (i : Int), 0 ≤ i → i < L.length → ∀ r, T s (L.getD i.toNat z) (fun s' r' => Ev (fun k => l k s' (i + 1)) r') r → Ev (fun k => l k s i) r)
    (he : ∀ s r, C s r → Ev (fun k => l k s (L.length : Int)) r) (d : Nat) : ∀ (a : Int), 0 ≤ a → a + d = L.length → ∀ s r, foldT T C (L.drop a.toNat) s r → Ev (fun k => l k s a) r := by
  induction d with
  | zero =>
    intro a h0 ha s r h
    obtain rfl : a = L.length := by omega
    rw [List.drop_of_length_le (by omega)] at h
    exact he s r h
  | succ d ih =>
    intro a h0 ha s r h
    rw [drop_cons L a.toNat z (by omega)] at h
    refine hs s a h0 (by omega) r (hT s _ _ _ r (fun s' r' h' => ih (a + 1) (by omega) (by omega) s' r' ?_) h)
    rw [show (a + 1).toNat = a.toNat + 1 from by omega]
    exact h'
theorem listLoop0 {l : Nat → σ → Int → Option ρ} (L : List τ) (z : τ) {T : σ → τ → (σ → ρ → Prop) → ρ → Prop} (hT : MonoT T) {C : σ → ρ → Prop}
    (hs : ∀ s (i : Int), 0 ≤ i → i < L.length → ∀ r, T s (L.getD i.toNat z) (fun s' r' => Ev (fun k => l k s' (i + 1)) r') r → Ev (fun k => l k s i) r)
    (he : ∀ s r, C s r → Ev (fun k => l k s (L.length : Int)) r) (s : σ) (r : ρ) (h : foldT T C L s r) : Ev (fun k => l k s 0) r :=
  listLoop L z hT hs he L.length 0 (by omega) (by omega) s r (by simpa using h)
/-- Loops that only look: 'all'. -/
theorem foldX_all (p : τ → Bool) (L : List τ) : foldX (σ := Unit) (fun _ t => if p t = true then .inl () else .inr false) (fun _ => true) L () = L.all p := by
  induction L with
  | nil => rfl
  | cons t L ih =>
    simp only [foldX, List.all_cons]
    cases h : p t with
    | true => simp [ih]
    | false => simp
theorem foldT_map (step : σ → τ → σ ⊕ ρ) (f : υ → τ) (C : σ → ρ → Prop) (L : List υ) : foldT (stepT step) C (L.map f) = foldT (stepT fun s u => step s (f u)) C L := by
  induction L with
  | nil => rfl
  | cons t L ih => funext s r; show stepT step s (f t) (foldT (stepT step) C (L.map f)) r = stepT (fun s u => step s (f u)) s t _ r; rw [ih]; rfl
/-- A round that only looks. -/
def allT (p : τ → Bool) : Unit → τ → (Unit → Bool → Prop) → Bool → Prop := fun _ t C r => if p t = true then C () r else r = false
theorem allT_mono (p : τ → Bool) : MonoT (allT p) := by
  intro s t C D r h hT
  unfold allT at *
  cases hp : p t with
  | true => rw [hp] at hT; exact h () r (by simpa using hT)
  | false => rw [hp] at hT; simpa using hT
theorem allT_fold (p : τ → Bool) (C : Unit → Bool → Prop) (L : List τ) : ∀ r, foldT (allT p) C L () r ↔ (if L.all p = true then C () r else r = false) := by
  induction L with
  | nil => intro r; simp [foldT]
  | cons t L ih =>
    intro r
    show (if p t = true then foldT (allT p) C L () r else r = false) ↔ _
    cases hp : p t with
    | true => rw [if_pos rfl, ih]; simp [hp]
    | false => simp [hp]
theorem allT_done (p : τ → Bool) (L : List τ) (C : Unit → Bool → Prop) (hC : C () true) : foldT (allT p) C L () (L.all p) := by
  rw [allT_fold]
  cases h : L.all p <;> simp [hC]
/-- A loop of looks inside a look. -/
theorem allT_nest (p : τ → υ → Bool) (q : τ → Bool) (L : τ → List υ) :
    (fun (s : Unit) (t : τ) (C : Unit → Bool → Prop) (r : Bool) => if q t = true then foldT (allT (p t)) C (L t) s r else r = false) = allT (fun t => q t && (L t).all (p t)) := by
  funext s t C r
  apply propext
  show (if q t = true then foldT (allT (p t)) C (L t) () r else r = false) ↔ (if (q t && (L t).all (p t)) = true then C () r else r = false)
  rw [allT_fold]
  cases q t <;> cases (L t).all (p t) <;> simp
theorem ints_mem_iff {a x : Int} {d : Nat} : x ∈ ints a d ↔ a ≤ x ∧ x < a + d := by
  induction d generalizing a with
  | zero => simp only [ints, List.not_mem_nil, false_iff]; omega
  | succ d ih => simp only [ints, List.mem_cons, ih]; omega
/-- The ascending lists of three of n. -/
def trips (n : Nat) : List (Int × Int × Int) := (ints 0 n).flatMap fun i => (ints (i + 1) ((n : Int) - 1 - i).toNat).flatMap fun j => (ints (j + 1) ((n : Int) - 1 - j).toNat).map fun k => (i, j, k)
theorem trips_mem {n : Nat} {i j k : Int} : (i, j, k) ∈ trips n ↔ 0 ≤ i ∧ i < j ∧ j < k ∧ k < n := by
  simp only [trips, List.mem_flatMap, List.mem_map, ints_mem_iff]
  constructor
  · rintro ⟨i', hi, j', hj, k', hk, he⟩
    simp only [Prod.mk.injEq] at he
    omega
  · rintro ⟨h0, h1, h2, h3⟩
    exact ⟨i, by omega, j, by omega, k, by omega, rfl⟩
def quads (n : Nat) : List (Int × Int × Int × Int) := (trips n).flatMap fun t => (ints (t.2.2 + 1) ((n : Int) - 1 - t.2.2).toNat).map fun l => (t.1, t.2.1, t.2.2, l)
theorem quads_mem {n : Nat} {i j k l : Int} : (i, j, k, l) ∈ quads n ↔ 0 ≤ i ∧ i < j ∧ j < k ∧ k < l ∧ l < n := by
  simp only [quads, List.mem_flatMap, List.mem_map, ints_mem_iff]
  constructor
  · rintro ⟨⟨i', j', k'⟩, ht, l', hl, he⟩
    rw [trips_mem] at ht
    simp only [Prod.mk.injEq] at he hl
    omega
  · rintro ⟨h0, h1, h2, h3, h4⟩
    exact ⟨(i, j, k), by rw [trips_mem]; omega, l, by simp only; omega, rfl⟩
def pairs (n : Nat) : List (Int × Int) := (ints 0 n).flatMap fun i => (ints (i + 1) ((n : Int) - 1 - i).toNat).map fun j => (i, j)
theorem pairs_mem {n : Nat} {i j : Int} : (i, j) ∈ pairs n ↔ 0 ≤ i ∧ i < j ∧ j < n := by
  simp only [pairs, List.mem_flatMap, List.mem_map, ints_mem_iff]
  constructor
  · rintro ⟨i', hi, j', hj, he⟩
    simp only [Prod.mk.injEq] at he
    omega
  · rintro ⟨h0, h1, h2⟩
    exact ⟨i, by omega, j, by omega, rfl⟩
/-- Three loops in each other, over the ascending lists of three of n. -/
theorem tripLoop {l0 : Nat → σ → Int → Option ρ} {l1 : Nat → σ → Int → Int → Option ρ} {l2 : Nat → σ → Int → Int → Int → Option ρ} (n : Nat) (step : σ → (Int × Int × Int) → σ ⊕ ρ) (fin : σ → ρ)
    (h2 : ∀ s i j k, 0 ≤ i → i < j → j < k → k < (n : Int) → ∀ r, stepT step s (i, j, k) (fun s' r' => Ev (fun q => l2 q s' i j (k + 1)) r') r → Ev (fun q => l2 q s i j k) r)
    (h2e : ∀ s i j, 0 ≤ i → i < j → j < (n : Int) → ∀ r, Ev (fun q => l1 q s i (j + 1)) r → Ev (fun q => l2 q s i j n) r)
    (h1 : ∀ s i j, 0 ≤ i → i < j → j < (n : Int) → ∀ r, Ev (fun q => l2 q s i j (j + 1)) r → Ev (fun q => l1 q s i j) r)
    (h1e : ∀ s i, 0 ≤ i → i < (n : Int) → ∀ r, Ev (fun q => l0 q s (i + 1)) r → Ev (fun q => l1 q s i n) r)
    (h0 : ∀ s i, 0 ≤ i → i < (n : Int) → ∀ r, Ev (fun q => l1 q s i (i + 1)) r → Ev (fun q => l0 q s i) r)
    (h0e : ∀ s, Ev (fun q => l0 q s n) (fin s)) (s : σ) : Ev (fun q => l0 q s 0) (foldX step fin (trips n) s) := by
  have hT := foldX_T step fin (C := fun s r => r = fin s) (fun _ => rfl) (trips n) s
  unfold trips at hT
  rw [← nest_flat] at hT
  refine rangeLoop (l := l0) (n : Int) (nestT_mono (fun _ => stepT_mono step) _) (C := fun s r => r = fin s) 0 ?_ (fun s r h => by subst h; exact h0e s) n 0 (by omega) (by omega) s _ hT
  intro s i hi0 hin r hT
  refine h0 s i hi0 hin r ?_
  unfold nestT at hT
  rw [← nest_flat] at hT
  refine rangeLoop (l := fun q s j => l1 q s i j) (n : Int) (nestT_mono (fun _ => stepT_mono step) _) (i + 1) ?_ (fun s r h => h1e s i hi0 hin r h) ((n : Int) - 1 - i).toNat (i + 1) (by omega) (by omega) s r hT
  intro s j hj0 hjn r hT
  refine h1 s i j hi0 (by omega) hjn r ?_
  unfold nestT at hT
  rw [foldT_map] at hT
  refine rangeLoop (l := fun q s k => l2 q s i j k) (n : Int) (stepT_mono _) (j + 1) ?_ (fun s r h => h2e s i j hi0 (by omega) hjn r h) ((n : Int) - 1 - j).toNat (j + 1) (by omega) (by omega) s r hT
  intro s k hk0 hkn r hT
  exact h2 s i j k hi0 (by omega) (by omega) hkn r hT
/-- Two loops in each other, over the ascending lists of two of n. -/
theorem pairLoop {l0 : Nat → σ → Int → Option ρ} {l1 : Nat → σ → Int → Int → Option ρ} (n : Nat) (step : σ → (Int × Int) → σ ⊕ ρ) (fin : σ → ρ)
    (h1 : ∀ s i j, 0 ≤ i → i < j → j < (n : Int) → ∀ r, stepT step s (i, j) (fun s' r' => Ev (fun q => l1 q s' i (j + 1)) r') r → Ev (fun q => l1 q s i j) r)
    (h1e : ∀ s i, 0 ≤ i → i < (n : Int) → ∀ r, Ev (fun q => l0 q s (i + 1)) r → Ev (fun q => l1 q s i n) r)
    (h0 : ∀ s i, 0 ≤ i → i < (n : Int) → ∀ r, Ev (fun q => l1 q s i (i + 1)) r → Ev (fun q => l0 q s i) r)
    (h0e : ∀ s, Ev (fun q => l0 q s n) (fin s)) (s : σ) : Ev (fun q => l0 q s 0) (foldX step fin (pairs n) s) := by
  have hT := foldX_T step fin (C := fun s r => r = fin s) (fun _ => rfl) (pairs n) s
  unfold pairs at hT
  rw [← nest_flat] at hT
  refine rangeLoop (l := l0) (n : Int) (nestT_mono (fun _ => stepT_mono step) _) (C := fun s r => r = fin s) 0 ?_ (fun s r h => by subst h; exact h0e s) n 0 (by omega) (by omega) s _ hT
  intro s i hi0 hin r hT
  refine h0 s i hi0 hin r ?_
  unfold nestT at hT
  rw [foldT_map] at hT
  refine rangeLoop (l := fun q s j => l1 q s i j) (n : Int) (stepT_mono _) (i + 1) ?_ (fun s r h => h1e s i hi0 hin r h) ((n : Int) - 1 - i).toNat (i + 1) (by omega) (by omega) s r hT
  intro s j hj0 hjn r hT
  exact h1 s i j hi0 (by omega) hjn r hT
/-- Two loops in each other, each over all numbers below a bound. -/
theorem gridLoop {l0 : Nat → σ → Int → Option ρ} {l1 : Nat → σ → Int → Int → Option ρ} (n m : Nat) (step : σ → (Int × Int) → σ ⊕ ρ) (fin : σ → ρ)
    (h1 : ∀ s i j, 0 ≤ i → i < (n : Int) → 0 ≤ j → j < (m : Int) → ∀ r, stepT step s (i, j) (fun s' r' => Ev (fun q => l1 q s' i (j + 1)) r') r → Ev (fun q => l1 q s i j) r)
    (h1e : ∀ s i, 0 ≤ i → i < (n : Int) → ∀ r, Ev (fun q => l0 q s (i + 1)) r → Ev (fun q => l1 q s i m) r)
    (h0 : ∀ s i, 0 ≤ i → i < (n : Int) → ∀ r, Ev (fun q => l1 q s i 0) r → Ev (fun q => l0 q s i) r)
    (h0e : ∀ s, Ev (fun q => l0 q s n) (fin s)) (s : σ) : Ev (fun q => l0 q s 0) (foldX step fin ((ints 0 n).flatMap fun i => (ints 0 m).map fun j => (i, j)) s) := by
  have hT := foldX_T step fin (C := fun s r => r = fin s) (fun _ => rfl) ((ints 0 n).flatMap fun i => (ints 0 m).map fun j => (i, j)) s
  rw [← nest_flat] at hT
  refine rangeLoop (l := l0) (n : Int) (nestT_mono (fun _ => stepT_mono step) _) (C := fun s r => r = fin s) 0 ?_ (fun s r h => by subst h; exact h0e s) n 0 (by omega) (by omega) s _ hT
  intro s i hi0 hin r hT
  refine h0 s i hi0 hin r ?_
  unfold nestT at hT
  rw [foldT_map] at hT
  refine rangeLoop (l := fun q s j => l1 q s i j) (m : Int) (stepT_mono _) 0 ?_ (fun s r h => h1e s i hi0 hin r h) m 0 (by omega) (by omega) s r hT
  intro s j hj0 hjn r hT
  exact h1 s i j hi0 hin hj0 hjn r hT
/-- A loop over a list whose rounds hand on a state. -/
theorem foldLoop {l0 : Nat → σ → Int → Option ρ} (L : List τ) (z : τ) (step : σ → τ → σ ⊕ ρ) (fin : σ → ρ)
    (hs : ∀ s (i : Int), 0 ≤ i → i < L.length → L.getD i.toNat z ∈ L → ∀ r, stepT step s (L.getD i.toNat z) (fun s' r' => Ev (fun k => l0 k s' (i + 1)) r') r → Ev (fun k => l0 k s i) r)
    (he : ∀ s, Ev (fun k => l0 k s (L.length : Int)) (fin s)) (s : σ) : Ev (fun k => l0 k s 0) (foldX step fin L s) :=
  listLoop0 L z (stepT_mono step) (C := fun s r => r = fin s) (fun s i h0 h1 r h => hs s i h0 h1 (getD_mem L i.toNat z (by omega)) r h) (fun s r h => by subst h; exact he s) s _ (foldX_T step fin (C := fun s r => r = fin s) (fun _ => rfl) L s)
theorem stepT_inl {step : σ → τ → σ ⊕ ρ} {s : σ} {t : τ} {C : σ → ρ → Prop} {r : ρ} {s' : σ} (h : stepT step s t C r) (e : step s t = .inl s') : C s' r := by unfold stepT at h; rw [e] at h; exact h
theorem stepT_inr {step : σ → τ → σ ⊕ ρ} {s : σ} {t : τ} {C : σ → ρ → Prop} {r : ρ} {r' : ρ} (h : stepT step s t C r) (e : step s t = .inr r') : r = r' := by unfold stepT at h; rw [e] at h; exact h
theorem foldX_map (step : σ → τ → σ ⊕ ρ) (fin : σ → ρ) (f : υ → τ) (L : List υ) : ∀ s, foldX step fin (L.map f) s = foldX (fun s u => step s (f u)) fin L s := by
  induction L with
  | nil => intro s; rfl
  | cons t L ih => intro s; simp only [List.map_cons, foldX]; cases step s (f t) <;> simp [ih]
theorem foldX_congr {step step' : σ → τ → σ ⊕ ρ} (fin : σ → ρ) (L : List τ) (h : ∀ s, ∀ t ∈ L, step s t = step' s t) : ∀ s, foldX step fin L s = foldX step' fin L s := by
  induction L with
  | nil => intro s; rfl
  | cons t L ih =>
    intro s
    have ih' := ih (fun s t ht => h s t (List.mem_cons_of_mem _ ht))
    simp only [foldX, h s t List.mem_cons_self, ih']
theorem foldT_foldl (g : σ → τ → σ) (C : σ → ρ → Prop) (L : List τ) : ∀ s r, foldT (stepT fun s t => .inl (g s t)) C L s r ↔ C (L.foldl g s) r := by
  induction L with
  | nil => intro s r; exact Iff.rfl
  | cons t L ih => intro s r; exact ih (g s t) r
theorem foldX_foldl (g : σ → τ → σ) (fin : σ → ρ) (L : List τ) : ∀ s, foldX (fun s t => .inl (g s t)) fin L s = fin (L.foldl g s) := by
  induction L with
  | nil => intro s; rfl
  | cons t L ih => intro s; exact ih (g s t)
theorem ints_len (a : Int) (d : Nat) : (ints a d).length = d := by
  induction d generalizing a with
  | zero => rfl
  | succ d ih => simp [ints, ih]
end Go.Proofs.Ytijgjpfbhbggdaa.Com

namespace Go.Proofs.Ytijgjpfbhbggdaa.Com
open Go.RowKit Go.Proofs.YtijgjpfbhbggdaaW.PrintWords
set_option linter.unusedSimpArgs false
set_option linter.unusedVariables false
variable {σ τ ρ υ : Type}
theorem nest_flatT {T : σ → υ → (σ → ρ → Prop) → ρ → Prop} (hT : MonoT T) (L : τ → List υ) (C : σ → ρ → Prop) (J : List τ) : ∀ s r, foldT (nestT (fun _ => T) L) C J s r ↔ foldT T C (J.flatMap L) s r := by
  induction J with
  | nil => intro s r; exact Iff.rfl
  | cons t J ih =>
    intro s r
    rw [List.flatMap_cons, foldT_append]
    exact ⟨fun h => foldT_mono hT (fun s r => (ih s r).1) (L t) s r h, fun h => foldT_mono hT (fun s r => (ih s r).2) (L t) s r h⟩
theorem foldT_mapT (T : σ → τ → (σ → ρ → Prop) → ρ → Prop) (f : υ → τ) (C : σ → ρ → Prop) (L : List υ) : ∀ s r, foldT T C (L.map f) s r ↔ foldT (fun s u => T s (f u)) C L s r := by
  induction L with
  | nil => intro s r; exact Iff.rfl
  | cons u L ih =>
    have e : foldT T C (L.map f) = foldT (fun s u => T s (f u)) C L := by funext s r; exact propext (ih s r)
    intro s r
    show T s (f u) (foldT T C (L.map f)) r ↔ T s (f u) (foldT (fun s u => T s (f u)) C L) r
    rw [e]
/-- Three loops in each other, over the ascending lists of three of n. -/
theorem tripLoopT {l0 : Nat → σ → Int → Option ρ} {l1 : Nat → σ → Int → Int → Option ρ} {l2 : Nat → σ → Int → Int → Int → Option ρ} (n : Nat) {T : σ → (Int × Int × Int) → (σ → ρ → Prop) → ρ → Prop} (hM : MonoT T) {C : σ → ρ → Prop}
    (h2 : ∀ s i j k, 0 ≤ i → i < j → j < k → k < (n : Int) → ∀ r, T s (i, j, k) (fun s' r' => Ev (fun q => l2 q s' i j (k + 1)) r') r → Ev (fun q => l2 q s i j k) r)
    (h2e : ∀ s i j, 0 ≤ i → i < j → j < (n : Int) → ∀ r, Ev (fun q => l1 q s i (j + 1)) r → Ev (fun q => l2 q s i j n) r)
    (h1 : ∀ s i j, 0 ≤ i → i < j → j < (n : Int) → ∀ r, Ev (fun q => l2 q s i j (j + 1)) r → Ev (fun q => l1 q s i j) r)
    (h1e : ∀ s i, 0 ≤ i → i < (n : Int) → ∀ r, Ev (fun q => l0 q s (i + 1)) r → Ev (fun q => l1 q s i n) r)
    (h0 : ∀ s i, 0 ≤ i → i < (n : Int) → ∀ r, Ev (fun q => l1 q s i (i + 1)) r → Ev (fun q => l0 q s i) r)
    (h0e : ∀ s r, C s r → Ev (fun q => l0 q s n) r) (s : σ) (r : ρ) (hT : foldT T C (trips n) s r) : Ev (fun q => l0 q s 0) r := by
  unfold trips at hT
  rw [← nest_flatT hM] at hT
  refine rangeLoop (l := l0) (n : Int) (nestT_mono (fun _ => hM) _) (C := C) 0 ?_ h0e n 0 (by omega) (by omega) s _ hT
  intro s i hi0 hin r hT
  refine h0 s i hi0 hin r ?_
  unfold nestT at hT
  rw [← nest_flatT hM] at hT
  refine rangeLoop (l := fun q s j => l1 q s i j) (n : Int) (nestT_mono (fun _ => hM) _) (i + 1) ?_ (fun s r h => h1e s i hi0 hin r h) ((n : Int) - 1 - i).toNat (i + 1) (by omega) (by omega) s r hT
  intro s j hj0 hjn r hT
  refine h1 s i j hi0 (by omega) hjn r ?_
  unfold nestT at hT
  rw [foldT_mapT] at hT
  refine rangeLoop (l := fun q s k => l2 q s i j k) (n : Int) (T := fun s k => T s (i, j, k)) (fun s t C D r h hh => hM s _ C D r h hh) (j + 1) ?_ (fun s r h => h2e s i j hi0 (by omega) hjn r h) ((n : Int) - 1 - j).toNat (j + 1) (by omega) (by omega) s r hT
  intro s k hk0 hkn r hT
  exact h2 s i j k hi0 (by omega) (by omega) hkn r hT
/-- A round that may put a value behind the row. -/
def pushT (g : τ → Option υ) : List υ → τ → (List υ → ρ → Prop) → ρ → Prop := fun s t C r =>
  match g t with
  | some v => s.length < 1000000 ∧ C (s ++ [v]) r
  | none => C s r
theorem pushT_mono (g : τ → Option υ) : MonoT (pushT (ρ := ρ) g) := by
  intro s t C D r h hT
  unfold pushT at *
  revert hT
  cases g t with
  | some v => exact fun hT => ⟨hT.1, h _ _ hT.2⟩
  | none => exact fun hT => h _ _ hT
theorem pushT_fold (g : τ → Option υ) (C : List υ → ρ → Prop) (L : List τ) : ∀ s r, s.length + L.length ≤ 1000000 → C (s ++ L.filterMap g) r → foldT (pushT g) C L s r := by
  induction L with
  | nil => intro s r _ h; show C s r; simpa using h
  | cons t L ih =>
    intro s r hb h
    simp only [List.length_cons] at hb
    show pushT g s t _ r
    unfold pushT
    cases hg : g t with
    | some v =>
      refine ⟨by omega, ih _ _ (by simp; omega) ?_⟩
      rw [List.filterMap_cons, hg] at h
      simpa using h
    | none =>
      refine ih _ _ (by omega) ?_
      rw [List.filterMap_cons, hg] at h
      exact h
theorem pushT_some {g : τ → Option υ} {s : List υ} {t : τ} {C : List υ → ρ → Prop} {r : ρ} {v : υ} (h : pushT g s t C r) (e : g t = some v) : s.length < 1000000 ∧ C (s ++ [v]) r := by unfold pushT at h; rw [e] at h; exact h
theorem pushT_none {g : τ → Option υ} {s : List υ} {t : τ} {C : List υ → ρ → Prop} {r : ρ} (h : pushT g s t C r) (e : g t = none) : C s r := by unfold pushT at h; rw [e] at h; exact h
end Go.Proofs.Ytijgjpfbhbggdaa.Com

namespace Go.Proofs.Ytijgjpfbhbggdaa.Pure
open Go.RowKit Go.Proofs.Ytijgjpfbhbggdaa.P Go.Proofs.YtijgjpfbhbggdaaW.PrintWords Go.Proofs.YtijgjpfbhbggdaaW.PrintLast Go.Proofs.Ytijgjpfbhbggdaa.Com
set_option linter.unusedSimpArgs false
set_option linter.unusedVariables false

theorem allapart_long {l : List Int} (hl : 64 < l.length) (hm : l.length ≤ 1099511627776) : Ev (fun k => impl_AllApart.f k l) false := by
  simp only [impl_AllApart.f]
  exact Ev.iteT (by omega) (Ev.now false)
theorem ev_one {α : Type} {g : Nat → Option α} {a b : α} (h : Ev g a) (k : Ev g b) : a = b := by
  obtain ⟨K, h⟩ := h
  obtain ⟨K', k⟩ := k
  have h1 := h (max K K') (by omega)
  rw [k (max K K') (by omega)] at h1
  exact (Option.some.inj h1).symm
theorem stepT_to_inl {σ τ ρ : Type} {step : σ → τ → σ ⊕ ρ} {s : σ} {t : τ} {C : σ → ρ → Prop} {r : ρ} {s' : σ} (e : step s t = .inl s') (h : C s' r) : Com.stepT step s t C r := by unfold Com.stepT; rw [e]; exact h
theorem stepT_to_inr {σ τ ρ : Type} {step : σ → τ → σ ⊕ ρ} {s : σ} {t : τ} {C : σ → ρ → Prop} {r : ρ} (e : step s t = .inr r) : Com.stepT step s t C r := by unfold Com.stepT; rw [e]
/-- A look for a value: what it comes to. -/
theorem l27Has_ev (l : List Int) (x : Int) (hl : l.length ≤ 1048576) : Ev (fun k => spec_l27Has.f k l x) (l.any (fun y => y == x)) := by
  simp only [spec_l27Has.f]
  refine listLoop0 (l := fun k (_ : Unit) i => spec_l27Has.l0 k l x i) l 0 (stepT_mono (fun _ t => if (t == x) = true then .inr true else .inl ())) (C := fun _ r => r = false) ?_ ?_ () _ ?_
  · intro s i h0 h1 r hT
    by_cases h : rd l i = x
    · have e : r = true := stepT_inr hT (if_pos (beq_iff_eq.2 (show l.getD i.toNat 0 = x from h)))
      subst e
      refine Ev.step (f := fun _ => some true) (fun k => ?_) (Ev.now true)
      simp only [spec_l27Has.l0]
      rw [if_pos h1, if_pos h0, if_pos h]
    · have hT' := stepT_inl hT (s' := ()) (if_neg (fun e => h (beq_iff_eq.1 e)))
      refine Ev.step (fun k => ?_) hT'
      simp only [spec_l27Has.l0]
      rw [if_pos h1, if_pos h0, if_neg h, w64 (by omega) (by omega)]
  · intro s r h
    subst h
    refine Ev.step (f := fun _ => some false) (fun k => ?_) (Ev.now false)
    simp only [spec_l27Has.l0]
    rw [if_neg (by omega)]
  · generalize hL : l = L
    clear hL hl
    induction L with
    | nil => rfl
    | cons t L ih =>
      by_cases h : (t == x) = true
      · rw [List.any_cons, h, Bool.true_or]
        exact stepT_to_inr (if_pos h)
      · rw [List.any_cons, Bool.eq_false_iff.2 h, Bool.false_or]
        exact stepT_to_inl (if_neg h) ih
theorem contains_ev (l : List Int) (x : Int) (hl : l.length ≤ 1048576) : Ev (fun k => slices_Contains_int_int.f k l x) (l.any (fun y => y == x)) := by
  have hi : ∃ i : Int, decide (i ≥ 0) = l.any (fun y => y == x) ∧ Ev (fun k => slices_Index_int_int.f k l x) i := by
    simp only [slices_Index_int_int.f]
    have key : ∀ (d : Nat) (a : Int), 0 ≤ a → a + d = l.length → ∃ i : Int, decide (i ≥ 0) = (l.drop a.toNat).any (fun y => y == x) ∧ Ev (fun k => slices_Index_int_int.l0 k l x l.length a) i := by
      intro d
      induction d with
      | zero =>
        intro a h0 ha
        refine ⟨-1, by rw [List.drop_of_length_le (by omega)]; rfl, ?_⟩
        refine Ev.step (f := fun _ => some (-1)) (fun k => ?_) (Ev.now _)
        simp only [slices_Index_int_int.l0]
        rw [if_neg (by omega)]
      | succ d ih =>
        intro a h0 ha
        rw [drop_cons l a.toNat 0 (by omega)]
        by_cases h : x = rd l a
        · refine ⟨a, by rw [show l.getD a.toNat 0 = x from h.symm]; simp [h0], ?_⟩
          refine Ev.step (f := fun _ => some a) (fun k => ?_) (Ev.now _)
          simp only [slices_Index_int_int.l0]
          rw [if_pos (by omega), if_pos h0, if_pos (by omega), if_pos h]
        · obtain ⟨i, hi, he⟩ := ih (a + 1) (by omega) (by omega)
          have hne : (l.getD a.toNat 0 == x) = false := by
            rw [show l.getD a.toNat 0 = rd l a from rfl]
            exact beq_eq_false_iff_ne.2 (fun e => h e.symm)
          refine ⟨i, by rw [hi, show (a + 1).toNat = a.toNat + 1 from by omega, List.any_cons, hne, Bool.false_or], Ev.step (fun k => ?_) he⟩
          simp only [slices_Index_int_int.l0]
          rw [if_pos (by omega), if_pos h0, if_pos (by omega), if_neg h, w64 (by omega) (by omega)]
    simpa using key l.length 0 (by omega) (by omega)
  obtain ⟨i, h1, h2⟩ := hi
  simp only [slices_Contains_int_int.f]
  refine Ev.bind h2 ?_
  rw [h1]
  exact Ev.now _
theorem anyNot_ev (l : List Int) (a : Int) : Ev (fun k => anyNot k a l) (!l.all (fun b => apart a b)) := by
  induction l with
  | nil => exact Ev.now false
  | cons b l ih =>
    show Ev (fun k => (impl_AreApart.f k a b).bind fun r => (anyNot k a l).bind fun s => some (!r || s)) _
    refine Ev.bind (apart_impl_ev a b) (Ev.bind ih ?_)
    have e : (!apart a b || !l.all (fun b => apart a b)) = !(List.all (b :: l) fun b => apart a b) := by simp
    rw [e]
    exact Ev.now _
/-- May it be put to the sets? -/
noncomputable def fine (l : List Int) (a : Int) : Bool := !l.any (fun y => y == a) && l.all (fun b => apart a b)
noncomputable def fineL (l : List Int) (n : Nat) : List Int := (ints 0 (2 ^ n)).filterMap (fun a => if fine l a = true then some a else none)
theorem fineL_length (l : List Int) (n : Nat) (hn : n ≤ 6) : (fineL l n).length ≤ 64 := by
  unfold fineL
  have h := List.length_filterMap_le (fun a => if fine l a = true then some a else none) (ints 0 (2 ^ n))
  rw [ints_len] at h
  have : (2 : Nat) ^ n ≤ 2 ^ 6 := Nat.pow_le_pow_right (by omega) hn
  omega
theorem two_le {n : Nat} (hn : n ≤ 6) : (2 : Nat) ^ n ≤ 64 := Nat.pow_le_pow_right (n := 2) (by omega) hn
theorem shl_two (n : Nat) (hn : n ≤ 6) : shl .i64 1 (n : Int) = ((2 ^ n : Nat) : Int) := by
  have : n = 0 ∨ n = 1 ∨ n = 2 ∨ n = 3 ∨ n = 4 ∨ n = 5 ∨ n = 6 := by omega
  rcases this with rfl | rfl | rfl | rfl | rfl | rfl | rfl <;> decide +kernel
theorem impl_canadd_loop (l : List Int) (hl : l.length ≤ 1048576) (n : Nat) (hn : n ≤ 6) : Ev (fun k => impl_CanAdd.l0 k l (n : Int) [] 0) (fineL l n) := by
  have h64 := two_le hn
  have hsh := shl_two n hn
  unfold fineL
  generalize 2 ^ n = N at h64 hsh
  have hfull : impl_fullSet.f (n : Int) = some ((N : Int) - 1) := by
    simp only [impl_fullSet.f]
    rw [if_pos (by omega), hsh, w64 (by omega) (by omega)]
  refine rangeLoop (l := fun k s a => impl_CanAdd.l0 k l (n : Int) s a) (N : Int) (pushT_mono (fun a => if fine l a = true then some a else none)) (C := fun s r => r = s) 0 ?_ ?_ N 0 (by omega) (by omega) [] _ (pushT_fold _ _ _ [] _ (by rw [ints_len]; simp; omega) rfl)
  · intro s a h0 h1 r hT
    refine Ev.step (f := fun k => (slices_Contains_int_int.f k l a).bind fun c => if c = true then impl_CanAdd.l0 k l n s (a + 1) else ((anyNot k a l).bind fun d => if d = true then impl_CanAdd.l0 k l n s (a + 1) else (if s.length < 17592186044416 then impl_CanAdd.l0 k l n (s ++ [a]) (a + 1) else none))) (fun k => ?_) ?_
    · simp only [impl_CanAdd.l0, hfull, Option.bind_some]
      rw [if_pos (by omega), w64 (by omega) (by omega)]
    · refine Ev.bind (contains_ev l a hl) ?_
      cases hc : l.any (fun y => y == a) with
      | true =>
        have hT' := pushT_none hT (by simp [fine, hc])
        exact Ev.iteT rfl hT'
      | false =>
        refine Ev.iteF (by simp) (Ev.bind (anyNot_ev l a) ?_)
        cases hd : l.all (fun b => apart a b) with
        | true =>
          have hT' := pushT_some hT (v := a) (by simp [fine, hc, hd])
          exact Ev.iteF (by simp) (Ev.iteT (by omega) hT'.2)
        | false =>
          have hT' := pushT_none hT (by simp [fine, hd])
          exact Ev.iteT rfl hT'
  · intro s r h
    subst h
    refine Ev.step (f := fun _ => some r) (fun k => ?_) (Ev.now r)
    simp only [impl_CanAdd.l0, hfull, Option.bind_some]
    rw [if_neg (by omega)]
theorem foldl_and (p : Int → Bool) (L : List Int) : ∀ b, L.foldl (fun b t => b && p t) b = (b && L.all p) := by
  induction L with
  | nil => intro b; simp
  | cons t L ih => intro b; simp [ih, Bool.and_assoc]
theorem spec_canadd_loop (l : List Int) (hl : l.length ≤ 1048576) (n : Nat) (hn : n ≤ 6) : Ev (fun k => spec_CanAdd.l0 k l (n : Int) [] 0) (fineL l n) := by
  have h64 := two_le hn
  have hu : IntKind.u64.wrap (n : Int) = (n : Int) := by
    show (n : Int) % 18446744073709551616 = n
    omega
  have hsh := shl_two n hn
  unfold fineL
  generalize 2 ^ n = N at h64 hsh
  refine rangeLoop (l := fun k s a => spec_CanAdd.l0 k l (n : Int) s a) (N : Int) (pushT_mono (fun a => if fine l a = true then some a else none)) (C := fun s r => r = s) 0 ?_ ?_ N 0 (by omega) (by omega) [] _ (pushT_fold _ _ _ [] _ (by rw [ints_len]; simp; omega) rfl)
  · intro s a h0 h1 r hT
    refine Ev.step (f := fun k => (spec_l27Has.f k l a).bind fun t => spec_CanAdd.l1 k l n s a (!t) 0) (fun k => ?_) ?_
    · simp only [spec_CanAdd.l0, hu, hsh]
      rw [if_pos (by omega), if_pos (by omega)]
    · refine Ev.bind (l27Has_ev l a hl) ?_
      refine listLoop0 (l := fun k b i => spec_CanAdd.l1 k l n s a b i) l 0 (stepT_mono (fun b t => .inl (b && apart a t))) (C := fun b r => if b = true then s.length < 1000000 ∧ Ev (fun k => spec_CanAdd.l0 k l n (s ++ [a]) (a + 1)) r else Ev (fun k => spec_CanAdd.l0 k l n s (a + 1)) r) ?_ ?_ _ _ ?_
      · intro b i hi0 hi1 r hT
        have hT' := stepT_inl hT rfl
        refine Ev.step (f := fun k => if b = true then (spec_AreApart.f k a (rd l i)).bind (fun t => spec_CanAdd.l1 k l n s a t (i + 1)) else spec_CanAdd.l1 k l n s a false (i + 1)) (fun k => ?_) ?_
        · simp only [spec_CanAdd.l1]
          rw [if_pos (by omega), if_pos hi0, w64 (by omega) (by omega)]
        · cases b with
          | true => exact Ev.iteT rfl (Ev.bind (apart_spec_ev a (rd l i)) hT')
          | false => exact Ev.iteF (by simp) hT'
      · intro b r h
        refine Ev.step (f := fun k => if b = true then (if s.length < 17592186044416 then spec_CanAdd.l0 k l n (s ++ [a]) (a + 1) else none) else spec_CanAdd.l0 k l n s (a + 1)) (fun k => ?_) ?_
        · simp only [spec_CanAdd.l1]
          rw [if_neg (by omega), w64 (by omega) (by omega)]
        · cases b with
          | true => exact Ev.iteT rfl (Ev.iteT (by have := h; simp at this; omega) (by have := h; simp at this; exact this.2))
          | false => exact Ev.iteF (by simp) (by simpa using h)
      · rw [foldT_foldl, foldl_and]
        by_cases hf : fine l a = true
        · have hT' := pushT_some hT (v := a) (by simp [hf])
          rw [if_pos (by simpa [fine] using hf)]
          exact hT'
        · have hT' := pushT_none hT (by simp [hf])
          rw [if_neg (by simpa [fine] using hf)]
          exact hT'
  · intro s r h
    subst h
    refine Ev.step (f := fun _ => some r) (fun k => ?_) (Ev.now r)
    simp only [spec_CanAdd.l0, hu, hsh]
    rw [if_pos (by omega), if_neg (by omega)]
theorem canadd_both (l : List Int) (n : Int) (hl : l.length ≤ 1048576) : ∃ r : List Int, r.length ≤ 64 ∧ Ev (fun k => spec_CanAdd.f k l n) r ∧ Ev (fun k => impl_CanAdd.f k l n) r := by
  obtain ⟨b, hs, hi⟩ := allapart_both l (by omega)
  simp only [spec_CanAdd.f, impl_CanAdd.f, Option.bind_some]
  have hno : ∀ v, Ev (fun k => spec_CanAdd.j0 k l n [] v) (if v = true then ([] : List Int) else []) → True := fun _ _ => trivial
  have hout : Ev (fun k => spec_CanAdd.j0 k l n [] true) [] := Ev.step (f := fun _ => some []) (fun k => by simp only [spec_CanAdd.j0, if_true]) (Ev.now _)
  cases b with
  | false => exact ⟨[], by simp, Ev.bind hs (Ev.iteF (by simp) hout), Ev.bind hi (Ev.iteF (by simp) (Ev.now _))⟩
  | true =>
    by_cases hn : 3 ≤ n ∧ n ≤ 6
    · obtain ⟨m, rfl⟩ : ∃ m : Nat, n = m := ⟨n.toNat, by omega⟩
      refine ⟨fineL l m, fineL_length l m (by omega), Ev.bind hs (Ev.iteT rfl ?_), Ev.bind hi (Ev.iteT rfl ?_)⟩
      · simp only [spec_l1In.f]
        rw [if_pos (by omega), decide_eq_true hn.2]
        simp only [Option.bind_some, Bool.not_true]
        refine Ev.step (f := fun k => spec_CanAdd.l0 k l m [] 0) (fun k => by simp only [spec_CanAdd.j0, Bool.false_eq_true, if_false]) (spec_canadd_loop l hl m (by omega))
      · simp only [impl_isWires.f]
        rw [if_pos (by omega), decide_eq_true hn.2]
        simp only [Option.bind_some, if_true]
        exact impl_canadd_loop l hl m (by omega)
    · refine ⟨[], by simp, Ev.bind hs (Ev.iteT rfl ?_), Ev.bind hi (Ev.iteT rfl ?_)⟩
      · have e : spec_l1In.f n 3 6 = some false := by
          simp only [spec_l1In.f]
          split
          · rw [decide_eq_false (by omega)]
          · rfl
        rw [e]
        exact hout
      · have e : impl_isWires.f n = some false := by
          simp only [impl_isWires.f]
          split
          · rw [decide_eq_false (by omega)]
          · rfl
        rw [e]
        exact Ev.now _
end Go.Proofs.Ytijgjpfbhbggdaa.Pure

namespace Go.Proofs.Ytijgjpfbhbggdaa.Pure
open Go.RowKit Go.Proofs.Ytijgjpfbhbggdaa.P Go.Proofs.YtijgjpfbhbggdaaW.PrintWords Go.Proofs.YtijgjpfbhbggdaaW.PrintLast
set_option linter.unusedSimpArgs false
set_option linter.unusedVariables false
open Go.Proofs.Ytijgjpfbhbggdaa.Com
theorem toIntS_l0 (l : List Int) (hm : l.length ≤ 1099511627776) (d : Nat) : ∀ (k : Nat) (i : Int) (out : List Int), 0 ≤ i → i + d = l.length → out.length = l.length → d < k →
    laws_toIntS.l0 k l out i = some (out.take i.toNat ++ l.drop i.toNat) := by
  induction d with
  | zero =>
    intro k i out h0 hi ho hk
    obtain ⟨k, rfl, _⟩ := succ_of_lt hk
    simp only [laws_toIntS.l0]
    rw [if_neg (by omega), List.take_of_length_le (by omega), List.drop_of_length_le (by omega)]; simp
  | succ d ih =>
    intro k i out h0 hi ho hk
    obtain ⟨k, rfl, hk⟩ := succ_of_lt hk
    have hlt : i.toNat < out.length := by omega
    simp only [laws_toIntS.l0]
    rw [if_pos (by omega), if_pos h0, if_pos (by omega), w64 (by omega) (by omega), ih k (i + 1) _ (by omega) (by omega) (by simpa using ho) (by omega)]
    rw [show (i + 1).toNat = i.toNat + 1 from by omega, set_take_succ _ _ _ hlt, drop_cons l i.toNat 0 (by omega)]
    simp [rd]
theorem toIntS_eq (l : List Int) (hm : l.length ≤ 1048576) : Ev (fun k => laws_toIntS.f k l) l := by
  refine ⟨l.length + 1, fun k hk => ?_⟩
  dsimp only
  unfold laws_toIntS.f
  rw [if_pos (by omega), if_pos (by omega), toIntS_l0 l (by omega) l.length k 0 _ (by omega) (by omega) (by simp) (by omega)]
  simp
theorem eqIntS_l0 (a : List Int) (hm : a.length ≤ 1099511627776) (d : Nat) : ∀ (k : Nat) (i : Int), 0 ≤ i → i + d = a.length → d < k → laws_eqIntS.l0 k a a i = some true := by
  induction d with
  | zero =>
    intro k i h0 hi hk
    obtain ⟨k, rfl, _⟩ := succ_of_lt hk
    simp only [laws_eqIntS.l0]
    rw [if_neg (by omega)]
  | succ d ih =>
    intro k i h0 hi hk
    obtain ⟨k, rfl, hk⟩ := succ_of_lt hk
    simp only [laws_eqIntS.l0, if_true]
    rw [if_pos (by omega), if_pos h0, if_pos (by omega), w64 (by omega) (by omega), ih k (i + 1) (by omega) (by omega) (by omega)]
theorem eqIntS_refl (a : List Int) (hm : a.length ≤ 1099511627776) : Ev (fun k => laws_eqIntS.f k a a) true := by
  refine ⟨a.length + 1, fun k hk => ?_⟩
  dsimp only
  unfold laws_eqIntS.f
  rw [if_pos rfl, eqIntS_l0 a hm a.length k 0 (by omega) (by omega) (by omega)]
end Go.Proofs.Ytijgjpfbhbggdaa.Pure

namespace Go.Proofs.Ytijgjpfbhbggdaa.Pure
open Go.RowKit Go.Proofs.Ytijgjpfbhbggdaa.P Go.Proofs.YtijgjpfbhbggdaaW.PrintWords Go.Proofs.YtijgjpfbhbggdaaW.PrintLast
set_option linter.unusedSimpArgs false
set_option linter.unusedVariables false
open Go.Proofs.Ytijgjpfbhbggdaa.Com
def marksInt (x : Int) : Nat → List Int
  | 0 => []
  | d + 1 => x :: marksInt (x + 1) d
theorem marksInt_length (x : Int) (d : Nat) : (marksInt x d).length = d := by
  induction d generalizing x with
  | zero => rfl
  | succ d ih => simp [marksInt, ih]
theorem markInt_l0 (d : Nat) : ∀ (k : Nat) (i x : Int) (l : List Int), l.length ≤ 1099511627776 → 0 ≤ i → i + d = l.length → 0 ≤ x → x + d ≤ 4611686018427387904 → d < k →
    laws_markIntS.l0 k l x i = some (x + d, l.take i.toNat ++ marksInt x d) := by
  induction d with
  | zero =>
    intro k i x l hm h0 hi hx hb hk
    obtain ⟨k, rfl, _⟩ := succ_of_lt hk
    simp only [laws_markIntS.l0]
    rw [if_neg (by omega), List.take_of_length_le (by omega)]; simp [marksInt]
  | succ d ih =>
    intro k i x l hm h0 hi hx hb hk
    obtain ⟨k, rfl, hk⟩ := succ_of_lt hk
    have hlt : i.toNat < l.length := by omega
    simp only [laws_markIntS.l0]
    rw [if_pos (by omega), if_pos h0]
    rw [w64 (by omega) (by omega), w64 (by omega) (by omega), ih k (i + 1) _ _ (by simpa using hm) (by omega) (by simpa using (by omega : i + 1 + (d : Int) = l.length)) (by omega) (by omega) (by omega)]
    rw [show (i + 1).toNat = i.toNat + 1 from by omega, set_take_succ _ _ _ hlt]
    simp only [marksInt, List.append_assoc, List.singleton_append]
    congr 2
    omega
theorem heldInt_l0 (d : Nat) : ∀ (k : Nat) (i x : Int) (l : List Int), l.length ≤ 1099511627776 → 0 ≤ i → i + d = l.length → 0 ≤ x → x + d ≤ 4611686018427387904 → l.drop i.toNat = marksInt x d → d < k →
    laws_heldIntS.l0 k l x i = some (x + d) := by
  induction d with
  | zero =>
    intro k i x l hm h0 hi hx hb hl hk
    obtain ⟨k, rfl, _⟩ := succ_of_lt hk
    simp only [laws_heldIntS.l0]
    rw [if_neg (by omega)]; simp
  | succ d ih =>
    intro k i x l hm h0 hi hx hb hl hk
    obtain ⟨k, rfl, hk⟩ := succ_of_lt hk
    have hlt : i.toNat < l.length := by omega
    rw [drop_cons l i.toNat 0 hlt] at hl
    simp only [marksInt, List.cons.injEq] at hl
    have hr : rd l i = x := hl.1
    simp only [laws_heldIntS.l0]
    rw [if_pos (by omega), if_pos h0, if_pos hr, w64 (by omega) (by omega), w64 (by omega) (by omega), ih k (i + 1) _ l hm (by omega) (by omega) (by omega) (by omega) (by rw [show (i + 1).toNat = i.toNat + 1 from by omega]; exact hl.2) (by omega)]
    congr 1
    omega
theorem markInt_eq (l : List Int) (hm : l.length ≤ 1099511627776) : Ev (fun k => laws_markIntS.f k l 1) (1 + (l.length : Int), marksInt 1 l.length) := by
  refine ⟨l.length + 1, fun k hk => ?_⟩
  dsimp only
  unfold laws_markIntS.f
  rw [markInt_l0 l.length k 0 1 l hm (by omega) (by omega) (by omega) (by omega) (by omega)]; simp
theorem heldInt_eq (n : Nat) (hm : n ≤ 1099511627776) : Ev (fun k => laws_heldIntS.f k (marksInt 1 n) 1) (1 + (n : Int)) := by
  refine ⟨n + 1, fun k hk => ?_⟩
  dsimp only
  unfold laws_heldIntS.f
  rw [heldInt_l0 n k 0 1 _ (by rw [marksInt_length]; exact hm) (by omega) (by rw [marksInt_length]; omega) (by omega) (by omega) (by simp) (by omega)]
end Go.Proofs.Ytijgjpfbhbggdaa.Pure

namespace Go.Proofs.Ytijgjpfbhbggdaa.Pure
open Go.RowKit Go.Proofs.Ytijgjpfbhbggdaa.P Go.Proofs.YtijgjpfbhbggdaaW.PrintWords Go.Proofs.YtijgjpfbhbggdaaW.PrintLast Go.Proofs.Ytijgjpfbhbggdaa.Com
set_option linter.unusedSimpArgs false
set_option linter.unusedVariables false

theorem FnExactCanAdd : laws_FnExactCanAdd.Pure := by
  rintro x p ⟨hm, _⟩ _
  apply Ev.rounds
  simp only [laws_FnExactCanAdd.f]
  by_cases h : (x.length : Int) > 1048576
  · exact Ev.iteT h (Ev.now true)
  refine Ev.iteF h ?_
  have hx : x.length ≤ 1048576 := by omega
  obtain ⟨r, hr, h1, h2⟩ := canadd_both x p hx
  refine Ev.bind (toIntS_eq x hx) (Ev.bind h1 (Ev.bind (toIntS_eq x hx) (Ev.bind h2 (Ev.bind (eqIntS_refl r (by omega)) (Ev.iteT rfl (Ev.bind (toIntS_eq x hx) (Ev.bind (eqIntS_refl x (by omega)) (Ev.iteT rfl (Ev.bind (markInt_eq x (by omega)) (Ev.iteF (by simp only []; omega) (Ev.bind (eqIntS_refl r (by omega)) ?_)))))))))))
  refine Ev.step (fun q => by simp only [laws_FnExactCanAdd.j0, Bool.not_true, Bool.false_eq_true, if_false]; rfl) ?_
  exact Ev.bind (markInt_eq r (by omega)) (Ev.bind (heldInt_eq r.length (by omega)) (Ev.iteF (by omega) (Ev.iteT rfl (Ev.bind (toIntS_eq x hx) (Ev.bind h2 (Ev.bind (eqIntS_refl r (by omega)) (Ev.iteT rfl (Ev.bind (heldInt_eq r.length (by omega)) (Ev.iteF (by omega) (Ev.iteT rfl (Ev.now true)))))))))))
end Go.Proofs.Ytijgjpfbhbggdaa.Pure

namespace Go.Proofs.Ytijgjpfbhbggdaa.Opn
open Go Go.Deep Go.ChangeShapes Go.WideShapes Go.Proofs.YtijgjpfbhbggdaaW.PrintWords

section
variable {H : Type} (enc : TypeId × Value → H) (P : Program) (w : World) (base : Nat) (spare : Nat → Bool) (held : Bool)
/-- Whatever is read at type t is told by the kind d, and Q holds of it. -/
def Opens {α : Type} (d : Kd α) (t : TypeId) (Q : α → Prop) : Prop :=
  ∀ (fuel : Nat) (cs : List Value) (x : DataW H × List MemPlace), DataW.trod enc P w base spare held fuel t cs = some x → ∃ a, d.K w a cs ∧ Q a
end
section
variable {H : Type} {enc : TypeId × Value → H} {P : Program} {w : World} {base : Nat} {spare : Nat → Bool} {held : Bool}
theorem opens_int {t : TypeId} {k : IntKind} (ht : P.underlying t = some (.int k)) : Opens enc P w base spare held (Kd.int k) t (fun n => (Lit.int k n).wf = true) := fun fuel cs x h => by
  obtain ⟨n, rfl, _, hw⟩ := DataW.trod_int ht h
  exact ⟨n, rfl, hw⟩
theorem opens_bool {t : TypeId} (ht : P.underlying t = some .bool) : Opens enc P w base spare held Kd.bool t (fun _ => True) := fun fuel cs x h => by
  obtain ⟨n, rfl, _⟩ := DataW.trod_bool ht h
  exact ⟨n, rfl, trivial⟩
theorem opens_string {t : TypeId} (ht : P.underlying t = some .string) : Opens enc P w base spare held Kd.string t (fun s => s.size ≤ maxLen) := fun fuel cs x h => by
  obtain ⟨n, rfl, _, hs⟩ := DataW.trod_string ht h
  exact ⟨n, rfl, hs⟩
theorem opens_iso {α β : Type} {d : Kd α} {t : TypeId} {Q : α → Prop} (h : Opens enc P w base spare held d t Q) (f : β → α) (g : α → β) (hfg : ∀ a, f (g a) = a) : Opens enc P w base spare held (Kd.iso d f) t (fun b => Q (f b)) := fun fuel cs x hx => by
  obtain ⟨a, hK, hQ⟩ := h fuel cs x hx
  exact ⟨g a, by show d.K w (f (g a)) cs; rw [hfg]; exact hK, by show Q (f (g a)); rw [hfg]; exact hQ⟩
/-- A list of fields, one behind the other, from the cell o on. -/
def OpensFs (enc : TypeId × Value → H) (P : Program) (w : World) (base : Nat) (spare : Nat → Bool) (held : Bool) {α : Type} (d : Kd α) (o : Nat) (fs : List Field) (Q : α → Prop) : Prop :=
  ∀ (n : Nat) (cs : List Value), cs.length = o + d.sz → (∀ f ∈ fs, ∃ x, DataW.trod enc P w base spare held n f.type ((cs.drop f.offset).take (P.cellsOf f.type)) = some x) → ∃ a, d.K w a (cs.drop o) ∧ Q a
theorem opensFs_one {α : Type} {d : Kd α} {o : Nat} {f : Field} {Q : α → Prop} (h : Opens enc P w base spare held d f.type Q) (ho : f.offset = o) (hc : P.cellsOf f.type = d.sz) : OpensFs enc P w base spare held d o [f] Q := by
  intro n cs hl hf
  obtain ⟨x, hx⟩ := hf f (by simp)
  obtain ⟨a, hK, hQ⟩ := h n _ x hx
  refine ⟨a, ?_, hQ⟩
  rwa [ho, hc, List.take_of_length_le (by rw [List.length_drop]; omega)] at hK
theorem opensFs_cons {α β : Type} {d : Kd α} {e : Kd β} {o : Nat} {f : Field} {fs : List Field} {Q : α → Prop} {R : β → Prop} (h : Opens enc P w base spare held d f.type Q) (hs : OpensFs enc P w base spare held e (o + d.sz) fs R) (ho : f.offset = o) (hc : P.cellsOf f.type = d.sz) :
    OpensFs enc P w base spare held (Kd.pair d e) o (f :: fs) (fun x => Q x.1 ∧ R x.2) := by
  intro n cs hl hf
  have hz : (Kd.pair d e).sz = d.sz + e.sz := rfl
  rw [hz] at hl
  obtain ⟨x, hx⟩ := hf f (by simp)
  obtain ⟨a, hK, hQ⟩ := h n _ x hx
  obtain ⟨b, hK', hR⟩ := hs n cs (by omega) (fun g hg => hf g (by simp [hg]))
  rw [ho, hc] at hK
  refine ⟨(a, b), ⟨(cs.drop o).take d.sz, cs.drop (o + d.sz), ?_, hK, hK'⟩, hQ, hR⟩
  rw [← List.drop_drop, List.take_append_drop]
theorem opens_struct {α : Type} {d : Kd α} {t : TypeId} {fs : Array Field} {Q : α → Prop} (ht : P.underlying t = some (.struct fs)) (hc : P.cellsOf t = d.sz) (h : OpensFs enc P w base spare held d 0 fs.toList Q) : Opens enc P w base spare held d t Q := fun fuel cs x hx => by
  obtain ⟨xs, n, rfl, rfl, hl, hlen, hf⟩ := DataW.trod_struct ht hx
  obtain ⟨a, hK, hQ⟩ := h n cs (by omega) (fun f hm => by
    obtain ⟨i, hi, rfl⟩ := List.mem_iff_getElem.1 hm
    have hi' : i < fs.size := by simpa using hi
    have := hf i fs[i] (by simp [hi'])
    rw [List.getElem?_eq_getElem (by omega)] at this
    exact ⟨_, by simpa using this⟩)
  exact ⟨a, by simpa using hK, hQ⟩
theorem opens_slice {α : Type} {d : Kd α} {t e : TypeId} {Q : α → Prop} (ht : P.underlying t = some (.slice e)) (hc : P.cellsOf e = d.sz) (h : Opens enc P w base spare held d e Q) :
    Opens enc P w base spare held (Kd.slice e d) t (fun xs => xs.length ≤ maxLen ∧ ∀ x ∈ xs, Q x) := fun fuel cs x hx => by
  rcases open_slice ht hx with ⟨rfl, _⟩ | ⟨a, len, cap, m, n, D, Pl, rfl, _, hl, hm, hmm, _, hel⟩
  · exact ⟨[], ⟨none, 0, rfl, Nat.le_refl _, ⟨rfl, by simp, fun h => by simp at h⟩⟩, by simp⟩
  have hlm : len ≤ m := by rw [hmm]; split <;> omega
  have hi : ∀ i : Fin len, ∃ y : α, (∃ cs', w.cells? base (a.add (i.val * P.cellsOf e)) (P.cellsOf e) = some cs' ∧ d.K w y cs') ∧ Q y := fun i => by
    obtain ⟨cs', h1, h2⟩ := hel i.val (by omega)
    obtain ⟨y, hK, hQ⟩ := h _ _ _ h2
    exact ⟨y, ⟨cs', h1, hK⟩, hQ⟩
  let f : Fin len → α := fun i => Classical.choose (hi i)
  have hfs : ∀ i : Fin len, (∃ cs', w.cells? base (a.add (i.val * P.cellsOf e)) (P.cellsOf e) = some cs' ∧ d.K w (f i) cs') ∧ Q (f i) := fun i => Classical.choose_spec (hi i)
  have hlen : (List.ofFn f).length = len := by simp
  have hmax : cap ≤ 9223372036854775807 := by unfold maxLen at hm; omega
  refine ⟨List.ofFn f, ⟨some a, cap, by rw [hlen], by omega, ⟨rfl, by omega, fun _ => ⟨a, rfl, fun j p hj => ?_⟩⟩⟩, by omega, fun y hy => ?_⟩
  · obtain ⟨hj', rfl⟩ := List.getElem?_eq_some_iff.1 hj
    obtain ⟨⟨cs', h1, hK⟩, _⟩ := hfs ⟨j, by omega⟩
    obtain ⟨_, hcl, hcell⟩ := World.cells?_some h1
    refine ⟨cs', by omega, by simpa using hK, fun i u hu => ?_⟩
    have hiu : i < P.cellsOf e := by
      have := (List.getElem?_eq_some_iff.1 hu).1
      omega
    have := hcell i hiu
    rw [Go.Deep.add_add, hu, hc] at this
    exact this
  · obtain ⟨i, rfl⟩ := (List.mem_ofFn).1 hy
    exact (hfs i).2
end
end Go.Proofs.Ytijgjpfbhbggdaa.Opn

namespace Go.Proofs.Ytijgjpfbhbggdaa.fnExactCanAdd
open Go.ChangeShapes Go.WideShapes Go.ChangeAt Go.RowKit Go.Proofs.Ytijgjpfbhbggdaa.P Go.Proofs.Ytijgjpfbhbggdaa.Opn Go.Proofs.YtijgjpfbhbggdaaW.PrintWords
open Go.ChangeMaps (open_string shut_string)
set_option linter.unusedVariables false
set_option linter.unusedSimpArgs false
theorem own : ownKnob Try.prog.godebug = none := by kernel_rfl
theorem laidOut : laidOutB Try.prog = true := by kernel_rfl
set_option maxRecDepth 100000 in
theorem lifted (os : Os) (started : os.Started) (H : Type) (enc : TypeId × Value → H) :
  ReturnsInHanded {} Try.checked os 11 .any (Rows.fnExactCanAddSpec.pre6 enc Try.prog Try.f11 Rows.fnExactCanAddRow.domain false) (Rows.fnExactCanAddSpec.post enc Try.prog Try.f11 false true false false) := by
 refine returnsInHanded_of_change_sized (C := Try.checked) own started (by kernel_rfl) Try.func11
  (ChangeSpec.witness6 (enc := enc) (C := Try.checked) false ⟨#[], #[.slice none 0 0, .int .i64 0], []⟩ 8 (by kernel_rfl) (by kernel_rfl) (by kernel_rfl) (by kernel_rfl)) ?_
 intro W base args ds gs before hval0 hW hcnd hsz0 _
 have hval : ∀ (j : Nat) t v, Try.f11.params[j]? = some t → args[j]? = some v → Value.okWide Try.prog W .any base t v := hval0
 have hW' := hW
 obtain ⟨p, q, hA0, hV, rfl, hfz, hnd⟩ := hW
 have hA : DataW.TrodAll enc Try.prog W 0 (fun _ => true) true Try.f11.params.toList args.toList ds p := hA0
 rw [Try.params11] at hA hval
 obtain ⟨v0, vs0, d0, ds0, p0, q0, hargs, rfl, rfl, h0, r0⟩ := trodAll_cons hA
 obtain ⟨v1, vs1, d1, ds1, p1, q1, rfl, rfl, rfl, h1, r1⟩ := trodAll_cons r0
 obtain ⟨rfl, rfl, rfl⟩ := trodAll_nil r1
 obtain rfl : args = #[v0, v1] := by cases args; simp_all
 obtain ⟨rfl, rfl⟩ := trodVars_none hV
 have k0 := h0
 have lt0 : ∀ x ∈ p0, x.block < W.heap.size := by obtain ⟨m, hm⟩ := k0; exact DataW.trod_lt m _ _ _ hm
 obtain ⟨a0, len0, cap0, rfl⟩ := okWide_slice Try.underlying33 (hval 0 33 v0 rfl rfl)
 obtain ⟨x0, ⟨A0, c0, e0, hc0, hC0⟩, y0⟩ : ∃ xs : List Int, (Kd.slice 3 (Kd.int .i64)).K W xs [.slice a0 len0 cap0] ∧ (xs.length ≤ maxLen ∧ ∀ y0 ∈ xs, (Lit.int .i64 y0).wf = true) := by obtain ⟨m, hm⟩ := h0; exact (opens_slice Try.underlying33 (by kernel_rfl) (opens_int Try.underlying3)) m _ _ hm
 simp only [List.cons.injEq, Value.slice.injEq, and_true] at e0
 obtain ⟨rfl, rfl, rfl⟩ := e0
 obtain ⟨x1, rfl, rfl, rfl, y1⟩ := open_int Try.underlying3 (hval 1 3 v1 rfl rfl) h1
 clear hA0 hval0 hsz0
 obtain ⟨k, hP⟩ := Pure.FnExactCanAdd x0 x1 y0 y1
 refine (laws_FnExactCanAdd.calls k _ _ x0 x1 true W hC0 hc0 hP).mono ?_
 rintro e W' ⟨he, bel0⟩
 have bel : Below W.heap.size W W' := bel0
 subst he
 exact ⟨_, rfl, _, _, _, [], _, [], hW', trodAll_mk1 (shut_bool Try.underlying4 _), (trodAll_cons_mk (Below.trod laidOut (by kernel_rfl) (of_decide_eq_true (by kernel_rfl)) k0 bel lt0) (trodAll_cons_mk (shut_int Try.underlying3 y1) trodAll_mk0)), rfl, bel.frame _, fun h => by cases h⟩
theorem over : Rows.fnExactCanAddRow.holds Try.pinned (OpenSpec.ofChange Rows.fnExactCanAddSpec) :=
 OpenClaim.holds_of_wide 11 Try.f11 rfl rfl rfl rfl rfl rfl rfl ⟨rfl, rfl, rfl, rfl, rfl⟩ rfl rfl rfl rfl rfl (by kernel_rfl) Try.func11 (by kernel_rfl)
  (of_decide_eq_true (by kernel_rfl)) (by unfold Func.isWrapper; first | (rw [if_pos (by decide +kernel)]; kernel_rfl) | (rw [if_neg (by decide +kernel)]; exact ⟨rfl, rfl⟩))
  (fun os started H enc _ => lifted os started H enc)
theorem proved : Rows.FnExactCanAddSaid := over
#print axioms proved
end Go.Proofs.Ytijgjpfbhbggdaa.fnExactCanAdd
namespace Go.Proofs.Ytijgjpfbhbggdaa
/-- The row, under a short name, for the claim. -/
theorem fnExactCanAdd_holds : Rows.FnExactCanAddSaid := fnExactCanAdd.proved
end Go.Proofs.Ytijgjpfbhbggdaa

