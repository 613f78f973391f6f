-- Written by a program of this session (wip/tools/pmore.py) for this claim; Lean checks it.
import Derived.Test.YtdfnongjbddngaaP0
import Derived.Test.YtdfnongjbddngaaPF49
import Derived.Test.YtdfnongjbddngaaPF50
namespace Go.Proofs.Ytdfnongjbddngaa.P
open Go.RowKit Go.Proofs.YtdfnongjbddngaaW.PrintWords Go.Proofs.YtdfnongjbddngaaW.PrintLast Go.Proofs.YtdfnongjbddngaaW.PrintMore
attribute [local go_sem] max2_int min2_int max_two min_two max_three min_three max_four min_four   -- for this text's walks alone
set_option linter.unusedVariables false
set_option linter.unusedSimpArgs false

/-! ### impl_chi_allOf: function 34 -/
theorem chiSet_size (cur : Array Value) (i j k : Int) : (chiSet cur i j k).size = cur.size := by simp [chiSet]
theorem chiSet_zero (cur : Array Value) (i j k : Int) : (chiSet cur i j k)[0]? = cur[0]? := by
  have h : ∀ a b c : Int, chiIx a b c ≠ 0 := fun a b c => by unfold chiIx; omega
  simp only [chiSet]
  rw [Array.getElem?_setIfInBounds_ne (h _ _ _), Array.getElem?_setIfInBounds_ne (h _ _ _), Array.getElem?_setIfInBounds_ne (h _ _ _), Array.getElem?_setIfInBounds_ne (h _ _ _), Array.getElem?_setIfInBounds_ne (h _ _ _), Array.getElem?_setIfInBounds_ne (h _ _ _)]
def chiAsc (t : S75) : Prop := 0 ≤ t.f0 ∧ t.f0 < t.f1 ∧ t.f1 < t.f2 ∧ t.f2 < 7
theorem chiIx_inj {a b c a' b' c' : Int} (ha : 0 ≤ a ∧ a < 7) (hb : 0 ≤ b ∧ b < 7) (hc : 0 ≤ c ∧ c < 7) (ha' : 0 ≤ a' ∧ a' < 7) (hb' : 0 ≤ b' ∧ b' < 7) (hc' : 0 ≤ c' ∧ c' < 7) (h : chiIx a b c = chiIx a' b' c') : a = a' ∧ b = b' ∧ c = c' := by
  unfold chiIx at h
  omega
theorem set_get_one {cur : Array Value} {p q : Nat} {v x : Value} (h : cur[q]? = some x) (hv : p = q → v = x) : (cur.setIfInBounds p v)[q]? = some x := by
  rw [Array.getElem?_setIfInBounds]
  by_cases e : p = q
  · subst e
    have : p < cur.size := by
      rcases Nat.lt_or_ge p cur.size with h1 | h1
      · exact h1
      · rw [Array.getElem?_eq_none h1] at h; cases h
    rw [if_pos rfl, if_pos this, hv rfl]
  · rw [if_neg e, h]
theorem chiSet_kept (cur : Array Value) (i j k a b c : Int) (hi : 0 ≤ i ∧ i < j ∧ j < k ∧ k < 7) (ha : 0 ≤ a ∧ a < b ∧ b < c ∧ c < 7) (h : cur[chiIx a b c]? = some (.int .i64 1)) : (chiSet cur i j k)[chiIx a b c]? = some (.int .i64 1) := by
  have N : ∀ x y z : Int, 0 ≤ x ∧ x < 7 → 0 ≤ y ∧ y < 7 → 0 ≤ z ∧ z < 7 → ¬ (x < y ∧ y < z) → chiIx x y z ≠ chiIx a b c := fun x y z h1 h2 h3 h4 h5 => by
    have := chiIx_inj h1 h2 h3 (by omega) (by omega) (by omega) h5
    omega
  unfold chiSet
  refine set_get_one (set_get_one (set_get_one (set_get_one (set_get_one (set_get_one h (fun _ => rfl)) (fun _ => rfl)) (fun _ => rfl)) (fun e => absurd e (N _ _ _ ?_ ?_ ?_ ?_))) (fun e => absurd e (N _ _ _ ?_ ?_ ?_ ?_))) (fun e => absurd e (N _ _ _ ?_ ?_ ?_ ?_)) <;> omega
theorem chiSet_got (cur : Array Value) (hs : cur.size = 344) (i j k : Int) (hi : 0 ≤ i ∧ i < j ∧ j < k ∧ k < 7) : (chiSet cur i j k)[chiIx i j k]? = some (.int .i64 1) := by
  have hlt : chiIx i j k < 344 := chiIx_lt (by omega) (by omega) (by omega)
  have N : ∀ x y z : Int, 0 ≤ x ∧ x < 7 → 0 ≤ y ∧ y < 7 → 0 ≤ z ∧ z < 7 → ¬ (x < y ∧ y < z) → chiIx x y z ≠ chiIx i j k := fun x y z h1 h2 h3 h4 h5 => by
    have := chiIx_inj h1 h2 h3 (by omega) (by omega) (by omega) h5
    omega
  unfold chiSet
  refine set_get_one (set_get_one (set_get_one (set_get_one (set_get_one (x := .int .i64 1) (p := chiIx j k i) ?_ (fun _ => rfl)) (fun _ => rfl)) (fun e => absurd e (N _ _ _ ?_ ?_ ?_ ?_))) (fun e => absurd e (N _ _ _ ?_ ?_ ?_ ?_))) (fun e => absurd e (N _ _ _ ?_ ?_ ?_ ?_))
  · rw [Array.getElem?_setIfInBounds, if_pos rfl, if_pos (by omega)]
  all_goals omega
set_option maxHeartbeats 8000000 in
set_option maxRecDepth 100000 in
theorem chi_all_calls (K : Nat) (u0 w : World) (g : Nat) (cur : Array Value) (n : Int) (r : List S75) (hr : impl_triplesOf.f K n = some r) (hlen : r.length ≤ 35) (hasc : ∀ t ∈ r, chiAsc t) (hh : w.heap[g]? = some (.cells cur 60 (0, 0))) (hs : cur.size = 344) (hc0 : cur[0]? = some (.int .i64 n)) (hB : Below u0.heap.size u0 w) (hg : u0.heap.size ≤ g) :
    Calls Try.prog 34 #[.pointer (some ⟨g, 0, none⟩), .int .i64 1] w fun e' w' => e' = .returned (.pointer (some ⟨g, 0, none⟩)) ∧ (∃ cur' : Array Value, w'.heap[g]? = some (.cells cur' 60 (0, 0)) ∧ cur'.size = 344 ∧ cur'[0]? = some (.int .i64 n) ∧ ∀ t ∈ r, cur'[chiIx t.f0 t.f1 t.f2]? = some (.int .i64 1)) ∧ Below u0.heap.size u0 w' := by
  have hu75 := Try.underlying75
  have hcz0 : w.cell? ⟨g, 0, none⟩ = some (.int .i64 n) := (blk_cell hh 0).trans hc0
  have H0 := Aside0.mk hh
  have HB := Aside0.mk hB
  have HG := Aside0.mk hg
  have HR := Aside0.mk hr
  have HS := Aside0.mk hs
  have HC := Aside0.mk hc0
  have HL := Aside0.mk hlen
  have HA := Aside0.mk hasc
  clear hh hB hg hr hs hc0 hlen hasc
  go_enter Try.func34, Try.ntmps34
  go_wp2_with (first | ((with_reducible refine gate_callee (f := 49) rfl ?_); refine goesL_ (some 11) rfl rfl Try.func49 (by kernel_rfl) rfl #[.int .i64 n] rfl (by (try simp only [List.map_toArray, List.map_cons, List.map_nil]); first | done | rfl | (simp only [List.length_drop, List.length_take]; rfl)) ?_; (with_reducible refine (impl_triplesOf.calls K n r _ HR.out).mono ?_); rintro e w3 ⟨v102, rfl, ho0, hb⟩; refine ⟨_, rfl, ?_⟩; have n0_ := Aside0.mk (Kd.R_lower ho0 (below_size (by repeat (first | (with_reducible first | exact HB.out | apply below_alloc | apply pw_below_drewN | apply below_drew1) | exact HB.out)))); have n1_ := Aside0.mk (below_step (by repeat (first | (with_reducible first | exact HB.out | apply below_alloc | apply pw_below_drewN | apply below_drew1) | exact HB.out)) hb); have n2_ := Aside0.mk (blk_below (g := g) (o := .cells cur 60 (0, 0)) (by (with_reducible repeat (first | refine blk_drewN ?_ _ | refine blk_drew ?_ | refine blk_alloc ?_ _)); exact H0.out) hb); clear HB H0 hcz0; have HO_8 := n0_; have HB := n1_; have H0 := n2_; clear n0_ n1_ n2_ hb ho0; obtain ⟨Ao4, co4, eo4⟩ := Kd.R_slice HO_8.out; subst eo4))
  go_loopg [13] r.length (fun kq v13 w' => ∃ (x : Int) (ix : Nat) (cur' : Array Value), v13 = .int .i64 x ∧ Aside0 (x = (ix : Int)) ∧ Aside0 (kq + ix = r.length) ∧ Aside0 (w'.heap[g]? = some (.cells cur' 60 (0, 0))) ∧ Aside0 (cur'.size = 344) ∧ Aside0 (cur'[0]? = some (.int .i64 n)) ∧ Aside0 (∀ t ∈ r.take ix, cur'[chiIx t.f0 t.f1 t.f2]? = some (.int .i64 1)) ∧ Aside0 (Kd.R k75 75 w' u0.heap.size (fun _ => True) (.slice Ao4 r.length co4) r) ∧ Aside0 (Below u0.heap.size u0 w'))
  case atStart => exact ⟨0, 0, cur, rfl, ⟨rfl⟩, ⟨rfl⟩, ⟨H0.out⟩, HS, HC, ⟨by intro t ht; simp at ht⟩, HO_8, HB⟩
  case round =>
    clear H0 HS HC HO_8 HB cur
    obtain ⟨x, ix, cur, rfl, HX, HK1, H0, HS, HC, HT, HO_8, HB⟩ := hrel
    by_cases c5 : x < (r.length : Int)
    · have c5b0 : decide (x < (r.length : Int)) = true := decide_eq_true c5
      have hx := HX.out
      have p104 : 0 ≤ x := by omega
      have q104 := c5
      have hixn : ix < r.length := by omega
      have hrd : rd_T75 r x = r[ix] := by rw [hx]; simp [rd_T75, hixn]
      have HASC := Aside0.mk (show chiAsc (rd_T75 r x) by rw [hrd]; exact HA.out _ (List.getElem_mem hixn))
      have HRD := Aside0.mk (show r[ix]? = some (rd_T75 r x) by rw [hrd]; exact List.getElem?_eq_getElem hixn)
      have HIX := Aside0.mk hixn
      have HW : wrap64 (x + 1) = ((ix + 1 : Nat) : Int) := by have := HL.out; unfold wrap64; omega
      have HW := Aside0.mk HW
      clear c5 hrd hixn hx
      obtain ⟨ad104, e104, hx104_0, hx104_1, hx104_2⟩ := at_T75 (Kd.R_reads' HO_8.out).2.2 x p104 q104
      cases e104
      replace p104 := eq_true p104
      replace q104 := eq_true q104
      go_wp2_with (first | ((with_reducible refine gate_dst (N := 6) rfl ?_); refine box_event ?hg (N := 6) ?hd (cs := #[.int .i64 0, .int .i64 0, .int .i64 0]) (t := 75) ?hr ?_; (case hd => rfl); (case hg => rfl); (case hr => first | (go_simp; done) | (go_simp; rfl)); intro gb105 hg w8 hbox hb; have n1_ := Aside0.mk (Kd.R_below (Kd.R_elderB (by (with_reducible repeat (first | apply Kd.R_alloc | apply Kd.R_drewN | apply Kd.R_drew)); exact HO_8.out) gb105 (Nat.le_of_eq hg.symm)) hb); have n2_ := Aside0.mk (below_step (by repeat (first | (with_reducible first | exact HB.out | apply below_alloc | apply pw_below_drewN | apply below_drew1) | exact HB.out)) hb); have n3_ := Aside0.mk (hbox); have n4_ := Aside0.mk (show gb105 ≠ g by have := blk_lt H0.out; rw [hg]; show _ ≠ g; exact Nat.ne_of_gt this); have n5_ := Aside0.mk ((by rw [hg]; exact (below_size (by repeat (first | (with_reducible first | exact HB.out | apply below_alloc | apply pw_below_drewN | apply below_drew1) | exact HB.out))) : u0.heap.size ≤ gb105)); have n6_ := Aside0.mk (blk_below (g := g) (o := .cells cur 60 (0, 0)) (by (with_reducible repeat (first | refine blk_drewN ?_ _ | refine blk_drew ?_ | refine blk_alloc ?_ _)); exact H0.out) hb); clear HO_8; clear HB; clear H0; have HO_8 := n1_; have HB := n2_; have BK105 := n3_; have GW105 := n4_; have GE105 := n5_; have H0 := n6_; clear n1_ n2_ n3_ n4_ n5_ n6_; clear hb hbox hg; have hcz9_0 : w8.cell? ⟨gb105, 0, none⟩ = some (.int .i64 0) := (blk_cell BK105.out 0).trans rfl; have hcz9_1 : w8.cell? ⟨gb105, 1, none⟩ = some (.int .i64 0) := (blk_cell BK105.out 1).trans rfl; have hcz9_2 : w8.cell? ⟨gb105, 2, none⟩ = some (.int .i64 0) := (blk_cell BK105.out 2).trans rfl; have hfz9_0 := blk_frozen BK105.out 0; have hfz9_1 := blk_frozen BK105.out 1; have hfz9_2 := blk_frozen BK105.out 2) | ((with_reducible refine gate_callee (f := 50) rfl ?_); refine goesL_ (some 25) rfl rfl Try.func50 (by kernel_rfl) rfl #[.pointer (some ⟨g, 0, none⟩), .int .i64 (rd_T75 r x).f0, .int .i64 (rd_T75 r x).f1, .int .i64 (rd_T75 r x).f2, .int .i64 1] rfl (by (try simp only [List.map_toArray, List.map_cons, List.map_nil]); first | done | rfl) ?_; have hA := HASC.out; unfold chiAsc at hA; have hN := GW105.out; refine (chi_set_calls u0 _ g 60 cur (rd_T75 r x).f0 (rd_T75 r x).f1 (rd_T75 r x).f2 ?h1 HS.out ?h2 HG.out (by omega) (by omega) (by omega)).mono ?_; (case h1 => exact (Below.heap_setCell _ _ _ _ (Ne.symm hN)).trans ((Below.heap_setCell _ _ _ _ (Ne.symm hN)).trans ((Below.heap_setCell _ _ _ _ (Ne.symm hN)).trans H0.out))); (case h2 => exact (by repeat (first | (with_reducible first | exact HB.out | apply below_alloc | apply pw_below_drewN | apply below_drew1 | refine below_set ?_ GE105.out) | exact HB.out))); rintro e' w10 ⟨rfl, hh1, hb1, hk1⟩; refine ⟨_, rfl, ?_⟩))
      have HO9 := Aside0.mk (Kd.R_keep (Kd.R_far (p := ⟨gb105, 2, none⟩) (Kd.R_far (p := ⟨gb105, 1, none⟩) (Kd.R_far (p := ⟨gb105, 0, none⟩) (Kd.R_types HO_8.out H0.out (by decide)) (fun _ hk => hk.1.2) (.int .i64 ((rd_T75 r x).f0))) (fun _ hk => hk.1.2) (.int .i64 ((rd_T75 r x).f1))) (fun _ hk => hk.1.2) (.int .i64 ((rd_T75 r x).f2))) hk1 (fun _ hk => hk.2))
      have HO9 := Aside0.mk (Kd.R_mono (ok' := fun _ => True) HO9.out (fun _ _ => trivial))
      go_roundg (gk - 1)
      case measure => have := HK1.out; have := HIX.out; omega
      case rel => exact ⟨wrap64 (x + 1), ix + 1, chiSet cur (rd_T75 r x).f0 (rd_T75 r x).f1 (rd_T75 r x).f2, (by first | rfl | (simp; done)), ⟨HW.out⟩, ⟨by have := HK1.out; have := HIX.out; omega⟩, ⟨hh1⟩, ⟨by rw [chiSet_size]; exact HS.out⟩, ⟨by rw [chiSet_zero]; exact HC.out⟩, ⟨by
          intro t ht
          rw [List.take_add_one, List.mem_append] at ht
          rcases ht with ht | ht
          · exact chiSet_kept _ _ _ _ _ _ _ HASC.out (HA.out t (List.mem_of_mem_take ht)) (HT.out t ht)
          · rw [HRD.out] at ht
            simp at ht
            subst ht
            exact chiSet_got _ HS.out _ _ _ HASC.out⟩, HO9, ⟨hb1⟩⟩
    · have c5b0 : decide (x < (r.length : Int)) = false := decide_eq_false c5
      have HE := Aside0.mk (show ix = r.length by have := HK1.out; have := HX.out; omega)
      clear c5
      go_wp2
      first | go_ret | go_ret2 | go_end0
      exact ⟨rfl, ⟨cur, H0.out, HS.out, HC.out, fun t ht => HT.out t (by rw [HE.out, List.take_length]; exact ht)⟩, HB.out⟩

end Go.Proofs.Ytdfnongjbddngaa.P
